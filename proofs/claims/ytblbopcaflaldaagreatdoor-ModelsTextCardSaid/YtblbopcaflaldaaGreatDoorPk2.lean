/- Texts of this proof, one behind the other: Cel, Del, IntLists, GraphShape, ProductsCode, Rng, Box, Grow, Win, WinCode, GraphNode, GraphShapes, WtsPl, NumsCode, PutCode, SumsCode, TensList, Book, Bkn, MdlCode, MdlRead, MdlPl. -/
import Derived.Test.YtblbopcaflaldaaGreatDoorPk1
import Derived.Lib.AppendZerosOnto
import Derived.Laws.Pointers
import Derived.RangeFuncNested
import Derived.RangeFuncLeaves
import Derived.TacticsIn
import Derived.OrdersIn

namespace Go.Dd
open Go Go.RowKit List
def GD (xs:List Value) (o:Nat) (ds:List Value):List Value:=xs.take o++ds++xs.drop (o+ds.length)
theorem Ih {xs ds:List Value} {o:Nat} (h:o+ds.length≤xs.length):(GD xs o ds).length=xs.length:=by
 simp only [GD,length_append,length_take,length_drop];omega
theorem Ii {xs ds:List Value} {o i:Nat} (h:o+ds.length≤xs.length):(GD xs o ds)[i]? =if i<o then xs[i]? else if i<o+ds.length then ds[i - o]? else xs[i]? :=by
 have a:(xs.take o).length=o:=by rw [length_take];omega
 unfold GD
 by_cases hi:i<o
 ·rw [if_pos hi,append_assoc,getElem?_append_left (by omega),getElem?_take,if_pos hi]
 ·rw [if_neg hi]
  by_cases hj:i<o+ds.length
  ·rw [if_pos hj,getElem?_append_left (by rw [length_append];omega),getElem?_append_right (by omega),a]
  ·rw [if_neg hj,getElem?_append_right (by rw [length_append];omega),length_append,a,getElem?_drop]
   congr 1;omega
theorem Ov {xs:List Value} {o:Nat} {u:Value} (h:o<xs.length):GD xs o [u]=xs.set o u:=by
 apply ext_getElem?
 intro i
 rw [Ii (by simp;omega),getElem?_set]
 by_cases h1:i<o
 ·rw [if_pos h1,if_neg (by omega)]
 ·rw [if_neg h1]
  by_cases h2:i=o
  ·subst h2;simp [h]
  ·rw [if_neg (by simp;omega),if_neg (fun e=>h2 e.symm)]
theorem JH {xs ds:List Value} {o m:Nat} (h:o+ds.length≤m) (a:m≤xs.length):(GD xs o ds).take m=GD (xs.take m) o ds:=by
 apply ext_getElem?
 intro i
 rw [getElem?_take,Ii (by omega),Ii (by rw [length_take];omega),getElem?_take]
 by_cases h1:i<m
 ·rw [if_pos h1,if_pos h1]
 ·rw [if_neg h1,if_neg h1,if_neg (by omega),if_neg (by omega)]
def FR {α:Type} (f:α→List Value) (l:List α):List Value:=(l.map f).flatten
section
variable {α : Type} {f : α → List Value} {k : Nat}
theorem Km {a:α} {l:List α}:FR f (a::l)=f a++FR f l:=rfl
theorem Jx:∀{l:List α} {j i:Nat},(∀a ∈ l,(f a).length=k)→(c:j<l.length)→i<k→(FR f l)[j*k+i]? =(f l[j])[i]?
 |a::l,0,i,h,_,hi=>by
  rw [Km,Nat.zero_mul,Nat.zero_add,getElem?_append_left (by rw [h a (by simp)];exact hi)];rfl
 |a::l,j+1,i,h,c,hi=>by
  rw [Km,getElem?_append_right (by rw [h a (by simp),Nat.succ_mul];omega),h a (by simp),show (j+1)*k+i - k=j*k+i by rw [Nat.succ_mul];omega,Jx (fun b d=>h b (mem_cons_of_mem _ d)) (by simpa using c) hi];rfl
end
theorem M8:∀(vs:List Value) (k off:Nat) (a:Array Value),off+k+vs.length≤a.size→(vs.zipIdx k).foldl (fun cs x=>cs.setIfInBounds (off+x.2) x.1) a=(GD a.toList (off+k) vs).toArray
 |[],k,off,a,_=>by simp [GD]
 |v::vs,k,off,a,h=>by
  have b:off+k<a.size:=by simp at h;omega
  rw [zipIdx_cons,foldl_cons,M8 vs (k+1) off _ (by simp at h ⊢;omega)]
  congr 1
  simp only [Array.toList_setIfInBounds]
  apply ext_getElem?
  intro i
  rw [Ii (by simp at h ⊢;omega),Ii (by simp at h ⊢;omega),getElem?_set]
  simp only [Array.length_toList,length_cons]
  by_cases c1:i<off+k
  ·rw [if_pos (by omega),if_pos c1,if_neg (by omega)]
  ·rw [if_neg c1]
   by_cases c2:i=off+k
   ·subst c2
    rw [if_pos (by omega),if_pos rfl,if_pos b,if_pos (by omega),Nat.sub_self,getElem?_cons_zero]
   ·rw [if_neg (show ¬i<off+(k+1) by omega)]
    by_cases c3:i<off+k+(vs.length+1)
    ·rw [if_pos (show i<off+(k+1)+vs.length by omega),if_pos c3,show i - (off+k)=(i - (off+(k+1)))+1 by omega,getElem?_cons_succ]
    ·rw [if_neg (show ¬i<off+(k+1)+vs.length by omega),if_neg (show ¬off+k=i by omega),if_neg c3]
theorem Rn {LZ:Nat→Option (Nat×Nat)} {a:Array Value} {i off:Nat} {v:Value} {ds:List Value} (b:v.cells=ds.toArray) (d:LZ i=some (off,ds.length)) (h:off+ds.length≤a.size):Instr.fill LZ a [(i,v)]=some (GD a.toList off ds).toArray:=by
 have g:=M8 ds 0 off a (by omega)
 have e:v.cells.zipIdx.foldl (fun cs (c,j)=>cs.setIfInBounds (off+j) c) a=(GD a.toList off ds).toArray:=by
  rw [b]
  have:ds.toArray.zipIdx=(ds.zipIdx).toArray:=by simp
  rw [this,foldl_toArray]
  simpa using g
 unfold Instr.fill
 simp only [d,b,size_toArray]
 rw [if_neg (by simp;omega)]
 rw [b] at e
 rw [e]
 rfl
theorem Sc {xs ds:List Value} (h:xs.length=ds.length):GD xs 0 ds=ds:=by
 unfold GD
 rw [take_zero,nil_append,drop_of_length_le (by omega),append_nil]
section
variable {P : Program} {n : Nat} {E : BZ} {w : World} {ty t e : TypeId} {x : Operand} {sz : Nat}
theorem Er {cs h:List Value} {a:Nat} (d:FO P t e sz) (i:He P e h a) (j:ev E x=some (.agg cs.toArray)) (b:cs.length=sz) (c:0<sz) (g:sz≤16777216):
  Xw P n E (.buildSlice t 1 #[(0,x)]) ty w (fun v w' =>w'.ownsRow w.heap.size e sz v 1 cs∧v= .slice (some ⟨w.heap.size,0,none⟩) 1 1∧Below w.heap.size w w' ∧w'.heap.size=w.heap.size+1):=by
 subst b
 refine Gc (ps:=[(0,x)]) (vs:=[(0, .agg cs.toArray)]) d i (by simp [pev,j]) c Nat.zero_lt_one (by omega) ?_ (by omega)
 rw [Rn (off:=0) (ds:=cs) rfl (by simp) (by simp)]
 rw [Sc (by simp)]
end
theorem ER {w:World} {base:Nat} {T:TypeId} {sz n g:Nat} {v:Value} {xs:List Value} (h:w.ownsRow base T sz v n xs) (l:v.ownBlock=some g):
  ∃cap a,v= .slice (some ⟨g,0,none⟩) n cap∧AN w g T a∧a.take (n*sz)=xs∧n≤cap∧cap≤maxLen∧a.length=cap*sz∧base≤g:=by
 rcases h.2 with ⟨rfl,_⟩|⟨o,cap,a,rfl,m,i,d,c,j,b⟩
 ·cases l
 ·obtain rfl:o=g:=by simpa [Value.ownBlock] using l
  exact ⟨cap,a.toList,rfl,by unfold AN;simpa using i,b,d,c,by simpa using j,m⟩
theorem Il {w:World} {base:Nat} {T:TypeId} {sz n g cap:Nat} {a:List Value} (h:AN w g T a) (b:a.length=cap*sz) (c:n≤cap) (i:cap≤maxLen) (d:base≤g):w.ownsRow base T sz (.slice (some ⟨g,0,none⟩) n cap) n (a.take (n*sz)):=
 ⟨by rw [length_take,b];exact Nat.min_eq_left (Nat.mul_le_mul_right _ c), .inr ⟨g,cap,a.toArray,rfl,d,h,c,i,by simpa using b,by simp⟩⟩
section
variable {P : Program} {n : Nat} {E : BZ} {w : World} {e ty t : TypeId} {x y z : Operand} {u v : Value}
theorem Gi {k:IntKind} {m:Int} {base sz c g:Nat} {T:TypeId} {xs:List Value} (l:FO P t e sz) (r:ev E x=some v) (i:ev E y=some (.int k m)) (h:w.ownsRow base T sz v c xs) (o:v.ownBlock=some g) (j:Nat) (b:m=(j:Int)) (d:j<c):
  Ex P n E (.indexAddr t x y) ty w (.pointer (some ⟨g,j*sz,none⟩)):=by
 obtain ⟨cap,a,rfl, -⟩:=ER h o
 refine (Cu l r i (AG h) j b d).as ?_
 simp [BW,add_lit]
theorem Ex.ldO {base sz c g o:Nat} {T:TypeId} {xs:List Value} (d:(isAgg e).run P w= .ok false w) (m:ev E x=some (.pointer (some ⟨g,o,none⟩))) (h:w.ownsRow base T sz v c xs) (l:v.ownBlock=some g) (a:xs[o]? =some u):Ex P n E (.load e x) ty w u:=by
 obtain ⟨cap,i,rfl,j,b, -⟩:=ER h l
 refine Ak d m j ?_
 rw [← b,getElem?_take] at a
 split at a
 ·exact a
 ·cases a
theorem Xu.stAt {b o k:Nat} {T:TypeId} {cs ds:List Value} (hs:(P.info? e).map (·.size)=some k) (g:ds.length=k) (B:ev E x=some (.pointer (some ⟨b,o,none⟩))) (A:ev E y=some (.agg ds.toArray)) (d:ds.all (·.oneCell')=true) (h:AN w b T cs) (r:o+ds.length≤cs.length):
  Xu P n E (.store e x y) ty w (fun w' =>AN w' b T (GD cs o ds)∧w.grownBy w' (some b)∧w'.heap.size=w.heap.size):=fun a m=>by
 subst g
 have c:=run_storeCells_at P b o T ds 0 cs.toArray w h (by simpa using r) (fun v j=>List.all_eq_true.1 d v j)
 simp only [Nat.add_zero] at c
 refine ⟨w.setRow b (GD cs o ds).toArray,fun _ _ _ _=> ?_,setRow_heap w b _ _ _ _ h,⟨rfl,rfl,rfl,by simp [World.setRow],fun k _ g=>setRow_other w b k _ (fun e=>g (by simp [e]))⟩,by simp [World.setRow]⟩
 cases hq:P.info? e with
 |none=>simp [hq] at hs
 |some i=>
  have l:ds.length=i.size:=by simp [hq] at hs;omega
  have j:(storeVar e ⟨b,o,none⟩ (.agg ds.toArray)).run P w= .ok () (w.setRow b (GD cs o ds).toArray):=by
   simp [storeVar,sizeOf,typeInfo,hq,Value.cells,l,c,GD]
  simp [execOp,m.ev B,m.ev A,Instr.storeAt,Instr.sureAddr,j]
theorem Xu.stAO {base sz c g o k:Nat} {T:TypeId} {xs ds:List Value} (hs:(P.info? e).map (·.size)=some k) (D:ds.length=k) (K:ev E x=some (.pointer (some ⟨g,o,none⟩))) (J:ev E y=some (.agg ds.toArray)) (b:ds.all (·.oneCell')=true) (h:w.ownsRow base T sz v c xs) (C:v.ownBlock=some g) (N:o+ds.length≤xs.length):
  Xu P n E (.store e x y) ty w (fun w' =>w'.ownsRow base T sz v c (GD xs o ds)∧w.grownBy w' (some g)∧w'.heap.size=w.heap.size):=fun a L=>by
 have r:=h.1
 obtain ⟨cap,i,rfl,B,d,l,A,m,F⟩:=ER h C
 have j:c*sz≤i.length:=by rw [m];exact Nat.mul_le_mul_right _ l
 obtain ⟨w',G,M,H,I⟩:=Xu.stAt (ty:=ty) hs D K J b B (by omega) a L
 refine ⟨w',G, ?_,H,I⟩
 have:=Il (base:=base) (sz:=sz) (n:=c) (cap:=cap) M (by rw [Ih (by omega)];exact m) l A F
 rwa [JH (by omega) j,d] at this
theorem Xu.stO1 {base sz c g o:Nat} {T:TypeId} {xs:List Value} (i:(sizeOf e).run P w= .ok 1 w) (L:ev E x=some (.pointer (some ⟨g,o,none⟩))) (K:ev E y=some u) (b:u.oneCell' =true) (h:w.ownsRow base T sz v c xs) (F:v.ownBlock=some g) (N:o<xs.length):
  Xu P n E (.store e x y) ty w (fun w' =>w'.ownsRow base T sz v c (GD xs o [u])∧w.grownBy w' (some g)∧w'.heap.size=w.heap.size):=fun a M=>by
 have B:=h.1
 obtain ⟨cap,j,rfl,D,d,m,C,r,G⟩:=ER h F
 have l:c*sz≤j.length:=by rw [r];exact Nat.mul_le_mul_right _ m
 obtain ⟨w',H,A,I,J⟩:=C4 (P:=P) (ty:=ty) i L K b D (by omega) a M
 refine ⟨w',H, ?_,I,J⟩
 rw [← Ov (by omega)] at A
 have:=Il (base:=base) (sz:=sz) (n:=c) (cap:=cap) A (by rw [Ih (by simp;omega)];exact r) m C G
 rwa [JH (by simp;omega) l,d] at this
theorem Ex.arrH {b o c j:Nat} {k:IntKind} (l:P.underlying t=some (.array c e)) (d:∀w,(sizeOf e).run P w= .ok 1 w) (m:ev E x=some (.pointer (some ⟨b,o,none⟩))) (i:ev E y=some (.int k (j:Int))) (h:j≤c):Ex P n E (.slice t x none (some y) none) ty w (.slice (some ⟨b,o,none⟩) j c):=fun a g _ _ _ _=>by
 have r:(0:Int)≤(j:Int)∧(j:Int)≤(c:Int):=by omega
 simp [execOp,g.ev m,g.ev i,Instr.sliceAt,run_underlying l,Instr.sureAddr,Instr.sliceBounds,Instr.sliceBound,asIntOf,h,d w,add_lit]
def Ve (v:Value) (sz i j:Nat):Value:=match v with
 | .slice ao _ _=> .slice (if j=i then ao else ao.map (·.add (i*sz))) (j - i) (j - i)
 |_=>undef
end
section
variable {P : Program} {n : Nat} {E : BZ} {w : World} {ty t s : TypeId} {x y : Operand} {p q : BitVec 64}
end

section
variable {P : Program} {n : Nat} {E : BZ} {w : World} {e ty t : TypeId} {x y z : Operand} {u v : Value}
theorem Lw.valU {Q:BN} {f b:List Oper} {c:String} {m:Array Edge} {d:Op} {R:Value→World→Prop} (h:Xw P n E d ty w R) (k:∀v w',R v w' →Lw P f Q n b E w'):Lw P f Q n (⟨none,d,ty,c,m,none⟩::b) E w:=
 fun a g=>wpList_plain rfl fun K l=>by
  obtain ⟨v,w',j,i⟩:=h a g
  unfold Oper.wp;rw [j];exact l _ _ (k v w' i _ (g.put_none _))
theorem Gy {b k m cap:Nat} {T:TypeId} {f d:List Value} {j:Nat} {Q:Value} (F:FO P t e 1) (M:He P e [Q] j) (N:ev E x=some (.slice (some ⟨b,0,none⟩) k cap)) (J:ev E y=some u)
  (h:AN w b T f) (Z:f.length=cap) (r:Sl w 1 u m d) (p:d.all (·.oneCell')=true) (L:k+m≤cap):
  Xw P n E (.call {callee:= .builtin .append,args:= #[x,y],argTypes:= #[t,t]}) ty w (fun v' w' =>v' = .slice (some ⟨b,0,none⟩) (k+m) cap∧AN w' b T (GD f k d)∧w.grownBy w' (some b)∧w'.heap.size=w.heap.size):=fun a G=>by
 obtain ⟨i,D,l,Y,zv,U,V⟩:=M.i
 have l:i.size=1:=l
 obtain ⟨B,C,c,rfl,W,X,K,S⟩:=r
 rw [Nat.mul_one] at B
 have g:=run_storeCells_at P b k T d 0 f.toArray w h (by simp;omega) (fun v R=>List.all_eq_true.1 p v R)
 simp only [Nat.add_zero] at g
 have o:(Builtin.append_ #[t,t] ty #[.slice (some ⟨b,0,none⟩) k cap, .slice C m c]).run P w= .ok (.slice (some ⟨b,0,none⟩) (k+m) cap) (w.setRow b (GD f k d).toArray):=by
  cases C with
  |none=>
   have H:=K rfl
   have s:m=0:=by omega
   subst s
   obtain rfl:d=[]:=eq_nil_of_length_eq_zero (by simpa using B)
   have A:k≤cap:=by omega
   simp [Builtin.append_,run_underlying F.u,sizeOf,typeInfo,D,l,Builtin.lenOf,A,Builtin.firstCells,Addr.add_lit,g,GD]
  |some ad=>
   have q:=run_firstCells_some (P:=P) w i.size m ad m c d (by rw [l,Nat.mul_one];exact B) (S ad rfl)
   rw [l] at q
   simp [Builtin.append_,run_underlying F.u,sizeOf,typeInfo,D,l,Builtin.lenOf,L,q,Addr.add_lit,g,GD]
 exact ⟨_,_,fun _ _ _ _=>by simp [execOp,resolve,invoke,builtin,G.ev N,G.ev J,o],rfl,setRow_heap w b _ _ _ _ h,⟨rfl,rfl,rfl,by simp [World.setRow],fun k _ I=>setRow_other w b k _ (fun e=>I (by simp [e]))⟩,by simp [World.setRow]⟩
theorem Xw.clear {b o m c:Nat} {T:TypeId} {d:List Value} {g:Nat} {f:Value} (H:FO P t e 1) (I:He P e [f] g) (s:f.oneCell' =true) (J:ev E x=some (.slice (some ⟨b,o,none⟩) (m+1) c)) (h:AN w b T d) (Q:o+(m+1)≤d.length):
  Xw P n E (.call {callee:= .builtin .clear,args:= #[x],argTypes:= #[t]}) ty w (fun _ w' =>AN w' b T (GD d o (replicate (m+1) f))∧w.grownBy w' (some b)∧w'.heap.size=w.heap.size):=fun a M=>by
 obtain ⟨i,F,B,R,zv,D,G⟩:=I.i
 have B:i.size=1:=B
 have p:zv.cells= #[f]:=G
 have A:∀q,Builtin.zeroCells zv.cells q=(replicate q f).toArray:=fun q=>by
  apply Array.ext
  ·simp [Builtin.zeroCells,p]
  ·intro j N S
   simp [Builtin.zeroCells,p,Nat.mod_one]
 have l:=run_storeCells_at P b o T (replicate (m+1) f) 0 d.toArray w h (by simp;omega) (fun v L=>by rw [(List.mem_replicate.1 L).2];exact s)
 simp only [Nat.add_zero,length_replicate] at l
 have K:GD d o (replicate (m+1) f)=d.take o++replicate (m+1) f++d.drop (o+(m+1)):=by simp [GD]
 have r:(Builtin.clear_ #[t] ty #[.slice (some ⟨b,o,none⟩) (m+1) c]).run P w= .ok (.tuple #[]) (w.setRow b (GD d o (replicate (m+1) f)).toArray):=by
  rw [K]
  simp [Builtin.clear_,run_underlying H.u,zeroValue,typeInfo,F,D,A,l]
 refine ⟨.tuple #[],_,fun _ _ _ _=>by simp [execOp,resolve,invoke,builtin,M.ev J,r],setRow_heap w b _ _ _ _ h,⟨rfl,rfl,rfl,by simp [World.setRow],fun k _ C=>setRow_other w b k _ (fun e=>C (by simp [e]))⟩,by simp [World.setRow]⟩
theorem Xw.cut3 {b c cap i j q:Nat} {l m o:IntKind} {s p:Operand} (f:FO P t e 1) (C:ev E x=some (.slice (some ⟨b,0,none⟩) c cap)) (B:ev E y=some (.int l (i:Int))) (k:ev E s=some (.int m (j:Int))) (g:ev E p=some (.int o (q:Int))) (F:i≤j) (D:j≤q) (G:q≤cap):
  Xw P n E (.slice t x (some y) (some s) (some p)) ty w (fun _ w' =>w' =w):=fun a d=>by
 have h:P.underlying t=some (.slice (P.elem t)):=by rw [Program.elem,f.u]
 have A:P.elem t=e:=by rw [Program.elem,f.u]
 have r:=run_slice_lhm (P:=P) w t (some ⟨b,0,none⟩) c cap h l m o (i:Int) (j:Int) (q:Int) (by omega) (by omega) (by omega) (by omega)
 simp only [A,f.s w,Result.andThen_ok] at r
 exact ⟨_,_,fun _ _ _ _=>by simp [execOp,d.ev C,d.ev B,d.ev k,d.ev g,Instr.sliceAt,run_underlying f.u,r];rfl,rfl⟩
theorem Ex.cutLHc {b c cap i j:Nat} {l m:IntKind} {p:Operand} (d:FO P t e 1) (s:ev E x=some (.slice (some ⟨b,0,none⟩) c cap)) (r:ev E y=some (.int l (i:Int))) (k:ev E p=some (.int m (j:Int))) (B:i≤j) (A:j≤cap) (C:i<cap):
  Ex P n E (.slice t x (some y) (some p) none) ty w (.slice (some ⟨b,i,none⟩) (j - i) (cap - i)):=fun a g _ _ _ _=>by
 have h:P.underlying t=some (.slice (P.elem t)):=by rw [Program.elem,d.u]
 have q:P.elem t=e:=by rw [Program.elem,d.u]
 have o:=run_slice_lh (P:=P) w t (some ⟨b,0,none⟩) c cap h l m (i:Int) (j:Int) (by omega) (by omega) (by omega)
 simp only [Int.toNat_natCast,q,d.s w,Result.andThen_ok] at o
 have f:¬cap=i:=by omega
 simp [execOp,g.ev s,g.ev r,g.ev k,Instr.sliceAt,run_underlying d.u,o,sliced,f,add_lit]
end
end Go.Dd

namespace Go.Proofs.YtblbopcaflaldaaGreatDoor
open Go Go.Dd Go.RowKit List
set_option maxRecDepth 100000
instance:Inhabited T4:=⟨⟨.slice none 0 0, .slice none 0 0,[],[]⟩⟩
structure LI (w:World) (v:Value) (ps:List (Value×List Int)):Prop where
 sl:CA (fun p:Value×List Int=>p.1) w v ps
 each:∀p ∈ ps,CA (Value.int .i64) w p.1 p.2
theorem LI.bs {w w' :World} {v:Value} {ps:List (Value×List Int)} (h:LI w v ps) (g:Below w.heap.size w w'):LI w' v ps:=⟨h.sl.bs g,fun p a=>(h.each p a).bs g⟩
abbrev AP (ps:List (Value×List Int)):List (List Int):=ps.map (·.2)
def N7 (k:Nat) (s x:List Int):Option (List Int):=if x.length=s.length∧k<s.length∧(∀m,m<s.length→m≠k→s.getD m default=x.getD m default) then some (s.set k (s.getD k default+x.getD k default)) else none
def Kc (k:Nat):List Int→List (List Int)→Option (List Int)
 |s,[]=>some s
 |s,x::r=>match N7 k s x with
  |some s' =>Kc k s' r
  |none=>none
theorem Vh {s:List Int} (h:Shapes.ok s=true) {i:Nat} (a:i<s.length):1≤s.getD i default∧s.getD i default≤64:=by
 rw [getD_eq_getElem?_getD,getElem?_eq_getElem a]
 exact ((Shapes.ok_iff s).1 h).2.1 _ (getElem_mem a)
end Go.Proofs.YtblbopcaflaldaaGreatDoor

namespace Go.Proofs.YtblbopcaflaldaaGreatDoor
open Go Go.Dd Go.RowKit List Go.Proofs.Tryz
set_option maxRecDepth 100000
theorem UH (v:Value) (l:List Int) (i B:Nat) (w:World) (u:w.ownsRow B 3 1 v l.length (l.map (Value.int .i64))) (K:i<l.length) (R:B≤w.heap.size) (U:l.length≤1000000):
  AJ prog 277 [v, .int .i64 (i:Int), .int .i64 ((i+1:Nat):Int)] w (fun r w' =>w'.ownsRow B 3 1 r (l.eraseIdx i).length ((l.eraseIdx i).map (Value.int .i64))∧Below B w w'):=by
 have e:=AG u
 obtain ⟨b,C, -,H, -, -⟩:∃b cap,v= .slice (some ⟨b,0,none⟩) l.length cap∧v.ownBlock=some b∧True∧True:=by
  rcases u.2 with ⟨_,T⟩|⟨g,cap,c,rfl, -⟩
  ·omega
  ·exact ⟨g,cap,rfl,rfl,trivial,trivial⟩
 obtain ⟨cap,c,rfl,G,j,D,A,x,p⟩:=ER u H
 rw [Nat.mul_one] at j x
 have e:CA (Value.int .i64) w (.slice (some ⟨b,0,none⟩) l.length cap) l:=e
 have h:=CA.drop e (show i+1≤l.length by omega)
 obtain ⟨a,d⟩:∃a,a=(l.drop (i+1)).map (Value.int .i64):=⟨_,rfl⟩
 have W:a.length=l.length - (i+1):=by rw [d,length_map,length_drop]
 have h:Sl w 1 (cut (.slice (some ⟨b,0,none⟩) l.length cap) 1 (i+1) l.length) (l.length - (i+1)) a:=by
  have:=h;unfold CA at this
  rwa [length_drop,← d] at this
 have o:cut (.slice (some ⟨b,0,none⟩) l.length cap) 1 0 i= .slice (some ⟨b,0,none⟩) i cap:=by
  unfold cut
  simp only [Nat.sub_zero]
  split
  ·rfl
  ·simp [add_lit]
 refine Bd (n:=33) func277 O<|Ah<|Ab O<|Bg<|Ad O<|Ad O<|Ad O<|Ad O<|Aa (Au AD O ‹_›) O ?_
 refine Bq (Xw.cut3 AD O O O O (by omega) (by omega) D) O ?_
 rintro _ w rfl
 refine Bj<|Ad O<|Ad O<|Aa (Ex.as (Cl O O) (cngA Value.bool (decide_eq_false (by omega)))) O<|Aj<|Bv O false (rfl)<|Cp<|Ad O<|Aa (Au AD O ‹_›) O ?_
 refine Ab O<|Aj<|Aq<|Cw.tail 6 mixed (by kernel_rfl)<|Bt O<|Bt O<|Ai (fun z f=>Ex.as (Gv AD O O e.shp (by omega)) o) O<|Bt O<|Bt O<|Ai (fun z f=>F3 (i:=i+1) AD O O e.shp (by omega)) O ?_
 refine Qw.done (fun z f=> ?_)
 refine Bq (Gy AD DT O O (G.bs f) x (h.bs f) (by rw [d];exact EI (fun _=>rfl) _) (by omega)) O ?_
 rintro _ X ⟨rfl,k,t,I⟩
 have M:i+(l.length - (i+1))=l.length - 1:=by omega
 rw [M]
 have l2:(GD c i a).length=cap:=by rw [Ih (by omega)];exact x
 have V:(l.length:Int)=((l.length - 1+1:Nat):Int):=by omega
 refine Ab O<|Bg<|Ad O<|Ad O<|Aa (Au AD O (AG (Il (base:=B) (sz:=1) k (by rw [Nat.mul_one];exact l2) (by omega) A p))) O<|Ad O<|Aa (Ex.cutLHc AD O O O (show l.length - 1≤l.length by omega) D (by omega)) O ?_
 have J:l.length - (l.length - 1)=0+1:=by omega
 rw [J]
 refine Lw.valU (Xw.clear (m:=0) AD DT O O k (by omega)) ?_
 rintro _ S ⟨y,q,L⟩
 have s:((l.eraseIdx i).length)=l.length - 1:=by rw [length_eraseIdx,if_pos K]
 have AO:(GD (GD c i a) (l.length - 1) (replicate (0+1) (Value.int .i64 0))).take ((l.length - 1)*1)=(l.eraseIdx i).map (Value.int .i64):=by
  have N:GD (GD c i a) (l.length - 1) (replicate (0+1) (Value.int .i64 0))=(GD c i a).take (l.length - 1)++(replicate (0+1) (Value.int .i64 0)++(GD c i a).drop (l.length - 1+1)):=by simp [GD]
  rw [Nat.mul_one,N,take_left' (by rw [length_take];omega)]
  have Q:GD c i a=(c.take i++a)++c.drop (i+a.length):=by simp [GD]
  rw [Q,take_left' (by rw [length_append,length_take];omega)]
  have F:c.take i=(l.take i).map (Value.int .i64):=by
   have:=cngA (take i) j
   rw [take_take,Nat.min_eq_left (by omega)] at this
   rw [this,map_take]
  rw [F,d,← map_append,eraseIdx_eq_take_drop_succ]
 have E:=Il (base:=B) (sz:=1) (n:=l.length - 1) y (by rw [Nat.mul_one,Ih (by simp;omega)];exact l2) (by omega) A p
 rw [AO] at E
 refine Bg<|Ad O<|Ab O<|Ay<|Ax O O ?_
 rw [s]
 exact ⟨E,(((Below.refl B w).trans (f.mono R)).grown t (by have:=f.size;omega) (by rintro _ ⟨⟩;exact p)).grown q (by have:=f.size;omega) (by rintro _ ⟨⟩;exact p)⟩
def RR (s:List Int) (k:Int):List Int:=if (s.length:Int)≤k then [] else if s.length=1 then [1] else s.eraseIdx k.toNat
theorem NF (u:Value) (s:List Int) (k:Int) (w:World) (j:CA (Value.int .i64) w u s) (l:0≤k) (h:s.length≤1000000):
  AJ prog 255 [u, .int .i64 k] w (fun r w' =>CA (Value.int .i64) w' r (RR s k)∧Below w.heap.size w w'):=by
 refine Bd (n:=21) func255 O<|Ah<|Ab O<|Aj<|Aq<|Ar<|Ah<|Ad O<|Ad O<|Aa (Au AD O ‹_›) O ?_
 refine Aa (D9 O O) O<|Ab O<|Aj<|Ao O ?_ ?_
 ·intro g
  have g:=AC g
  refine Ah<|Ab O<|Ay<|Ba<|Ap<|Ax O O ?_
  exact ⟨by rw [RR,if_pos (by omega)];exact Ch _ _,Below.refl _ _⟩
 intro g
 have g:=AB g
 refine Ah<|Ad O<|Aa (Au AD O ‹_›) O ?_
 refine Aa (Cl O O) O<|Ab O<|Aj<|Ao O ?_ ?_
 ·intro b
  have b:=AC b
  refine Ah<|Bq (C2 (vs:=[(1:Int)].map (Value.int .i64)) AD DT O O O O O) O ?_
  rintro v f ⟨a, -,c, -⟩
  refine Ab O<|Ay<|Ba<|Ap<|Ax O O ?_
  exact ⟨by rw [RR,if_neg (by omega),if_pos (by omega)];exact BD a,c⟩
 intro b
 have b:=AB b
 obtain ⟨i,rfl⟩:∃i:Nat,k=(i:Int):=⟨k.toNat,by omega⟩
 refine Ca<|Bi<|Ci<|Ad O<|An O O (L6 u s w j (by omega)) ?_
 rintro v f ⟨a,c⟩
 refine Ad O<|Ad O<|Aa (Ex.as (Dx O O (by omega)) (cngA (Value.int .i64) (show (i:Int)+1=((i+1:Nat):Int) by omega))) O<|An O O (UH v s i w.heap.size f a (by omega) c.size h) ?_
 rintro r m ⟨d,e⟩
 refine Ab O<|Ay<|Ax O O ?_
 refine ⟨?_,c.trans e⟩
 rw [RR,if_neg (by omega),if_neg (by omega),Int.toNat_natCast]
 exact BD d
def LN (s o:List Int):List Int:=if s.length=o.length then o.map (fun k=>s.getD k.toNat default) else []
theorem Pv (u v:Value) (s o:List Int) (w:World) (D:CA (Value.int .i64) w u s) (H:CA (Value.int .i64) w v o) (C:∀k ∈ o,0≤k∧k<(o.length:Int)) (M:o.length≤1000000):
  AJ prog 253 [u,v] w (fun r w' =>CA (Value.int .i64) w' r (LN s o)∧Below w.heap.size w w'):=by
 refine Bd (n:=27) func253 O<|Ah<|Ab O<|Bj<|Ad O<|Aa (Au AD O ‹_›) O ?_
 refine Ad O<|Aa (Au AD O ‹_›) O ?_
 refine Aa (Cn O O) O<|Aj<|Ao O ?_ ?_
 ·intro g
  have t:¬s.length=o.length:=fun e=>by rw [e] at g;simp at g
  refine Ah<|Ab O<|Bz<|Ax O O ?_
  exact ⟨by rw [LN,if_neg t];exact Ch _ _,Below.refl _ _⟩
 intro g
 have t:s.length=o.length:=by simp at g;omega
 refine B2<|Aq<|Ah<|Ad O<|Aa (Au AD O ‹_›) O ?_
 refine Ad O<|Aj<|Ar ?_
 refine Bo (S:=(Nat×Value)) (fun z=>[(0,u),(1,v),(4,z.2),(12,v),(13, .int .i64 (o.length:Int)),(14, .int .i64 (z.1:Int))]) (fun z w' =>z.1≤o.length∧Below w.heap.size w w' ∧w'.ownsRow w.heap.size 3 1 z.2 z.1 (((o.take z.1).map (fun k=>s.getD k.toNat default)).map (Value.int .i64))) (fun z=>o.length - z.1) ((0, .slice none 0 0)) ⟨rfl,rfl,rfl,rfl,rfl,rfl,trivial⟩ ?_ ?_
 ·exact ⟨Nat.zero_le _,Below.refl _ _,⟨rfl, .inl ⟨rfl,rfl⟩⟩⟩
 rintro ⟨i,r⟩ I ⟨F,d,b⟩
 dsimp only at F d b ⊢
 have f:=D.bs d
 have l:=H.bs d
 refine Ah<|B1 O<|Aj<|Aq<|Ao O ?_ ?_
 ·intro h
  have a:i<o.length:=by have:=AC h;omega
  obtain ⟨k,m⟩:∃k,k=o.getD i default:=⟨_,rfl⟩
  have j:k ∈ o:=by rw [m,getD_eq_getElem?_getD,getElem?_eq_getElem a];exact getElem_mem a
  have E:=C k j
  refine B2<|Aq<|Ar<|Ah<|Aa (Bf AD O O ‹_› _ O (by omega)) O ?_
  refine Aa (Ex.as (Bl (AI _) O l a) (cngA (Value.int .i64) m.symm)) O<|Ab O<|Aj<|Bh<|Ad O<|Ad O<|Ad O<|Aa (Bf AD O O f k.toNat (by omega) (by omega)) O<|Aa (Bl (AI _) O f (show k.toNat<s.length by omega)) O<|Bq (C2 (vs:=[s.getD k.toNat default].map (Value.int .i64)) AD DT O O O O O) O ?_
  rintro q N ⟨p, -,y, -⟩
  have x:=d.trans (y.mono (AA d))
  have L:=AA d
  have K:=y.size
  refine Bq (Dl (base:=w.heap.size) AD DT O (by decide) O O (AH b y) (AG p) (EI (fun _=>rfl) _) (by omega) (by omega) (by omega)) O ?_
  rintro B J ⟨c,A, -⟩
  have G:((o.take i).map (fun k=>s.getD k.toNat default)).map (Value.int .i64)++[s.getD k.toNat default].map (Value.int .i64)=((o.take (i+1)).map (fun k=>s.getD k.toNat default)).map (Value.int .i64):=by
   rw [take_succ_eq_append_getElem a,map_append,map_append]
   have:o[i]=k:=by rw [m,getD_eq_getElem?_getD,getElem?_eq_getElem a];rfl
   rw [this];rfl
  rw [G] at c
  refine Ab O<|Be<|Bi<|Cd<|B9 O (by omega)<|Ad O<|Be ?_
  exact Av (Bw ((i+1,B)) ⟨rfl,rfl,rfl,rfl,rfl,rfl,trivial⟩ (⟨a,x.trans A,c⟩) (by simp only;omega))
 intro h
 have a:i=o.length:=by have:=AB h;omega
 subst a
 rw [take_length] at b
 refine Bn<|Al<|Al<|Bc<|Ci<|Ad O<|Ab O<|Ay<|Ax O O ?_
 refine ⟨?_,d⟩
 rw [LN,if_pos t]
 exact BD b
def OA (l:List (List Int)) (k:Nat):List Int:=match Kc k (l.headD []) l.tail with
 |some s=>if k<s.length then s else []
 |none=>[]
theorem Sb {l:List Int} {j:Nat} {z:Int} (h:j<l.length):GD (l.map (Value.int .i64)) j [.int .i64 z]=(l.set j z).map (Value.int .i64):=by
 rw [Ov (by rw [length_map];exact h),map_set]
theorem IU {l:List Int} {j:Nat} (h:j<l.length):l.getD j default ∈ l:=by
 rw [getD_eq_getElem?_getD,getElem?_eq_getElem h];exact getElem_mem h
theorem P4 (v:Value) (ps:List (Value×List Int)) (k:Nat) (w:World) (h:LI w v ps) (h0:0<ps.length) (h4:ps.length≤4) (hb:∀p ∈ ps,p.2.length≤4∧∀x ∈ p.2,0≤x∧x≤64):
  AJ prog 254 [v, .int .i64 (k:Int)] w (fun r w' =>CA (Value.int .i64) w' r (OA (AP ps) k)∧Below w.heap.size w w'):=by
 obtain ⟨d,a,rfl⟩:∃d a,ps=d::a:=by
  cases ps with
  |nil=>simp at h0
  |cons d a=>exact ⟨d,a,rfl⟩
 have s_0:=h.each d (by simp)
 have F:=hb d (by simp)
 have R:=h.sl
 have D:CA (fun p:Value×List Int=>p.1) w (cut v 1 1 (a.length+1)) a:=CA.drop h.sl (show 1≤(d::a).length by simp)
 have V:∀s,Kc k d.2 (AP a)=some s→OA (AP (d::a)) k=if k<s.length then s else []:=fun s hs=>by
  show (match Kc k d.2 (AP a) with|some s=>if k<s.length then s else []|none=>[])=_
  rw [hs]
 have C:Kc k d.2 (AP a)=none→OA (AP (d::a)) k=[]:=fun hs=>by
  show (match Kc k d.2 (AP a) with|some s=>if k<s.length then s else []|none=>[])=_
  rw [hs]
 obtain ⟨Y,hs0⟩:∃Y,Y=d.2:=⟨_,rfl⟩
 rw [← hs0] at s_0 F V C
 obtain ⟨Q,hRES⟩:∃Q,Q=OA (AP (d::a)) k:=⟨_,rfl⟩
 rw [← hRES] at V C ⊢
 simp only [length_cons] at h4
 refine Bd (n:=64) func254 O<|Ah<|Ab O<|Bg<|Ad O<|Aa (Bf AQ O O R 0 O (by simp)) O<|Aa (Ex.as (Bl (AK _) O R (show 0<(d::a).length by simp)) O) O<|An O O (L6 d.1 Y w s_0 (by omega)) ?_
 rintro u w1 ⟨b,N⟩
 have ub:=AF b
 have E:=D.bs N
 refine Ab O<|Bj<|Ad O<|Aa (Ex.as (F3 (i:=1) AQ O O (R.bs N).shp (by simp)) O) O<|Aa (Au AQ O E) O<|Ad O<|Aj<|Ar ?_
 refine Bo (S:=(Nat×List Int)) (fun z=>[(0,v),(1, .int .i64 (k:Int)),(5,u),(15,cut v 1 1 (a.length+1)),(16, .int .i64 (a.length:Int)),(17, .int .i64 (z.1:Int))]) (fun z w' =>z.1≤a.length∧Below w.heap.size w w' ∧w'.ownsRow w.heap.size 3 1 u z.2.length (z.2.map (Value.int .i64))∧Kc k z.2 (AP (a.drop z.1))=Kc k Y (AP a)∧z.2.length≤4∧(∀m,m<z.2.length→0≤z.2.getD m default∧z.2.getD m default≤64*((z.1:Int)+1))) (fun z=>a.length - z.1) ((0,Y)) ⟨rfl,rfl,rfl,rfl,rfl,rfl,trivial⟩ ?_ ?_
 ·exact ⟨Nat.zero_le _,N,b,rfl,F.1,fun m X=>⟨(F.2 _ (IU X)).1,by have:=(F.2 _ (IU X)).2;simp only;omega⟩⟩
 clear b
 rintro ⟨i,s⟩ w2 ⟨hi,L,b,hj,hs4,T⟩
 dsimp only at hi L b hj hs4 T ⊢
 have c:=D.bs L
 have Z:CA (Value.int .i64) w2 u s:=BD b
 refine Ah<|B1 O<|Aj<|Aq<|Ao O ?_ ?_
 ·intro g
  have l:i<a.length:=by have:=AC g;omega
  obtain ⟨p,hp⟩:∃p,p=a[i]:=⟨_,rfl⟩
  have W:p ∈ d::a:=mem_cons_of_mem _ (by rw [hp];exact getElem_mem l)
  have G:=(h.each p W).bs L
  obtain ⟨x,hx⟩:∃x,x=p.2:=⟨_,rfl⟩
  have b_x:=hb p W
  rw [← hx] at G b_x
  have eg:(a.getD i default).1=p.1:=by rw [hp,getD_eq_getElem?_getD,getElem?_eq_getElem l];rfl
  have ed:AP (a.drop i)=x::AP (a.drop (i+1)):=by rw [drop_eq_getElem_cons l,AP,map_cons,← hp,← hx]
  have hst:Kc k Y (AP a)=match N7 k s x with|some A=>Kc k A (AP (a.drop (i+1)))|none=>none:=by rw [← hj,ed];rfl
  have M:N7 k s x=none→Q=[]:=fun e=>C (by rw [hst,e])
  refine B2<|Aq<|Ar<|Ah<|Aa (Bf AQ O O c i O l) O<|Aa (Ex.as (Bl (AK _) O c l) eg) O<|Ab O<|Bj<|Ad O<|Aa (Au AD O ‹_›) O ?_
  refine Ad O<|Aa (Au AD O ‹_›) O ?_
  refine Aa (Cn O O) O<|Ad O ?_
  refine Bx 26 O ?_ ?_
  ·intro H
   have H:¬x.length=s.length:=fun e=>by rw [e] at H;simp at H
   refine Ae (dj:=26) O O O O<|Ae (dj:=26) O O O O<|Ae (dj:=26) O O O O<|Ae (dj:=26) O O O O<|Bu O<|Aj<|B3 O<|Ah<|Ab O<|Bz<|Ba<|Ap<|Ap<|Ba<|Ap<|Ax O O ?_
   exact ⟨by rw [M (by unfold N7;rw [if_neg (fun h=>H h.1)])];exact Ch _ _,L⟩
  intro H
  have H:x.length=s.length:=by simp at H;omega
  refine Af (dj:=26) O O<|Ad O<|Af (dj:=26) O O<|Ad O<|Af (dj:=26) O O<|Aa (Au AD O ‹_›) O ?_
  refine Af (dj:=26) O O<|Aa (D9 O O) O<|B4 O<|Aj<|Ao O ?_ ?_
  ·intro o
   have o:¬k<s.length:=by have:=AC o;omega
   refine Ah<|Ab O<|Bz<|Ba<|Ap<|Ap<|Ba<|Ap<|Ax O O ?_
   exact ⟨by rw [M (by unfold N7;rw [if_neg (fun h=>o h.2.1)])];exact Ch _ _,L⟩
  intro o
  have o:k<s.length:=by have:=AB o;omega
  have bk:=T k o
  have xk:=b_x.2 _ (IU (show k<x.length by omega))
  refine Cp<|Ad O<|Aa (Au AD O ‹_›) O ?_
  refine Ad O<|Aj<|Ar ?_
  refine Bo (S:=(Nat×List Int)) (fun y=>[(0,v),(1, .int .i64 (k:Int)),(5,u),(7,p.1),(15,cut v 1 1 (a.length+1)),(16, .int .i64 (a.length:Int)),(17, .int .i64 (i:Int)),(32,p.1),(33, .int .i64 (x.length:Int)),(34, .int .i64 (y.1:Int))]) (fun y w' =>y.1≤x.length∧Below w.heap.size w w' ∧w'.ownsRow w.heap.size 3 1 u y.2.length (y.2.map (Value.int .i64))∧y.2=(if k<y.1 then s.set k (s.getD k default+x.getD k default) else s)∧(∀m,m<y.1→m≠k→s.getD m default=x.getD m default)) (fun y=>x.length - y.1) ((0,s)) ⟨rfl,rfl,rfl,rfl,rfl,rfl,rfl,rfl,rfl,rfl,trivial⟩ ?_ ?_
  ·exact ⟨Nat.zero_le _,L,b,by rw [if_neg (by omega)],fun _ h=>by omega⟩
  clear b Z G c
  rintro ⟨j,A⟩ w3 ⟨hjx,q,b,f,X⟩
  dsimp only at hjx q b f X ⊢
  have G:=(h.each p W).bs q
  rw [← hx] at G
  have ls' :A.length=s.length:=by rw [f];split<;>simp
  refine Ah<|B1 O<|Aj<|Aq<|Ao O ?_ ?_
  ·intro g3
   have t:j<x.length:=by have:=AC g3;omega
   obtain ⟨gb,_, -,B, -,hgb⟩:∃gb cap,u= .slice (some ⟨gb,0,none⟩) A.length cap∧u.ownBlock=some gb∧True∧w.heap.size≤gb:=by
    rcases b.2 with ⟨_,h0⟩|⟨g,cap,cur,rfl,hbb, -⟩
    ·omega
    ·exact ⟨g,cap,rfl,rfl,trivial,hbb⟩
   have e_j:A.getD j default=s.getD j default:=by
    rw [f]
    split
    ·rw [getD_eq_getElem?_getD,getElem?_set_ne (by omega),← getD_eq_getElem?_getD]
    ·rfl
   have cj:(A.map (Value.int .i64))[j*1]? =some (.int .i64 (s.getD j default)):=by
    rw [Nat.mul_one,getElem?_map,getElem?_eq_getElem (by omega),← e_j,getD_eq_getElem?_getD,getElem?_eq_getElem (by omega)];rfl
   refine B2<|Aq<|Ar<|Ah<|Ad O<|Aa (Bf AD O O ‹_› _ O (by omega)) O ?_
   refine Aa (Bl (AI _) O ‹_› (by omega)) O ?_
   refine Ab O<|Ab O<|Aj<|Ar<|Ah<|Ad O<|Ad O<|Aa (Cl O O) O<|Ab O<|Aj<|Ao O ?_ ?_
   ·intro U
    have U:j=k:=by have:=AC U;omega
    subst U
    refine Bh<|Ad O<|Ad O<|Aa (Gi AD O O b B j O (by omega)) O<|Aa (Ex.ldO (AI _) O b B cj) O<|Ad O<|B9 O (by omega)<|Aa (Gi AD O O b B j O (by omega)) O<|Br (Xu.stO1 (AV _) O O O b B (show j*1<_ by rw [length_map];omega)) ?_
    rintro w4 ⟨I,hg,hz⟩
    rw [Nat.mul_one,Sb (by omega)] at I
    have hB4:=q.grown hg (AA q) (by rintro _ e;cases e;exact hgb)
    refine Be<|Bi<|Bi<|Cd<|B9 O (by omega)<|Ad O<|Be ?_
    exact Av (Bw ((j+1,A.set j (s.getD j default+x.getD j default))) ⟨rfl,rfl,rfl,rfl,rfl,rfl,rfl,rfl,rfl,rfl,trivial⟩ (⟨t,hB4,by rw [length_set];exact I,by rw [if_pos (by omega),f,if_neg (by omega)],fun m h1 h2=>X m (by omega) h2⟩) (by simp only;omega))
   intro U
   have U:j≠k:=by have:=AB U;omega
   refine Ah<|Ad O<|Ad O<|Aa (Gi AD O O b B j O (by omega)) O<|Aa (Ex.ldO (AI _) O b B cj) O<|Ad O<|Aa (Cn O O) O<|Ab O<|Aj<|Ao O ?_ ?_
   ·intro K
    have K:¬s.getD j default=x.getD j default:=fun e=>by rw [e] at K;simp at K
    refine Ah<|Ab O<|Ay<|Ba<|Ba<|Ap<|Ap<|Ba<|Ba<|Ap<|Ap<|Ba<|Ap<|Ax O O ?_
    exact ⟨by rw [M (by unfold N7;rw [if_neg (fun h=>K (h.2.2 j (by omega) U))])];exact Ch _ _,q⟩
   intro K
   have K:s.getD j default=x.getD j default:=by simpa using K
   refine Ca<|Bi<|Bi<|Cd<|B9 O (by omega)<|Ad O<|Be ?_
   exact Av (Bw ((j+1,A)) ⟨rfl,rfl,rfl,rfl,rfl,rfl,rfl,rfl,rfl,rfl,trivial⟩ (⟨t,q,b,by rw [f];by_cases e:k<j;rw [if_pos e,if_pos (by omega)];rw [if_neg e,if_neg (by omega)],fun m h1 h2=>(Nat.lt_succ_iff_lt_or_eq.1 h1).elim (fun h=>X m h h2) (fun e=>e ▸ K)⟩) (by simp only;omega))
  intro g3
  have t:j=x.length:=by have:=AB g3;omega
  subst t
  rw [if_pos (by omega)] at f
  have e1:N7 k s x=some A:=by unfold N7;rw [if_pos ⟨H,o,fun m h1 h2=>X m (by omega) h2⟩,f]
  have hbd:∀m,m<A.length→0≤A.getD m default∧A.getD m default≤64*(((i+1:Nat):Int)+1):=fun m hm' =>by
   have b1:=T m (by omega)
   rw [f]
   by_cases e:m=k
   ·subst e
    rw [getD_eq_getElem?_getD,getElem?_set_self (by omega),Option.getD_some]
    omega
   ·rw [getD_eq_getElem?_getD,getElem?_set_ne (by omega),← getD_eq_getElem?_getD]
    omega
  refine Bn<|Al<|Al<|Bc<|Bi<|Cd<|B9 O (by omega)<|Ad O<|Be ?_
  exact Av (Bw ((i+1,A)) ⟨rfl,rfl,rfl,rfl,rfl,rfl,trivial⟩ (⟨l,q,b,by rw [hst,e1],by simp only;omega,hbd⟩) (by simp only;omega))
 intro g
 have l:i=a.length:=by have:=AB g;omega
 subst l
 have J:=V s (by rw [← hj,drop_length];rfl)
 refine Bn<|Al<|Al<|Bc<|Av<|B8<|Aq<|Ah<|Ad O<|Ad O<|Aa (Au AD O ‹_›) O ?_
 refine Aa (D9 O O) O<|Aj<|Ao O ?_ ?_
 ·intro o
  have o:¬k<s.length:=by have:=AC o;omega
  refine Ah<|Ab O<|Bz<|Ax O O ?_
  exact ⟨by rw [J,if_neg o];exact Ch _ _,L⟩
 intro o
 have o:k<s.length:=by have:=AB o;omega
 refine Cp<|Ad O<|Ab O<|Ay<|Ax O O ?_
 exact ⟨by rw [J,if_pos o];exact Z,L⟩

def FH (a b:List Int):Int:=if Shapes.ok a && Shapes.ok b then (if a.length=2∧b.length=2∧a.getD 1 default=b.getD 0 default then 0 else 10) else 1
theorem Ju {a b:List Int} (h:Shapes.ok a=false∨Shapes.ok b=false):FH a b=1:=by
 unfold FH
 rw [if_neg]
 rcases h with h|h<;>simp [h]
theorem GE {a b:List Int} (c:Shapes.ok a=true) (d:Shapes.ok b=true) (h:¬(a.length=2∧b.length=2∧a.getD 1 default=b.getD 0 default)):FH a b=10:=by
 unfold FH
 rw [c,d,if_neg h];rfl
theorem LX {a b:List Int} (c:Shapes.ok a=true) (d:Shapes.ok b=true) (h:a.length=2∧b.length=2∧a.getD 1 default=b.getD 0 default):FH a b=0:=by
 unfold FH
 rw [c,d,if_pos h];rfl
def UN (W w:World) (r:Value) (a b:List Int):Prop:=
 ∃x,r= .tuple #[x, .int .i64 (FH a b)]∧(FH a b≠0→x= .slice none 0 0)∧(FH a b=0→w.ownsRow W.heap.size 3 1 x 2 ([a.getD 0 default,b.getD 1 default].map (Value.int .i64)))
theorem Q8 (u v:Value) (a b:List Int) (W:World) (j:CA (Value.int .i64) W u a) (i:CA (Value.int .i64) W v b):
  AJ prog 250 [u,v] W (fun r w' =>Below W.heap.size W w' ∧UN W w' r a b):=by
 have f:=Below.refl W.heap.size W
 refine Bd (n:=40) func250 O<|Ah<|Ab O<|Ab O<|Aj<|Aq<|Ar<|Ah<|Ad O<|An O O (G9 u a _ j) ?_
 rintro _ w ⟨rfl,k⟩
 have f:=f.bs k
 have j:=j.bs k
 have i:=i.bs k
 refine Aa (Co O) O<|Ad O ?_
 refine Bx 10 O ?_ ?_
 ·intro g
  have e:=Ju (a:=a) (b:=b) (.inl (by simpa using g))
  refine Ae (dj:=10) O O O O<|Ae (dj:=10) O O O O<|Ae (dj:=10) O O O O<|Bu O<|Ab O<|Aj<|B3 O<|Ah<|Ab O<|Ab O<|Ay<|Ba<|Ap<|Bp O O O ?_
  exact ⟨f,_,by rw [e],fun _=>rfl,fun h=>by rw [e] at h;cases h⟩
 intro g
 have l:Shapes.ok a=true:=by simpa using g
 refine Af (dj:=10) O O<|Ad O<|Af (dj:=10) O O<|An O O (G9 v b _ i) ?_
 rintro _ w ⟨rfl,k⟩
 have f:=f.bs k
 have j:=j.bs k
 have i:=i.bs k
 refine Af (dj:=10) O O<|Aa (Co O) O<|B4 O<|Ab O<|Aj<|Ao O ?_ ?_
 ·intro g
  have e:=Ju (a:=a) (b:=b) (.inr (by simpa using g))
  refine Ah<|Ab O<|Ab O<|Ay<|Ba<|Ap<|Bp O O O ?_
  exact ⟨f,_,by rw [e],fun _=>rfl,fun h=>by rw [e] at h;cases h⟩
 intro g
 have m:Shapes.ok b=true:=by simpa using g
 refine Aq<|C8 mixed (by kernel_rfl)<|Bt O<|Ai (fun d c=>Au AD O (Sl.bs ‹_› c)) O ?_
 refine Ai (fun d c=>Cn O O) O<|Bt O ?_
 refine Di 19 O ?_ ?_
 ·intro g
  have e:FH a b=10:=GE l m fun h=>by simp [h.1] at g
  refine As (dj:=19) O O O O<|As (dj:=19) O O O O<|As (dj:=19) O O O O<|Ai (fun d c=>Cy O O) O<|Bt O<|As (dj:=24) O O O O<|As (dj:=24) O O O O<|As (dj:=24) O O O O<|As (dj:=24) O O O O<|As (dj:=24) O O O O<|As (dj:=24) O O O O<|As (dj:=24) O O O O<|Ai (fun d c=>Cy O O) O<|D7 O ?_
  refine C1 (fun o c=> ?_)
  refine Av<|B8<|B3 O<|Ah<|Ab O<|Ab O<|Ay<|Ba<|Ap<|Bp O O O ?_
  exact ⟨bt f c,_,by rw [e],fun _=>rfl,fun h=>by rw [e] at h;cases h⟩
 intro g
 have q:a.length=2:=by simp at g;omega
 refine Az (dj:=19) O O<|Bt O<|Az (dj:=19) O O<|Ai (fun d c=>Au AD O (Sl.bs ‹_› c)) O ?_
 refine Az (dj:=19) O O<|Ai (fun d c=>Cn O O) O<|Ai (fun d c=>Cx O O) O<|Bt O ?_
 refine Di 24 O ?_ ?_
 ·intro g
  have e:FH a b=10:=GE l m fun h=>by simp [h.2.1] at g
  refine As (dj:=24) O O O O<|As (dj:=24) O O O O<|As (dj:=24) O O O O<|As (dj:=24) O O O O<|As (dj:=24) O O O O<|As (dj:=24) O O O O<|As (dj:=24) O O O O<|Ai (fun d c=>Cy O O) O<|D7 O ?_
  refine C1 (fun o c=> ?_)
  refine Av<|B8<|B3 O<|Ah<|Ab O<|Ab O<|Ay<|Ba<|Ap<|Bp O O O ?_
  exact ⟨bt f c,_,by rw [e],fun _=>rfl,fun h=>by rw [e] at h;cases h⟩
 intro g
 have lb:b.length=2:=by simp at g;omega
 refine Az (dj:=24) O O<|Bt O<|Az (dj:=24) O O<|Ai (fun d c=>Bf AD O O (Sl.bs ‹_› c) 1 O (by omega)) O ?_
 refine Az (dj:=24) O O<|Ai (fun d c=>Bl (AI _) O (Sl.bs ‹_› c) (by omega)) O ?_
 refine Az (dj:=24) O O<|Bt O<|Az (dj:=24) O O<|Ai (fun d c=>Bf AD O O (Sl.bs ‹_› c) 0 O (by omega)) O ?_
 refine Az (dj:=24) O O<|Ai (fun d c=>Bl (AI _) O (Sl.bs ‹_› c) (by omega)) O ?_
 refine Az (dj:=24) O O<|Ai (fun d c=>Cn O O) O<|Ai (fun d c=>Cx O O) O<|D7 O ?_
 refine C1 (fun o c=> ?_)
 refine Av<|B8<|Ao O ?_ ?_
 ·intro g
  have e:FH a b=10:=GE l m fun h=>by simp at g;exact g (by simpa using h.2.2)
  refine Ah<|Ab O<|Ab O<|Ay<|Ba<|Ap<|Bp O O O ?_
  exact ⟨bt f c,_,by rw [e],fun _=>rfl,fun h=>by rw [e] at h;cases h⟩
 intro g
 have e:FH a b=0:=LX l m ⟨q,lb,by simpa using g⟩
 have f:=f.bs c
 have j:=j.bs c
 have i:=i.bs c
 clear c
 refine Ca<|Bi<|Av<|B8<|Aq<|Cw.tail 6 mixed (by kernel_rfl)<|Bt O<|Ai (fun d c=>Bf AD O O (Sl.bs ‹_› c) 0 O (by omega)) O ?_
 refine Ai (fun d c=>Bl (AI _) O (Sl.bs ‹_› c) (by omega)) O ?_
 refine Bt O<|Ai (fun d c=>Bf AD O O (Sl.bs ‹_› c) 1 O (by omega)) O ?_
 refine Ai (fun d c=>Bl (AI _) O (Sl.bs ‹_› c) (by omega)) O ?_
 refine Qw.done (fun t c=> ?_)
 have f:=f.bs c
 have j:=j.bs c
 have i:=i.bs c
 refine Bq (C2 (vs:=[a.getD 0 default,b.getD 1 default].map (Value.int .i64)) AD DT O O O O O) O ?_
 rintro x s ⟨p, -,k, -⟩
 have z:=f.size
 have f:=f.bs k
 have j:=j.bs k
 have i:=i.bs k
 exact Ab rfl<|Ab rfl<|Ay<|Bp rfl rfl rfl<|⟨f,x,by rw [e],fun h=>absurd e h,fun _=>DN p z⟩
-- DD STOPPED
end Go.Proofs.YtblbopcaflaldaaGreatDoor

namespace Go.Dd
open Go Go.RowKit
open List hiding get
def IE (ro:Option Nat):Fence:={Fence.wide with round:=ro}
theorem Jm {ro:Option Nat} {n:Nat} {P:Program} {f:FuncId} {args:Array Value} {w:World} {R:Ending→World→Prop}:CallsIn (IE ro) n P f args w R↔Calls P f args w R:=
 (callsIn_wide (n:=n) (P:=P) (f:=f) (args:=args) (w:=w) (R:=R))
theorem No {ro:Option Nat} {n:Nat} {P:Program} {row:String} {args:Array Value} {w:World} {R:Value→World→Prop} (h:Rows P row args w R):RowsIn (IE ro) n P row args w R:=
 fun c cs _=>let ⟨v,w',r,s⟩:=h c cs;⟨v,w',r,(stepsIn_wide (P:=P)).2 s⟩
def IZ (D:List Deferred) (Q:BN):BN:=fun e a w=>match e with
 | .outgrown=>False
 |e=>Q e {a with defers:=a.defers++D} w
theorem Lm {D:List Deferred} {Q:BN}:¬LetsOut (IZ D Q):=fun ⟨_,_,h⟩=>h
theorem GV (a:Act) (D:List Deferred) (d:Option Tmp) (v:Value):({a with defers:=a.defers++D}:Act).put d v={a.put d v with defers:=(a.put d v).defers++D}:=by
 cases d<;>rfl
theorem Kr (a:Act) (D:List Deferred):({a with defers:=D}:Act).eval=a.eval:=by
 funext x;cases x<;>rfl
def HG (o:Oper):Bool:=match o.op with
 | .defer _=>true
 |_=>false
def GX (l:List Oper):Bool:=l.all fun o=> !HG o
theorem ND {o:Oper} (h:HG o=false):∀c,o.op≠ .defer c:=fun c e=>by simp [HG,e] at h
theorem KB {ro:Option Nat} {o:Oper} (h:HG o=false) (ρ:Operand→Value):o.semAt ro ρ=execOp ρ o:=by
 cases ro with
 |none=>exact Oper.semAt_none ρ o
 |some l=>exact Oper.semAt_some l ρ o (ND h)
section
variable {P : Program} {Q : BN} {ro : Option Nat} {D : List Deferred} {m : Nat}
theorem QH {t:BN} {o:Oper} {a:Act} {w:World} {K b:Act→World→Prop} (q:∀c a w,t (.panic c) a w→Q (.panic c) a w) (u:HG o=false) (k:∀a w,K a w→b {a with defers:=a.defers++D} w) (h:o.wp P a w K (IZ D t)):
  o.wpIn (IE ro) m P {a with defers:=a.defers++D} w b Q:=by
 refine ⟨fun _ _=>trivial, ?_⟩
 rw [show (IE ro).round=ro from rfl,KB u,Kr]
 unfold Oper.wp at h
 generalize (execOp a.eval o).run P w=r at h
 cases r with
 |ok nx w' =>
  cases nx with
  |value v=>show b _ _;rw [GV];exact k _ _ h
  |skip=>show b _ _;rw [GV];exact k _ _ h
  |«defer» d=>
   have j:K (({a with defers:=d::a.defers}:Act).put o.dst undef) w' :=h
   have s:=k _ _ j
   show b (({tmps:=a.tmps,defers:=d::(a.defers++D)}:Act).put o.dst undef) w'
   rw [← GV] at s
   exact s
  |enter f args=>
   refine ⟨fun h=>by simp [IE,Fence.wide] at h,Jm.2 ?_⟩
   have j:Calls P f args w' _:=h
   refine j.mono fun e p i=> ?_
   cases e with
   |returned v=>show b _ _;rw [GV];exact k _ _ i
   |panicked chain=>exact q _ _ _ i
   |outgrown=>exact absurd i Lm
  |row row args=>
   refine ⟨fun h=>by simp [IE,Fence.wide] at h,No ?_⟩
   have j:Rows P row args w' _:=h
   refine j.mono fun v p i=> ?_
   show b _ _;rw [GV];exact k _ _ i
  |_=>exact h.elim
 |halt x w' =>
  cases x with
  |panic v=>exact q _ _ _ h
  |_=>exact h.elim
theorem JW {ops:Array Oper} {K:Act→World→Prop} {l2:List Oper} (d:∀(a:Act) (w:World),K {a with defers:=a.defers++D} w→wpListIn (IE ro) m P ops Q l2 {a with defers:=a.defers++D} w):
  ∀(l:List Oper) (a:Act) (w:World),GX l=true→wpList P ops (IZ D (CI K Q)) l a w→wpListIn (IE ro) m P ops Q (l++l2) {a with defers:=a.defers++D} w
 |[],a,w,_,h=>d a w h
 |o::l,a,w,hd,h=>by
  simp only [GX,all_cons,Bool.and_eq_true,Bool.not_eq_true'] at hd
  have c:∀a w,wpList P ops (IZ D (CI K Q)) l a w→wpListIn (IE ro) m P ops Q (l++l2) {a with defers:=a.defers++D} w:=fun a w h=>JW d l a w hd.2 h
  unfold wpList at h
  show wpListIn (IE ro) m P ops Q (o::(l++l2)) {a with defers:=a.defers++D} w
  unfold wpListIn
  split at h
  ·rename_i b
   rw [if_pos b]
   rcases h with h|⟨_,h⟩
   ·exact QH (fun _ _ _ h=>h) hd.1 c h
   ·exact absurd h Lm
  ·rename_i b
   rw [if_neg b]
   refine ⟨fun _ _=>trivial, ?_⟩
   rw [GV]
   exact c _ _ h
theorem O2 {ops:Array Oper} (f:GX ops.toList=true):∀(l:List Nat) (a:Act) (w:World),wpOps P ops (IZ D Q) l a w→wpOpsIn (IE ro) m P ops Q l {a with defers:=a.defers++D} w
 |[],a,w,h=>h
 |i::l,a,w,h=>by
  have d:=O2 f l
  unfold wpOps at h
  unfold wpOpsIn
  cases ho:ops[i]? with
  |none=>simp only [ho] at h ⊢;exact d _ _ h
  |some o=>
   simp only [ho] at h ⊢
   have e:HG o=false:=by
    have k:=List.all_eq_true.1 f o (by obtain ⟨c,j⟩:=Array.getElem?_eq_some_iff.1 ho;rw [← j];exact Array.getElem_mem_toList c)
    simpa using k
   split at h
   ·rename_i b
    rw [if_pos b]
    rcases h with h|⟨_,h⟩
    ·exact QH (fun _ _ _ h=>h) e d h
    ·exact absurd h Lm
   ·rename_i b
    rw [if_neg b]
    refine ⟨fun _ _=>trivial, ?_⟩
    rw [GV]
    exact d _ _ h
end
structure CK (D:List Deferred) (n:Nat) (E:BZ) (a:Act):Prop where
 dfr:a.defers=D
 size:a.tmps.size=n
 has:∀i v,get E i=some v→a.tmps[i]? =some v
theorem CK.fits {D:List Deferred} {n:Nat} {E:BZ} {a:Act} (h:CK D n E a):BR n E {a with defers:=[]}:=⟨rfl,h.size,h.has⟩
theorem CK.back {D:List Deferred} {n:Nat} {E:BZ} {a:Act} (h:CK D n E a):({({a with defers:=[]}:Act) with defers:=({a with defers:=[]}:Act).defers++D}:Act)=a:=by
 cases a;simp only [nil_append];rw [← h.dfr]
theorem BR.g {n:Nat} {E:BZ} {a:Act} (h:BR n E a) (D:List Deferred):CK D n E {a with defers:=a.defers++D}:=⟨by simp [h.dfr],h.size,h.has⟩
theorem BR.g0 {n:Nat} {E:BZ} {a:Act} (h:BR n E a):CK [] n E a:=⟨h.dfr,h.size,h.has⟩
theorem CK.ev {D:List Deferred} {n:Nat} {E:BZ} {a:Act} (h:CK D n E a) {x:Operand} {v:Value} (b:Dd.ev E x=some v):a.eval x=v:=by
 have:=h.fits.ev b
 rwa [Kr] at this
theorem CK.evs {D:List Deferred} {n:Nat} {E:BZ} {a:Act} (h:CK D n E a) {l:List Operand} {vs:List Value} (b:Dd.evs E l=some vs):l.map a.eval=vs:=by
 have:=h.fits.evs b
 rwa [Kr] at this
theorem CK.put {D:List Deferred} {n:Nat} {E:BZ} {a:Act} (h:CK D n E a) {d:Nat} (v:Value) (b:Nat.blt d n=true):CK D n ((d,v)::E) (a.put (some d) v):=
 ⟨h.dfr,(h.fits.put v b).size,(h.fits.put v b).has⟩
theorem CK.sub {D:List Deferred} {n:Nat} {E F:BZ} {a:Act} (h:CK D n E a) (hs:MP E F):CK D n F a:=⟨h.dfr,h.size,fun i v b=>h.has i v (hs.get i v b)⟩
def Cg (ro:Option Nat) (D:List Deferred) (P:Program) (Q:BN) (n:Nat) (c:Code) (E:BZ) (w:World):Prop:=∀a,CK D n E a→c.wpIn (IE ro) 9 P Q a w
def Pg (D:List Deferred) (n:Nat) (E:BZ) (R:Act→World→Prop) (w:World):Prop:=∀a,CK D n E a→R a w
def Lg (ro:Option Nat) (D:List Deferred) (P:Program) (l0:List Oper) (Q:BN) (n:Nat) (l:List Oper) (E:BZ) (w:World):Prop:=∀a,CK D n E a→wpListIn (IE ro) 9 P l0.toArray Q l a w
section
variable {P : Program} {Q : BN} {n : Nat} {E : BZ} {w : World} {ro : Option Nat} {D : List Deferred}
theorem Gn {x y:Code} (h:Cg ro D P (CI (fun a w=>y.wpIn (IE ro) 9 P Q a w) Q) n x E w):Cg ro D P Q n (.seq x y) E w:=fun a b=>wpIn_seq (by have:=h a b;rwa [Js] at this)
theorem Cg.block {b:Nat} {c:Code} (h:Cg ro D P (IC b Q) n c E w):Cg ro D P Q n (.block b c) E w:=fun a d=>wpIn_block (by have:=h a d;rwa [Mz] at this)
theorem Cg.ret (h:Pg D n E (Q .ret) w):Cg ro D P Q n .ret E w:=fun a b=>wpIn_ret (h a b)
theorem Cg.sub {c:Code} {F:BZ} (hs:MP E F) (h:Cg ro D P Q n c F w):Cg ro D P Q n c E w:=fun a b=>h a (b.sub hs)
theorem Gp {c:Code} (h:Cg ro D P Q n c E w):Pg D n E (fun a w=>c.wpIn (IE ro) 9 P Q a w) w:=h
theorem Fi {K:Act→World→Prop} (h:Pg D n E K w):Pg D n E (CI K Q .normal) w:=h
theorem Cg.loop {S:Type} (i:S→BZ) (I:S→World→Prop) (m:S→Nat) {c:Code} (y:S) (T:MP E (i y)) (L:I y w)
  (p:∀s w,I s w→Cg ro D P (CI (fun h w' =>∃f,CK D n (i f) h∧I f w' ∧m f<m s) Q) n c (i s) w):Cg ro D P Q n (.loop c) E w:=by
 intro a Z
 have key:∀k s a w,m s=k→CK D n (i s) a→I s w→(Code.loop c).wpIn (IE ro) 9 P Q a w:=by
  intro k s a w hk u U
  refine wpIn_loop (fun h w' =>∃f,CK D n (i f) h∧I f w') (fun h w' =>Classical.epsilon fun k=>∃f,CK D n (i f) h∧I f w' ∧m f=k∧∀d,CK D n (i d) h→I d w' →k≤m d) ⟨s,u,U⟩ ?_
  have j:∀h w',(∃f,CK D n (i f) h∧I f w')→∃k,∃f,CK D n (i f) h∧I f w' ∧m f=k∧∀d,CK D n (i d) h→I d w' →k≤m d:=by
   intro h w' ⟨f,t,r⟩
   have:∀b f,CK D n (i f) h→I f w' →m f≤b→∃k,∃f,CK D n (i f) h∧I f w' ∧m f=k∧∀d,CK D n (i d) h→I d w' →k≤m d:=by
    intro b
    induction b with
    |zero=>intro f t r Y;exact ⟨m f,f,t,r,rfl,fun d _ _=>by omega⟩
    |succ b ih=>
     intro f t r Y
     by_cases hex:∃d,CK D n (i d) h∧I d w' ∧m d≤b
     ·obtain ⟨d,o,q,F⟩:=hex;exact ih d o q F
     ·refine ⟨m f,f,t,r,rfl,fun d o q=> ?_⟩
      rcases Nat.lt_or_ge (m d) (m f) with J|v
      ·exact absurd ⟨d,o,q,by omega⟩ hex
      ·exact v
   exact this (m f) f t r (AX _)
  intro H A z
  obtain ⟨X,V,N,g3,g4⟩:=Classical.epsilon_spec (j H A z)
  have G:=p X A N H V
  rw [Js] at G
  refine Code.wpIn_mono (fun e a2 w2 C=> ?_) G
  cases e with
  |normal=>
   obtain ⟨x,o,q,F⟩:=C
   refine ⟨⟨x,o,q⟩, ?_⟩
   obtain ⟨s3,r1,r2,r3,M⟩:=Classical.epsilon_spec (j a2 w2 ⟨x,o,q⟩)
   have:=M x o q
   rw [← g3]
   omega
  |_=>exact C
 exact key _ y a w rfl (Z.sub T) L
theorem Pg.low (h:Pg D n E (Q .normal) w):Pw n E (IZ D Q .normal) w:=fun a b=>h _ (b.g D)
theorem Pk {D:List Deferred} {Q:BN}:IZ D Q=IZ D (CI (fun a w=>Q .normal a w) Q):=by
 funext e a w;cases e<;>rfl
theorem Fv {e:Nat} {l:List Oper} (d:GX l=true) (h:Lw P l (IZ D Q) n l E w):Cg ro D P Q n (.region e l.toArray false) E w:=fun a b=>by
 have c:=h _ b.fits
 rw [← b.back]
 rw [Pk] at c
 have:=JW (ro:=ro) (m:=9) (l2:=[]) (fun a w h=>h) l _ w d c
 rw [append_nil] at this
 exact wpIn_region_lit this
theorem LJ {d:Nat} {l:List Oper} {a:Act} (e:P.follows .mixedOrders=true) (c:GX l=true) (f:CK D n E a)
  (h:wpAny P .any l.toArray (IZ D Q) l.length (Array.replicate l.length false) {a with defers:=[]} {w with drawn:=w.drawn+1}):(Code.region d l.toArray true).wpIn (IE ro) 9 P Q a w:=
 wpIn_region_draw fun t=>by
  simp only [Region.schedule,e,Bool.true_or,if_true]
  have i:=wpAny_sound l.toArray.size t _ _ _ (by simpa using h)
  have b:=O2 (ro:=ro) (m:=9) (by simpa using c) _ _ _ i
  rw [f.back] at b
  exact b
theorem Cg.any {d:Nat} {l:List Oper} (e:P.follows .mixedOrders=true) (c:GX l=true) (h:∀w',Below w.heap.size w w' →w'.heap.size=w.heap.size→Aw P l (IZ D Q) n l.length (Array.replicate l.length false) E w'):Cg ro D P Q n (.region d l.toArray true) E w:=fun a b=>
 LJ e c b (h _ (FS w) rfl _ b.fits)
theorem G2 {b:Nat} {l:List Oper} (h:Lg ro D P l Q n l E w):Cg ro D P Q n (.region b l.toArray false) E w:=fun a c=>wpIn_region_lit (h a c)
theorem Lg.plain {l0 l:List Oper} (k:Nat) (c:GX (l.take k)=true) (h:Lw P l0 (IZ D (CI (fun a w=>wpListIn (IE ro) 9 P l0.toArray Q (l.drop k) a w) Q)) n (l.take k) E w):Lg ro D P l0 Q n l E w:=fun a b=>by
 have:=JW (ro:=ro) (m:=9) (l2:=l.drop k) (fun a w h=>h) (l.take k) _ w c (h _ b.fits)
 rwa [b.back,take_append_drop] at this
theorem Lg.nil {l0:List Oper} (h:Pg D n E (Q .normal) w):Lg ro D P l0 Q n [] E w:=fun a b=>wpListIn_nil (h a b)
theorem Lg.out {l0 l:List Oper} (h:Lg ro D P l0 Q n l E w):Pg D n E (CI (fun a w=>wpListIn (IE ro) 9 P l0.toArray Q l a w) Q .normal) w:=h
theorem Lg.sub {l0 l:List Oper} {F:BZ} (hs:MP E F) (h:Lg ro D P l0 Q n l F w):Lg ro D P l0 Q n l E w:=fun a b=>h a (b.sub hs)
end
def Yd (P:Program) (l:Nat) (args:List Value) (W:World) (R:Bool→World→Prop):Prop:=YieldAt Fence.wide 9 P l args.toArray W fun e w' =>∃b,e= .returned (.bool b)∧R b w'
theorem Yd.mono {P:Program} {l:Nat} {args:List Value} {W:World} {R a:Bool→World→Prop} (h:Yd P l args W R) (f:∀b w',R b w' →a b w'):Yd P l args W a:=by
 obtain ⟨fn,tmps,assign,body,i,d⟩:=h
 exact ⟨fn,tmps,assign,body,i,d.mono fun e w' ⟨b,c,j⟩=>⟨b,c,f _ _ j⟩⟩
theorem OW {ro:Option Nat} {m a:Nat} {P:Program} {l:Nat} {f:FuncId} {tmps:Array Value} {assign body:Code} {w:World} {R:Ending→World→Prop} (h:RoundIn Fence.wide m P l f tmps assign body w R):RoundIn (IE ro) a P l f tmps assign body w R:=
 ⟨trivial,fun c cs _=>h.2 c cs (room_wide _)⟩
section
variable {P : Program} {Q : BN} {n : Nat} {E : BZ} {w : World} {ro : Option Nat} {D : List Deferred} {l0 rest : List Oper} {ty : TypeId} {pos : String} {af : Array Edge}
theorem K5 {a:Act} {y:Operand} {xs:List Operand} {vs:List Value} {c:Array TypeId} {d:Option Nat} {g:Option (Nat×Bool)} {l:Nat} {r:Next} (e:a.eval y= .func (.yield l) #[] #[]) (h:xs.map a.eval=vs) (f:(Instr.yield l vs.toArray).run P w= .ok r w):
  (execOp a.eval ⟨d, .call {callee:= .value y,args:=xs.toArray,argTypes:=c},ty,pos,af,g⟩).run P w= .ok r w:=by
 have b:xs.toArray.map a.eval=vs.toArray:=by rw [map_toArray,h]
 simp [execOp,resolve,b,e,Deferred.ofValue,invoke,f]
theorem Lg.yield {d l:Nat} {y:Operand} {xs:List Operand} {vs:List Value} {p:Array TypeId} {R:Bool→World→Prop} (i:ev E y=some (.func (.yield l) #[] #[])) (t:evs E xs=some vs) (f:Nat.blt d n=true) (h:Yd P l vs w R)
  (k:∀b w',R b w' →Lg ro D P l0 Q n rest ((d, .bool b)::E) w'):Lg ro D P l0 Q n (⟨some d, .call {callee:= .value y,args:=xs.toArray,argTypes:=p},ty,pos,af,none⟩::rest) E w:=
 fun a c=>wpListIn_plain rfl fun K r=>by
  obtain ⟨fn,tmps,assign,body,q,o⟩:=h
  refine ⟨fun _ _=>trivial, ?_⟩
  rw [show (IE ro).round=ro from rfl,KB rfl,K5 (c.ev i) (c.evs t) q]
  refine ⟨fun h=>by simp [IE,Fence.wide] at h, ?_⟩
  refine (OW o).mono fun e w' ⟨b,j,s⟩=> ?_
  subst j
  exact r _ _ (k b w' s _ (c.put _ f))
end
section
variable {P : Program} {Q : BN} {ro : Option Nat} {D : List Deferred} {ops : Array Oper} {md : Region.Mode} {m : Nat}
end
def Nc (B:Nat) (A A' :World):Prop:=∃r,A.grownBy A' r∧∀b,r=some b→B≤b∧∃o:Obj,A.heap[b]? =some o∧o.isCells=false
def Vn (wr:Option Nat) (A A' :World):Prop:=∃r,A.grownBy A' r∧(r=none∨r=wr)
theorem Ns {B l:Nat} {A:World} {r:Loop} (o:Obj) (a:B≤l) (h:A.heap[l]? =some (.loop r)):Nc B A (A.putObj l o):=⟨some l,grownBy_putObj' A l o,fun b e=>by cases e;exact ⟨a,_,h,rfl⟩⟩
theorem Mj (B:Nat) (A:World) (o:Obj):Nc B A (A.alloc o):=⟨none,World.grownBy_alloc A o none,fun b e=>by cases e⟩
theorem Nc.mono {B a:Nat} {A d:World} (h:Nc B A d) (i:a≤B):Nc a A d:=by
 obtain ⟨r,f,c⟩:=h
 exact ⟨r,f,fun b e=>⟨Nat.le_trans i (c b e).1,(c b e).2⟩⟩
theorem Nc.size {B:Nat} {A a:World} (h:Nc B A a):A.heap.size≤a.heap.size:=by obtain ⟨r,b,_⟩:=h;exact b.size
theorem Nc.blk {B:Nat} {A d:World} (h:Nc B A d) {k:Nat} {o:Obj} (c:A.heap[k]? =some o) (j:o.isCells=true):d.heap[k]? =A.heap[k]? :=by
 obtain ⟨r,i,f⟩:=h
 refine i.block k (Array.getElem?_eq_some_iff.1 c).1 fun e=> ?_
 obtain ⟨_,p,b,a⟩:=f k e.symm
 rw [c] at b;cases b
 rw [j] at a;cases a
theorem Nc.below {B:Nat} {A b:World} (h:Nc B A b) {a:Nat} (f:a≤B) (i:a≤A.heap.size):Below a A b:=by
 obtain ⟨r,d,c⟩:=h
 exact G8 d i fun k e=>Nat.le_trans f (c k e).1
theorem AN.nc {B:Nat} {w w' :World} {b:Nat} {T:TypeId} {cs:List Value} (h:AN w b T cs) (k:Nc B w w'):AN w' b T cs:=h.keep (k.blk h rfl)
theorem FX.nc {B:Nat} {w w' :World} {e:Option Addr} {b:List Value} (h:FX w e b) (k:Nc B w w'):FX w' e b:=h.keep fun a f c=>by
 obtain ⟨u,b,rfl⟩:=exists_cons_of_ne_nil c
 have d:=h a f 0 u (by simp)
 unfold World.cell? at d
 rw [GP] at d
 cases ho:w.heap[a.block]? with
 |none=>simp [ho] at d
 |some o=>
  have i:o.isCells=true:=by cases o<;>simp_all [Obj.isCells]
  rw [k.blk ho i,ho]
theorem Sl.nc {B:Nat} {w w' :World} {sz:Nat} {v:Value} {n:Nat} {xs:List Value} (h:Sl w sz v n xs) (k:Nc B w w'):Sl w' sz v n xs:=by
 obtain ⟨d,a,cap,rfl,b,f,c,e⟩:=h
 exact ⟨d,a,cap,rfl,b,f,c,e.nc k⟩
theorem T2 {B:Nat} {w w' :World} {base:Nat} {e:TypeId} {sz:Nat} {v:Value} {n:Nat} {xs:List Value} (h:w.ownsRow base e sz v n xs) (k:Nc B w w'):w'.ownsRow base e sz v n xs:=by
 obtain ⟨d,c⟩:=h
 rcases c with c|⟨b,cap,a,rfl,j,f,i⟩
 ·exact ⟨d, .inl c⟩
 ·exact ⟨d, .inr ⟨b,cap,a,rfl,j,(k.blk f rfl).trans f,i⟩⟩
theorem AT.nc {B:Nat} {w w' :World} {base:Nat} {e:TypeId} {sz:Nat} {v:Value} {n:Nat} {xs:List Value} (h:AT w base e sz v n xs) (k:Nc B w w'):AT w' base e sz v n xs:=by
 rcases h with h|⟨g,a,rfl,c,d,b⟩
 ·exact .inl (T2 h k)
 ·exact .inr ⟨g,a,rfl,c,d.nc k,b⟩
def Kp (Nd:Nat→Prop) (w w' :World):Prop:=w.heap.size≤w'.heap.size∧∀b,Nd b→b<w.heap.size→w'.heap[b]? =w.heap[b]?
theorem Kp.refl {Nd:Nat→Prop} {w:World}:Kp Nd w w:=⟨AX _,fun _ _ _=>rfl⟩
theorem Kp.trans {Nd:Nat→Prop} {a b c:World} (h:Kp Nd a b) (k:Kp Nd b c):Kp Nd a c:=⟨Nat.le_trans h.1 k.1,fun i e d=>(k.2 i e (Nat.lt_of_lt_of_le d h.1)).trans (h.2 i e d)⟩
theorem Kp.grown {Nd:Nat→Prop} {a b c:World} (h:Kp Nd a b) {r:Option Nat} (g:b.grownBy c r) (f:∀i,r=some i→¬Nd i):Kp Nd a c:=h.trans ⟨g.size,fun i j d=>g.block i d fun e=>f i e.symm j⟩
theorem Kp.bs {Nd:Nat→Prop} {a b c:World} (h:Kp Nd a b) (g:Below b.heap.size b c):Kp Nd a c:=h.trans ⟨g.size,fun i _ d=>g.block i d⟩
theorem Kp.nc {Nd:Nat→Prop} {B:Nat} {a b c:World} (h:Kp Nd a b) (g:Nc B b c) (j:∀i,Nd i→i<B):Kp Nd a c:=by
 obtain ⟨r,f,d⟩:=g
 exact h.grown f fun i e k=>by have:=(d i e).1;have:=j i k;omega
theorem Kp.below {Nd:Nat→Prop} {B:Nat} {a b c:World} (h:Kp Nd a b) (g:Below B b c) (e:∀i,Nd i→i<B):Kp Nd a c:=h.trans ⟨g.size,fun i d _=>g.block i (e i d)⟩
def Sq {α:Type} (P:Program) (gf:FuncId) (lf lb:List Value) (encs:α→List Value) (Nd:Nat→Prop) (wr:Option Nat) (xs:List α) (w:World):Prop:=
 ∀(l:Nat) (J:List α→World→Prop) (W:World),Below w.heap.size w W→(∀pre A A',J pre A→Vn wr A A' →J pre A')→
  (∀pre x A,J pre A→pre++[x]<+:xs→Yd P l (encs x) A fun b A' =>b=true∧J (pre++[x]) A' ∧Kp Nd A A')→J [] W→
  AJ P gf (lf++ .func (.yield l) #[] #[]::lb) W fun _ A=>J xs A
def Vs (B:Nat) (Nd:Nat→Prop) (W:World) (K:World→Prop):BN:=fun e _ w' =>match e with
 | .normal=>KeepsFrom B W w' ∧Kp Nd W w' ∧K w'
 |_=>False
def Vo (B:Nat) (Nd:Nat→Prop) (l:Nat) (P:Program) (body:Code) (W:World) (K:World→Prop):BN:=fun e a w=>match e with
 | .normal=>KeepsFrom B W w∧Kp Nd W w∧∀w2,Nc l w w2→w2.heap.size=w.heap.size→(∃r,w2.heap[l]? =some (.loop r))→body.wpIn (IE (some l)) 9 P (Vs B Nd w2 K) a w2
 |_=>False
section
variable {P : Program} {n : Nat} {E : BZ} {w W : World} {B l : Nat} {Nd : Nat → Prop} {body : Code} {K : World → Prop}
end
abbrev K7 (fn:FuncId) (tmps:Array Value) (ps:Array Tmp) (assign body:Code) (dD:Nat) (st:LoopState):Loop:={state:=st,pending:=none,fn,tmps,params:=ps,assign,body,defers:=dD}
theorem Uu {α:Type} {P:Program} {l j:Nat} {fn:FuncId} {tmps:Array Value} {ps:Array Tmp} {assign body:Code} {B:Nat} {Nd:Nat→Prop} {xs:List α} {encs:α→List Value} (X:∀x,(encs x).length=ps.size) {I:List α→World→Prop} {Ex:World→Prop} (i:B≤l) (G:∀b,Nd b→b<l)
  (hI:∀a A z,I a A→Nc B A z→I a z) (s:∀A z,Ex A→KeepsFrom B A z→Ex z) (L:∀A o,Ex A→Ex (A.putObj l o))
  (c:∀a x W,I a W→a++[x]<+:xs→(∃r,W.heap[l]? =some (.loop r))→assign.wpIn (IE (some l)) 9 P (Vo B Nd l P body W (I (a++[x]))) {tmps:=(ps.zip (encs x).toArray).foldl (fun t (p,v)=>t.setIfInBounds p v) tmps,defers:=[]} W)
  (a:List α) (x:α) (W:World) (h:I a W∧W.heap[l]? =some (.loop (K7 fn tmps ps assign body j .ready))∧Ex W) (y:a++[x]<+:xs):
  Yd P l (encs x) W fun b S=>b=true∧(I (a++[x]) S∧S.heap[l]? =some (.loop (K7 fn tmps ps assign body j .ready))∧Ex S)∧Kp Nd W S:=by
 obtain ⟨hi,U,V⟩:=h
 refine ⟨fn,_,assign,body,run_yield U (by simpa using X x),roundIn_of_wpIn (F:=Fence.wide) trivial ?_⟩
 refine wpIn_mono (c a x W hi y ⟨_,U⟩) ?_
 rintro e a1 T N
 cases e with
 |normal=>
  obtain ⟨k,Z,N⟩:=N
  have f:=k.same l _ i U rfl
  have q:=(Array.getElem?_eq_some_iff.1 f).1
  refine ⟨_,run_beginRound f O, ?_⟩
  have u:(T.putObj l (.loop (K7 fn tmps ps assign body j .busy))).heap[l]? =some (.loop (K7 fn tmps ps assign body j .busy)):=World.putObj_heap_same q
  have H:Nc l T (T.putObj l (.loop (K7 fn tmps ps assign body j .busy))):=Ns _ (AX _) f
  refine wpIn_mono (N _ H (by simp) ⟨_,u⟩) ?_
  rintro e a3 W3 hp
  cases e with
  |normal=>
   obtain ⟨J,hb3,Y⟩:=hp
   have d:=J.same l _ i u rfl
   have M:=(Array.getElem?_eq_some_iff.1 d).1
   have C:Nc l W3 (W3.putObj l (.loop (K7 fn tmps ps assign body j .ready))):=Ns _ (AX _) d
   refine ⟨_,_,run_endRound none d,true,rfl,rfl,⟨hI _ _ _ Y (C.mono i),World.putObj_heap_same M,L _ _ (s _ _ (L _ _ (s _ _ V k)) J)⟩, ?_⟩
   exact (((Z.nc H G).trans hb3).nc C G)
  |_=>exact hp.elim
 |_=>exact N.elim
def binds:List Nat→List Value→BZ→BZ
 |p::ps,v::vs,E=>binds ps vs ((p,v)::E)
 |_,_,E=>E
theorem Kq {n:Nat}:∀(pl:List Nat) (vs:List Value) (E:BZ) (a:Act),pl.all (Nat.blt · n)=true→BR n E a→BR n (binds pl vs E) {a with tmps:=(pl.zip vs).foldl (fun t (p,v)=>t.setIfInBounds p v) a.tmps}
 |[],_,_,_,_,h=>h
 |_::_,[],_,_,_,h=>h
 |p::ps,v::vs,E,a,hp,h=>by
  simp only [all_cons,Bool.and_eq_true] at hp
  exact Kq ps vs ((p,v)::E) (a.put (some p) v) hp.2 (h.put v hp.1)
section
variable {P : Program} {Q : BN} {n : Nat} {E : BZ} {w : World} {D : List Deferred} {α : Type} {g : Operand} {pl : List Nat} {assign body : Code} {gf : FuncId} {lf lb : List Value} {encs : α → List Value} {Nd : Nat → Prop} {wr : Option Nat} {xs : List α}
theorem K4 {a : Act} {l : Nat} {W : World} (e : ∃ fn, P.funcs[gf]? = some fn ∧ (fn.name == "runtime.NumGoroutine") = false ∧ fn.body.isSome = true) (c : a.eval g = .func (.func gf) lf.toArray lb.toArray) :
  ∃d:Deferred,(resolve a.eval (rangeCall g l) 0).run P W= .ok d W∧(∀b,Target.leads P W d.target d.args=some b→(IE none).fn b)∧(invoke d.target d.args).run P W= .ok (.enter gf (lf++ .func (.yield l) #[] #[]::lb).toArray) W:=by
 refine ⟨_,by simp only [resolve,c];simp [go_sem];rfl,fun _ _=>trivial, ?_⟩
 simp [invoke,go_sem,EH (P:=P) (w:=W) e]
theorem Cg.range (hg:ev E g=some (.func (.func gf) lf.toArray lb.toArray)) (M:Sq P gf lf lb encs Nd wr xs w) (Z:∀b,Nd b→b<w.heap.size) (Y:∀x,(encs x).length=pl.length) (N:pl.all (Nat.blt · n)=true) (I:List α→World→Prop)
  (G:∀b,wr=some b→b<w.heap.size) (h0:I [] w) (H:∀c A s,I c A→Nc w.heap.size A s→I c s) (hW:∀c A s,I c A→Vn wr A s→I c s)
  (q:∀l c x W,w.heap.size≤l→I c W→c++[x]<+:xs→(∃r,W.heap[l]? =some (.loop r))→Cg (some l) [] P (Vo w.heap.size Nd l P body W (I (c++[x]))) n assign (binds pl (encs x) E) W)
  (u:∀d W,w.heap.size≤d→I xs W→W.heap[d]? =some (.deferred (some []))→Pg ({target:= .collected d,args:= #[]}::D) n E (Q .normal) W):Cg none D P Q n (.rangeFunc g pl.toArray assign body) E w:=fun a F=>by
 refine wpIn_rangeFunc ?_
 intro fn hfn
 rw [show (IE none).round=none from rfl]
 obtain ⟨j,i⟩:∃j,(w.alloc (.deferred (some []))).alloc (.loop (K7 fn a.tmps pl.toArray assign body w.heap.size .ready))=j:=⟨_,rfl⟩
 have T:j.heap[w.heap.size+1]? =some (.loop (K7 fn a.tmps pl.toArray assign body w.heap.size .ready)):=by
  rw [← i];have:=World.alloc_heap_new (w.alloc (.deferred (some []))) (.loop (K7 fn a.tmps pl.toArray assign body w.heap.size .ready));rwa [World.size_alloc] at this
 have hK1:j.heap[w.heap.size]? =some (.deferred (some [])):=by
  rw [← i];exact (Below.heap_alloc _ _ _ (by simp)).trans (World.alloc_heap_new w _)
 have U:I [] j:=by rw [← i];exact H _ _ _ (H _ _ _ h0 (Mj _ _ _)) (Mj _ _ _)
 have hb1:Below w.heap.size w j:=by
  rw [← i];exact ((Below.refl _ w).alloc (AX _) _).alloc (by simp) _
 have p:=M (w.heap.size+1) (fun c W=>I c W∧W.heap[w.heap.size+1]? =some (.loop (K7 fn a.tmps pl.toArray assign body w.heap.size .ready))∧W.heap[w.heap.size]? =some (.deferred (some []))) j hb1
  (fun c A s ⟨h1,h2,h3⟩ t=>by
   refine ⟨hW c A s h1 t, ?_, ?_⟩
   ·obtain ⟨r,y,f⟩:=t
    refine (y.block _ (Array.getElem?_eq_some_iff.1 h2).1 fun e=> ?_).trans h2
    rcases f with f|f
    ·rw [f] at e;cases e
    ·have:=G _ (f ▸ e.symm);omega
   ·obtain ⟨r,y,f⟩:=t
    refine (y.block _ (Array.getElem?_eq_some_iff.1 h3).1 fun e=> ?_).trans h3
    rcases f with f|f
    ·rw [f] at e;cases e
    ·have:=G _ (f ▸ e.symm);omega)
  (fun c x A h z=>Uu (by simpa using Y) (by omega) (fun b hb=>by have:=Z b hb;omega) H (fun A s h k=>k.same _ _ (AX _) h rfl) (fun A o h=>(World.putObj_heap_other (by omega)).trans h)
   (fun c x W X J f=>by
    have C:=Kq pl (encs x) E _ N F.fits
    have:=q (w.heap.size+1) c x W (by omega) X J f _ C.g0
    simpa using this) c x A h z)
  ⟨U,T,hK1⟩
 obtain ⟨d,V,L,S⟩:=K4 (P:=P) (l:=w.heap.size+1) (W:=j) (lf:=lf) (lb:=lb) p.1 (F.ev hg)
 refine ⟨w.heap.size+1,[{target:= .collected w.heap.size,args:= #[]}],j,d,j,gf,_,j, ?_,V,L,S,fun h=>by simp [IE,Fence.wide] at h,Jm.2 (p.2.mono ?_)⟩
 ·rw [← i];exact run_enterLoop_outer _ _ _ _ _
 ·rintro e W2 ⟨v,rfl,X,J,hk⟩
  refine ⟨none,_,run_endLoop J (by simp), ?_⟩
  refine u w.heap.size _ (AX _) (H _ _ _ X (Ns _ (by omega) J)) ((World.putObj_heap_other (by omega)).trans hk) _ ⟨?_,F.size,F.has⟩
  show _++_=_
  rw [F.dfr];rfl
end
section
variable {P : Program} {n : Nat} {E : BZ} {w : World} {ro : Option Nat} {D : List Deferred}
end
section
variable {P : Program} {n : Nat} {E : BZ} {w : World} {fn : Func} {R : Value → World → Prop}
end
end Go.Dd

namespace Go.Dd
open Go Go.RowKit List
section
variable {P : Program} {Q : BN} {n : Nat} {E : BZ} {w : World} {l : List Oper}
theorem Aw.invG {St:Type} (val:St→Nat→Value) (I:St→(Nat→Bool)→World→Prop) (t:St) (C:Np l n=true) (y:I t (fun _=>false) w)
  (b:AZ (fun i o=>∀s L w,I s L w→L i=false→(∀e ∈ BS o,L e=true)→(∀j q,DI l j=some q→L j=true→∀e ∈ BS q,L e=true)→(∀j g,o.guard=some (j,g)→val s j= .bool g)∧
   Ow P n (I4 l (val s) (BS o)++IP l E) o w (fun v w' =>∃m,I m (LK L i) w' ∧(∀j,L j=true→val m j=val s j)∧(o.dst.isSome=true→v=val m i))) 0 l)
  (p:∀s L w,I s L w→(∀i,i<l.length→L i=true)→Pw n (I4 l (val s) (List.range l.length)++IP l E) (Q .normal) w):Aw P l Q n l.length (Array.replicate l.length false) E w:=fun a f=>by
 obtain ⟨z,x,A⟩:=KQ C
 have k:∀i,(Array.replicate l.length false).getD i false=false:=fun i=>getD_replicate_false _ _
 have f:BR n (IP l E) a:=⟨f.dfr,f.size,fun i v h=>f.has i v (by
  rw [I2] at h
  split at h
  ·cases h
  ·exact h)⟩
 refine Mw (val:=val) (I:=I) z x A (fun i o d r u=> ?_) (fun i o r=>by have:=Kv _ _ _ b r;rwa [Nat.zero_add] at this) p _ t _ a _ ⟨by simp,f,fun j o d _ c=> ?_,fun j o _ c=> ?_, ?_⟩ ?_
 ·have B:d ∈ CU l:=List.mem_filterMap.2 ⟨o,HC r,u⟩
  rw [I2,if_pos (by simpa using B)]
 ·have:=k j;rw [this] at c;cases c
 ·have:=k j;rw [this] at c;cases c
 ·have:(fun i=>(Array.replicate l.length false).getD i false)=fun _=>false:=funext fun i=>by simpa using k i
  rw [this];exact y
 ·have:((List.range l.length).filter fun i=> !(Array.replicate l.length false).getD i false)=List.range l.length:=List.filter_eq_self.2 fun i _=>by
   have:=k i;rw [this];rfl
  rw [this];simp
inductive Kd where
 |val
 |alloc (T:TypeId) (zs:List Value)
 |st (j k:Nat)
 |stc (j:Nat) (cs:List Value)
def Kd.cells (s:Nat→Value):Kd→List Value
 | .st _ k=>(s k).cells.toList
 | .stc _ cs=>cs
 |_=>[]
def U3 (A:Nat):Value:= .pointer (some ⟨A,0,none⟩)
theorem Ow.alloc {d:Nat} {e ty:TypeId} {b:String} {g:Array Edge} {f:Option (Nat×Bool)} {c:List Value} {a:Nat} (i:He P e c a):Ow P n E ⟨some d, .alloc e,ty,b,g,f⟩ w (fun v w' =>v=U3 w.heap.size∧AN w' w.heap.size e c∧Below w.heap.size w w'):=
 Ow.mk (Xw.new i) fun _ _ h=>⟨h.1,h.2.1,h.2.2.1⟩
end
end Go.Dd

namespace Go.Dd
open Go Go.RowKit
open List hiding all get
abbrev Jq:=Nat×List Nat×(Value→World→Prop)
def DF (l0:List Oper) (i:Nat):Nat:=((DI l0 i).bind (·.dst)).getD 0
def Hv:List Jq→Nat→Value→World→Prop
 |[],_=>fun _ _=>True
 |(j,_,p)::r,i=>match Nat.beq j i with
  |true=>p
  |false=>Hv r i
def Jl (l0:List Oper):List Nat→(Nat→Value)→BZ
 |[],_=>[]
 |j::r,vs=>(DF l0 j,vs j)::Jl l0 r vs
def OJ (w:World) (d:Nat) (p:Value→World→Prop) (a' :Act) (w' :World):Prop:=Below w.heap.size w w' ∧a'.defers=[]∧∃v,a'.tmps[d]? =some v∧p v w'
def J2 (P:Program) (l0:List Oper) (Q:BN) (n:Nat) (E:BZ) (w:World) (all:List Jq):List Jq→Prop
 |[]=>True
 |(i,ds,p)::r=>((∀v w1 w2,p v w1→Below w1.heap.size w1 w2→p v w2)∧
   ∀w',Below w.heap.size w w' →∀vs:Nat→Value,(∀j ∈ ds,Hv all j (vs j) w')→∀o,DI l0 i=some o→Lw P l0 (CI (OJ w' (DF l0 i) p) Q) n [o] (Jl l0 ds vs++E) w')∧J2 P l0 Q n E w all r
def SS (l0:List Oper) (keys:List Nat) (L0:Array Bool) (items:List Jq):Bool:=
 decide (L0.size=l0.length) && (List.range l0.length).all (fun i=>L0.getD i true== !(items.map (·.1)).contains i) && decide (items.map (·.1)).Nodup &&
 items.all fun it=>match DI l0 it.1 with
  |some o=>o.guard.isNone && o.dst.isSome && !keys.contains (DF l0 it.1) && (items.all fun jt=>Nat.beq jt.1 it.1|| !Nat.beq (DF l0 jt.1) (DF l0 it.1)) &&
    (o.after.all fun e=> !Region.binds .any e||decide (e.on<it.1)) && (it.2.1.all fun j=>(items.map (·.1)).contains j && o.after.any fun e=>Region.binds .any e && Nat.beq e.on j) &&
    (match o.op with| .defer _=>false|_=>true)
  |none=>false
section
variable {P : Program} {Q : BN} {n : Nat} {E : BZ} {w : World} {l0 : List Oper}
theorem Ml:∀{a:List Jq} {b:Jq},(a.map (·.1)).Nodup→b ∈ a→Hv a b.1=b.2.2
 |(j,ds,p)::r,b,hn,c=>by
  simp only [map_cons,nodup_cons] at hn
  rcases List.mem_cons.1 c with rfl|c
  ·unfold Hv;rw [Nat.beq_refl]
  ·have d:Nat.beq j b.1=false:=by
    cases h:Nat.beq j b.1 with
    |false=>rfl
    |true=>exact absurd (List.mem_map.2 ⟨b,c,(Nat.eq_of_beq_eq_true h).symm⟩) hn.1
   unfold Hv
   rw [d]
   exact Ml hn.2 c
theorem Hy {c:List Jq}:∀{a:List Jq} {b:Jq},J2 P l0 Q n E w c a→b ∈ a→(∀v e f,b.2.2 v e→Below e.heap.size e f→b.2.2 v f)∧
   ∀w',Below w.heap.size w w' →∀vs:Nat→Value,(∀j ∈ b.2.1,Hv c j (vs j) w')→∀o,DI l0 b.1=some o→Lw P l0 (CI (OJ w' (DF l0 b.1) b.2.2) Q) n [o] (Jl l0 b.2.1 vs++E) w'
 |(j,ds,p)::r,b,h,d=>by
  rcases List.mem_cons.1 d with rfl|d
  ·exact h.1
  ·exact Hy h.2 d
theorem T5 {o:Oper} {a:Act} {w:World} {K:Act→World→Prop} (h:o.wp P a w K Q):o.wp P a w (fun g w' =>K g w' ∧∃v,g.tmps=(a.put o.dst v).tmps) Q:=by
 unfold Oper.wp at*
 cases hr:(execOp a.eval o).run P w with
 |ok nx w' =>
  rw [hr] at h
  cases nx with
  |value v=>exact ⟨h,v,rfl⟩
  |skip=>exact ⟨h,_,rfl⟩
  |«defer» d=>exact ⟨h,undef,by cases o.dst<;>rfl⟩
  |enter f args=>exact Calls.mono h fun e c b=>by cases e<;>first|exact ⟨b,_,rfl⟩|exact b
  |row row args=>exact Rows.mono h fun v c b=>⟨b,_,rfl⟩
  |_=>exact h
 |halt x w' =>rw [hr] at h;cases x<;>exact h
theorem KF {α:Type} {f:α→Nat}:∀{l:List α} (_:(l.map f).Nodup) {x y:α},x ∈ l→y ∈ l→f x=f y→x=y
 |z::l,hn,x,y,hx,hy,he=>by
  simp only [map_cons,nodup_cons] at hn
  by_cases h1:x=z
  ·by_cases h2:y=z
   ·rw [h1,h2]
   ·have a:y ∈ l:=by simpa [h2] using hy
    exact absurd (List.mem_map.2 ⟨y,a,by rw [← he,h1]⟩) hn.1
  ·have b:x ∈ l:=by simpa [h1] using hx
   by_cases h2:y=z
   ·exact absurd (List.mem_map.2 ⟨x,b,by rw [he,h2]⟩) hn.1
   ·have a:y ∈ l:=by simpa [h2] using hy
    exact KF hn.2 b a he
theorem IW {L:Array Bool} {i:Nat}:∀{S:List Nat},i ∈ S→S.Nodup→(∀j ∈ S,j<L.size)→L.getD i true=false→(S.filter fun j=> !(L.setIfInBounds i true).getD j true).length+1=(S.filter fun j=> !L.getD j true).length
 |x::S,hi,hnd,hlt,hun=>by
  rw [nodup_cons] at hnd
  have f:=hlt x (by simp)
  by_cases hxi:x=i
  ·subst hxi
   have c:∀j ∈ S,(!(L.setIfInBounds x true).getD j true)= !L.getD j true:=fun j a=>by
    rw [getD_set_ne true (by rintro rfl;exact hnd.1 a)]
   have d:(!(L.setIfInBounds x true).getD x true)=false:=by rw [GT _ _ _ _ f];simp
   rw [filter_cons,filter_cons,d,filter_congr c]
   have e:(!L.getD x true)=true:=by rw [hun];rfl
   rw [e]
   simp
  ·have b:i ∈ S:=by
    rcases List.mem_cons.1 hi with h|h
    ·exact absurd h.symm hxi
    ·exact h
   have c:=IW b hnd.2 (fun j a=>hlt j (by simp [a])) hun
   rw [filter_cons,filter_cons,getD_set_ne true (Ne.symm hxi)]
   cases hl:L.getD x true with
   |true=>simp only [Bool.not_true,Bool.false_eq_true,if_false];exact c
   |false=>simp only [Bool.not_false,if_true,length_cons];omega
structure Uq (l0:List Oper) (n:Nat) (E:BZ) (w:World) (items:List Jq) (L:Array Bool) (a:Act) (w' :World):Prop where
 size:L.size=l0.length
 below:Below w.heap.size w w'
 fits:BR n E a
 only:∀i,i<l0.length→L.getD i true=false→i ∈ items.map (·.1)
 done:∀it ∈ items,L.getD it.1 false=true→∃v,a.tmps[DF l0 it.1]? =some v∧it.2.2 v w'
theorem Pw.grow {a:World} {d:Nat} {p:Value→World→Prop} (v:Value) (e:get E d=some v) (f:Below a.heap.size a w) (c:p v w):Pw n E (CI (OJ a d p) Q .normal) w:=fun _ b=>⟨f,b.dfr,v,b.has _ _ e,c⟩
theorem Ko:∀{ds:List Nat} {vs:Nat→Value} {a:Act},BR n E a→(∀j ∈ ds,a.tmps[DF l0 j]? =some (vs j))→BR n (Jl l0 ds vs++E) a
 |[],_,_,h,_=>h
 |j::r,vs,a,h,hv=>by
  have c:=Ko (ds:=r) h fun k d=>hv k (mem_cons_of_mem _ d)
  refine ⟨c.dfr,c.size,fun i u b=> ?_⟩
  show a.tmps[i]? =some u
  rw [show Jl l0 (j::r) vs++E=(DF l0 j,vs j)::(Jl l0 r vs++E) from rfl] at b
  by_cases hi:DF l0 j=i
  ·subst hi;rw [CG] at b;cases b;exact hv j (List.mem_cons_self ..)
  ·rw [CX _ _ hi] at b;exact c.has _ _ b
theorem Py {b:List Jq} {keys:List Nat} (hk:∀i u,get E i=some u→i ∈ keys) (H:J2 P l0 Q n E w b b)
  (M:∀(vs:Nat→Value) w',Below w.heap.size w w' →(∀c ∈ b,c.2.2 (vs c.1) w')→Pw n (Jl l0 (b.map (·.1)) vs++E) (Q .normal) w')
  (T:(b.map (·.1)).Nodup)
  (hB:∀c ∈ b,∃o,DI l0 c.1=some o∧o.guard=none∧o.dst=some (DF l0 c.1)∧DF l0 c.1 ∉ keys∧(∀s ∈ b,s.1≠c.1→DF l0 s.1≠DF l0 c.1)∧
   (∀e ∈ o.after,Region.binds .any e=true→e.on<c.1)∧(∀j ∈ c.2.1,j ∈ b.map (·.1)∧∃e ∈ o.after,Region.binds .any e=true∧e.on=j)):
  ∀(f:Nat) (L:Array Bool) (a:Act) (w' :World),Uq l0 n E w b L a w' →((b.map (·.1)).filter fun i=> !L.getD i true).length=f→wpAny P .any l0.toArray Q f L a w' :=by
 intro f
 induction f with
 |zero=>
  intro L a w' g hf
  have hall:∀c ∈ b,L.getD c.1 false=true:=fun c d=>by
   have y:=eq_nil_of_length_eq_zero hf
   rw [filter_eq_nil_iff] at y
   have D:=y c.1 (List.mem_map.2 ⟨c,d,rfl⟩)
   obtain ⟨o,t, -⟩:=hB c d
   have q:c.1<L.size:=by rw [g.size];rw [← CO] at t;exact (List.getElem?_eq_some_iff.1 t).1
   have:=DS (L:=L) q
   rw [← this]
   simpa using D
  refine ⟨?_, ?_⟩
  ·refine List.eq_nil_iff_forall_not_mem.2 fun i hi=> ?_
   obtain ⟨y,o,t,_⟩:=mem_ready.1 hi
   have q:i<l0.length:=by simpa using (Array.getElem?_eq_some_iff.1 t).1
   obtain ⟨c,d,rfl⟩:=List.mem_map.1 (g.only i q y)
   have D:=hall c d
   rw [← DS (by rw [g.size];exact q),y] at D
   cases D
  ·have hv:∀c ∈ b,∃v,a.tmps[DF l0 c.1]? =some v∧c.2.2 v w' :=fun c d=>g.done c d (hall c d)
   have p:∃vs:Nat→Value,∀c ∈ b,a.tmps[DF l0 c.1]? =some (vs c.1)∧c.2.2 (vs c.1) w' :=by
    refine ⟨fun i=>(a.tmps[DF l0 i]?).getD undef,fun c d=> ?_⟩
    obtain ⟨v,y,D⟩:=hv c d
    simp only [y,Option.getD_some]
    exact ⟨trivial,D⟩
   obtain ⟨vs,p⟩:=p
   exact M vs w' g.below (fun c d=>(p c d).2) a (Ko g.fits fun j m=>by
    obtain ⟨c,d,rfl⟩:=List.mem_map.1 m
    exact (p c d).1)
 |succ f ih=>
  intro L a w' g hf
  have q:∀c ∈ b,c.1<L.size:=fun c d=>by
   obtain ⟨o,t, -⟩:=hB c d
   rw [g.size];rw [← CO] at t;exact (List.getElem?_eq_some_iff.1 t).1
  refine ⟨fun hr=> ?_,fun i hi=> ?_⟩
  ·exfalso
   have key:∀k c,c ∈ b→c.1=k→L.getD c.1 true=false→∃j,j ∈ Region.ready .any l0.toArray L:=by
    intro k
    induction k using Nat.strongRecOn with
    |_ k ihk=>
     intro c d Y z
     obtain ⟨o,t, -, -, -, -,R, -⟩:=hB c d
     by_cases hall:∀e ∈ o.after,Region.binds .any e=true→L.getD e.on false=true
     ·exact ⟨c.1,mem_ready.2 ⟨z,o,by rw [getElem?_toArray,CO];exact t,hall⟩⟩
     ·obtain ⟨e,he⟩:=Classical.not_forall.1 hall
      obtain ⟨U,he⟩:=Classical.not_imp.1 he
      obtain ⟨N,he3⟩:=Classical.not_imp.1 he
      have hlt1:=R e U N
      have hlt2:=q c d
      have hes:e.on<L.size:=by omega
      have J:L.getD e.on true=false:=by
       rw [DS hes]
       simpa using he3
      obtain ⟨s,m,S⟩:=List.mem_map.1 (g.only e.on (by rw [← g.size];exact hes) J)
      exact ihk s.1 (by omega) s m rfl (by rw [S];exact J)
   have hex:∃c ∈ b,L.getD c.1 true=false:=by
    have hne:((b.map (·.1)).filter fun i=> !L.getD i true)≠[]:=fun h0=>by rw [h0] at hf;cases hf
    obtain ⟨j,m⟩:=exists_mem_of_ne_nil _ hne
    rw [mem_filter] at m
    obtain ⟨c,d,rfl⟩:=List.mem_map.1 m.1
    exact ⟨c,d,by simpa using m.2⟩
   obtain ⟨c,d,z⟩:=hex
   obtain ⟨j,m⟩:=key _ c d rfl z
   rw [hr] at m
   cases m
  ·obtain ⟨z,o,t,G⟩:=mem_ready.1 hi
   have hil:i<l0.length:=by simpa using (Array.getElem?_eq_some_iff.1 t).1
   obtain ⟨c,d,rfl⟩:=List.mem_map.1 (g.only i hil z)
   obtain ⟨o',ho',hgd,I,Z,F, -,V⟩:=hB c d
   have hoo:o' =o:=by
    rw [getElem?_toArray,CO,ho'] at t
    exact Option.some.inj t
   subst hoo
   obtain ⟨hstab,hop⟩:=Hy H d
   have p:∃vs:Nat→Value,∀j ∈ c.2.1,a.tmps[DF l0 j]? =some (vs j)∧Hv b j (vs j) w' :=by
    refine ⟨fun j=>(a.tmps[DF l0 j]?).getD undef,fun j m=> ?_⟩
    obtain ⟨hjm,e,U,N,rfl⟩:=V j m
    obtain ⟨s,l,S⟩:=List.mem_map.1 hjm
    have hl:=G e U N
    rw [← S] at hl ⊢
    obtain ⟨v,y,D⟩:=g.done s l hl
    rw [Ml T l]
    simp only [y,Option.getD_some]
    exact ⟨trivial,D⟩
   obtain ⟨vs,p⟩:=p
   have y:=hop w' g.below vs (fun j m=>(p j m).2) o' ho' a (Ko g.fits fun j m=>(p j m).1)
   have hw:Region.wanted o' (yielded l0.toArray a.tmps)=true:=by simp [Region.wanted,hgd]
   unfold wpList at y
   rw [if_pos hw] at y
   unfold wpOp
   simp only [t]
   rw [if_pos hw]
   refine y.imp (fun h=> ?_) (fun h=>h)
   have D:o'.wp P a w' (fun a1 X=>OJ w' (DF l0 c.1) c.2.2 a1 X) Q:=by
    unfold Oper.wp at*
    generalize (execOp a.eval o').run P w' =r at*
    cases r with
    |ok nx X=>cases nx<;>exact h
    |halt x X=>cases x<;>exact h
   refine Oper.wp_mono ?_ (T5 D)
   rintro a1 X ⟨⟨hb1,hd1,v,hv1,hp1⟩,v',K⟩
   have B:∀k,k≠DF l0 c.1→a1.tmps[k]? =a.tmps[k]? :=fun k Y=>by
    rw [K,I]
    simp only [Act.put]
    rw [Array.getElem?_setIfInBounds_ne (Ne.symm Y)]
   refine ih _ _ _ ⟨by simpa using g.size,g.below.trans (hb1.mono g.below.size),⟨hd1, ?_,fun k u hu=> ?_⟩,fun j m W=>g.only j m ?_,fun s l A=> ?_⟩ ?_
   ·rw [K,I];simpa [Act.put] using g.fits.size
   ·rw [B k fun e=>Z (e ▸ hk k u hu)];exact g.fits.has k u hu
   ·rw [GT _ _ _ _ (by rw [g.size];exact m)] at W
    simp only [Bool.or_eq_false_iff] at W
    exact W.1
   ·by_cases hji:s.1=c.1
    ·have:s=c:=KF T l d hji
     subst this
     exact ⟨v,hv1,hp1⟩
    ·rw [GT _ _ _ _ (q s l)] at A
     have A:L.getD s.1 false=true:=by
      simp only [Bool.or_eq_true,beq_iff_eq] at A
      rcases A with h|h
      ·exact h
      ·exact absurd h.symm hji
     obtain ⟨u,h3,h4⟩:=g.done s l A
     exact ⟨u,by rw [B _ (F s l hji)];exact h3,(Hy H l).1 u w' X h4 hb1⟩
   ·have:=IW (List.mem_map.2 ⟨c,d,rfl⟩) T (fun j m=>by obtain ⟨s,l,rfl⟩:=List.mem_map.1 m;exact q s l) z
    omega
theorem M6:∀{E:BZ} {i:Nat} {u:Value},get E i=some u→i ∈ E.map (·.1)
 |(j,v)::E,i,u,h=>by
  by_cases hj:j=i
  ·subst hj;simp
  ·rw [CX _ _ hj] at h
   exact mem_cons_of_mem _ (M6 h)
theorem Aw.grow {f:Nat} {y:Array Bool} (b:List Jq) (K:SS l0 (E.map (·.1)) y b=true) (R:b.length=f) (r:J2 P l0 Q n E w b b)
  (m:∀(vs:Nat→Value) w',Below w.heap.size w w' →(∀c ∈ b,c.2.2 (vs c.1) w')→Pw n (Jl l0 (b.map (·.1)) vs++E) (Q .normal) w'):Aw P l0 Q n f y E w:=fun a V=>by
 simp only [SS,Bool.and_eq_true,decide_eq_true_eq,all_eq_true,mem_range] at K
 obtain ⟨⟨⟨t,D⟩,G⟩,B⟩:=K
 have p:∀c ∈ b,∃o,DI l0 c.1=some o∧o.guard=none∧o.dst=some (DF l0 c.1)∧DF l0 c.1 ∉ E.map (·.1)∧(∀x ∈ b,x.1≠c.1→DF l0 x.1≠DF l0 c.1)∧
   (∀e ∈ o.after,Region.binds .any e=true→e.on<c.1)∧(∀j ∈ c.2.1,j ∈ b.map (·.1)∧∃e ∈ o.after,Region.binds .any e=true∧e.on=j):=fun c q=>by
  have h:=B c q
  cases k:DI l0 c.1 with
  |none=>simp [k] at h
  |some o=>
   simp only [k,Bool.and_eq_true,all_eq_true,Bool.or_eq_true,Bool.not_eq_true'] at h
   obtain ⟨⟨⟨⟨⟨⟨l,A⟩,T⟩,L⟩,N⟩,U⟩, -⟩:=h
   refine ⟨o,rfl,by simpa using l, ?_,by simpa using T,fun x I z v=> ?_,fun e v s=> ?_,fun j I=> ?_⟩
   ·obtain ⟨d,J⟩:=Option.isSome_iff_exists.1 A
    rw [J];simp [DF,k,J]
   ·rcases L x I with h|h
    ·exact z (Nat.eq_of_beq_eq_true h)
    ·rw [v,Nat.beq_refl] at h;cases h
   ·have:=Array.all_eq_true_iff_forall_mem.1 N e v
    simp only [s,Bool.not_true,Bool.false_or,decide_eq_true_eq] at this
    exact this
   ·have:=U j I
    obtain ⟨M,S⟩:=this
    refine ⟨by simpa using M, ?_⟩
    obtain ⟨e,v,s⟩:=Array.any_eq_true'.1 S
    simp only [Bool.and_eq_true] at s
    exact ⟨e,v,s.1,Nat.eq_of_beq_eq_true s.2⟩
 refine Py (keys:=E.map (·.1)) (fun i u h=>M6 h) r m G p f y a w ⟨t,Below.refl _ _,V,fun i H F=> ?_,fun c q F=> ?_⟩ ?_
 ·have:=D i H
  rw [F] at this
  simpa using this
 ·obtain ⟨o,k, -⟩:=p c q
  have g:c.1<l0.length:=by rw [← CO] at k;exact (List.getElem?_eq_some_iff.1 k).1
  have l:=D c.1 g
  rw [DS (by rw [t];exact g),F] at l
  have:(b.map (·.1)).contains c.1=true:=by simpa using ⟨c.2.1,c.2.2,q⟩
  rw [this] at l
  cases l
 ·rw [← R,List.filter_eq_self.2,length_map]
  intro i H
  obtain ⟨c,q,rfl⟩:=List.mem_map.1 H
  obtain ⟨o,k, -⟩:=p c q
  have g:c.1<l0.length:=by rw [← CO] at k;exact (List.getElem?_eq_some_iff.1 k).1
  have l:=D c.1 g
  have:(b.map (·.1)).contains c.1=true:=by simpa using ⟨c.2.1,c.2.2,q⟩
  rw [this] at l
  have A:y.getD c.1 true=false:=by simpa using l
  rw [A];rfl
variable {C : World → Prop}
end
end Go.Dd

namespace Go.Dd
open Go Go.RowKit List
def Hf (rows Hv step:Int):Int:=if rows<Hv then 0 else (rows - Hv) / step+1
def Hi (t w:List Int) (step pad:Int):List Int:=[w.getD 0 default,Hf (t.getD 1 default+2*pad) (w.getD 2 default) step,Hf (t.getD 2 default+2*pad) (w.getD 3 default) step]
def EG (t w:List Int) (step pad:Int):Bool:= !Shapes.ok t|| !Shapes.ok w||decide (step<1)||decide (8<step)||decide (pad<0)||decide (8<pad)
def J3 (t w:List Int):Bool:=decide (t.length=3) && decide (w.length=4) && decide (t.getD 0 default=w.getD 1 default)
def CB (t w:List Int) (step pad:Int):Int:=if EG t w step pad then 1 else if J3 t w && Shapes.ok (Hi t w step pad) then 0 else 10
def HR (t:List Int) (wide:Int):List Int:=[t.getD 0 default,Hf (t.getD 1 default) wide wide,Hf (t.getD 2 default) wide wide]
def GF (t:List Int) (wide:Int):Bool:= !Shapes.ok t||decide (wide<1)||decide (64<wide)
def Hr (t:List Int) (wide:Int):Bool:=decide (t.length=3) && decide (wide≤t.getD 1 default) && decide (wide≤t.getD 2 default)
def CC (t:List Int) (wide:Int):Int:=if GF t wide then 1 else if Hr t wide then 0 else 10
theorem CF {s:List Int} (h:Shapes.good s) {k:Nat} (a:k<s.length):1≤s.getD k default∧s.getD k default≤64:=by
 have:s.getD k default ∈ s:=by simp [a]
 exact h _ this
end Go.Dd

namespace Go.Proofs.YtblbopcaflaldaaGreatDoor
open Go Go.Dd Go.RowKit List Go.Proofs.Tryz
set_option maxRecDepth 100000
theorem Ij (a Hv b:Int) (w:World) (e:0≤a∧a≤1000000) (c:0≤Hv∧Hv≤1000000) (h:1≤b∧b≤1000000):
  AJ prog 276 [.int .i64 a, .int .i64 Hv, .int .i64 b] w (fun r w' =>r= .int .i64 (Hf a Hv b)∧Below w.heap.size w w'):=by
 refine Bd (n:=16) func276 O<|Ah<|Ab O<|Bj<|Ad O<|Ad O<|B1 O<|Aj<|Ao O ?_ ?_
 ·intro g
  have g:=AC g
  exact Ah<|Ab rfl<|Bz<|Ax rfl rfl<|⟨by rw [Hf,if_pos g],Below.refl _ _⟩
 intro g
 have g:=AB g
 have d:=Int.ediv_le_self b (show 0≤a - Hv by omega)
 have f:=Int.ediv_nonneg (show 0≤a - Hv by omega) (show 0≤b by omega)
 refine Cp<|Ad O<|Ad O<|Aa (Ec O O (by omega)) O<|Ad O<|Aa (Ez O O (by omega) (by omega)) O<|B9 O (by omega)<|Ab O<|Ay<|Ax O O ?_
 exact ⟨by rw [Hf,if_neg g],Below.refl _ _⟩
def RK (W w:World) (r:Value) (e:Int) (l:List Int):Prop:=
 ∃(x:Value) (m:List Int),r= .tuple #[x, .int .i64 e]∧w.ownsRow W.heap.size 3 1 x m.length (m.map (Value.int .i64))∧(e≠0→x= .slice none 0 0∧m=[])∧(e=0→m=l)
theorem BF {W w:World} {e:Int} {l:List Int} (h:e≠0):RK W w (.tuple #[.slice none 0 0, .int .i64 e]) e l:=⟨_,[],rfl,World.ownsRow_nil _ _ _ _,fun _=>⟨rfl,rfl⟩,fun a=>absurd a h⟩
theorem PJ {t s:List Int} (h:¬t.length=3):J3 t s=false:=by simp only [J3,decide_eq_false h,Bool.false_and]
theorem PI {t s:List Int} (h:¬s.length=4):J3 t s=false:=by simp only [J3,decide_eq_false h,Bool.false_and,Bool.and_false]
theorem PH {t s:List Int} (h:¬t.getD 0 default=s.getD 1 default):J3 t s=false:=by simp only [J3,decide_eq_false h,Bool.and_false]
theorem PF (t s:List Int) (a c:Int) (u v:Value) (W:World) (f:CA (Value.int .i64) W u t) (e:CA (Value.int .i64) W v s):
  AJ prog 251 [u,v, .int .i64 a, .int .i64 c] W (fun r w' =>Below W.heap.size W w' ∧RK W w' r (CB t s a c) (Hi t s a c)):=by
 have i:=Below.refl W.heap.size W
 refine Bd (n:=84) func251 O<|Ah<|Ab O<|Ab O<|Aj<|Aq<|Ar<|Ah<|Ad O<|An O O (G9 u t _ f) ?_
 rintro _ w ⟨rfl,j⟩
 have i:=i.bs j
 have f:=f.bs j
 have e:=e.bs j
 refine Aa (Co O) O<|Ad O ?_
 refine Bx 15 O ?_ ?_
 ·intro q
  refine Ae (dj:=15) O O O O<|Ae (dj:=15) O O O O<|Ae (dj:=15) O O O O<|Bu O<|Ad O<|Ae (dj:=20) O O O O<|Ae (dj:=20) O O O O<|Bu O<|Ad O<|Ae (dj:=24) O O O O<|Ae (dj:=24) O O O O<|Bu O<|Ad O<|Ae (dj:=28) O O O O<|Ae (dj:=28) O O O O<|Bu O<|Ad O<|Ae (dj:=32) O O O O<|Ae (dj:=32) O O O O<|Bu O<|Ab O<|Aj<|B3 O<|Ah<|Ab O<|Ab O<|Ay<|Ba<|Ap<|Bp O O O ?_
  rw [show CB t s a c=1 by simp [CB,show EG t s a c=true by simp_all [EG]]]
  exact ⟨i,BF (by decide)⟩
 intro q
 refine Af (dj:=15) O O<|Ad O<|Af (dj:=15) O O<|An O O (G9 v s _ e) ?_
 rintro _ w ⟨rfl,j⟩
 have i:=i.bs j
 have f:=f.bs j
 have e:=e.bs j
 refine Af (dj:=15) O O<|Aa (Co O) O<|B4 O<|Ad O ?_
 refine Bx 20 O ?_ ?_
 ·intro o
  refine Ae (dj:=20) O O O O<|Ae (dj:=20) O O O O<|Bu O<|Ad O<|Ae (dj:=24) O O O O<|Ae (dj:=24) O O O O<|Bu O<|Ad O<|Ae (dj:=28) O O O O<|Ae (dj:=28) O O O O<|Bu O<|Ad O<|Ae (dj:=32) O O O O<|Ae (dj:=32) O O O O<|Bu O<|Ab O<|Aj<|B3 O<|Ah<|Ab O<|Ab O<|Ay<|Ba<|Ap<|Bp O O O ?_
  rw [show CB t s a c=1 by simp [CB,show EG t s a c=true by simp_all [EG]]]
  exact ⟨i,BF (by decide)⟩
 intro o
 refine Af (dj:=20) O O<|Ad O<|Af (dj:=20) O O<|B1 O<|B4 O<|Ad O ?_
 refine Bx 24 O ?_ ?_
 ·intro B
  refine Ae (dj:=24) O O O O<|Ae (dj:=24) O O O O<|Bu O<|Ad O<|Ae (dj:=28) O O O O<|Ae (dj:=28) O O O O<|Bu O<|Ad O<|Ae (dj:=32) O O O O<|Ae (dj:=32) O O O O<|Bu O<|Ab O<|Aj<|B3 O<|Ah<|Ab O<|Ab O<|Ay<|Ba<|Ap<|Bp O O O ?_
  rw [show CB t s a c=1 by simp [CB,show EG t s a c=true by simp_all [EG]]]
  exact ⟨i,BF (by decide)⟩
 intro B
 refine Af (dj:=24) O O<|Ad O<|Af (dj:=24) O O<|Aa (Da O O) O<|B4 O<|Ad O ?_
 refine Bx 28 O ?_ ?_
 ·intro p
  refine Ae (dj:=28) O O O O<|Ae (dj:=28) O O O O<|Bu O<|Ad O<|Ae (dj:=32) O O O O<|Ae (dj:=32) O O O O<|Bu O<|Ab O<|Aj<|B3 O<|Ah<|Ab O<|Ab O<|Ay<|Ba<|Ap<|Bp O O O ?_
  rw [show CB t s a c=1 by simp [CB,show EG t s a c=true by simp_all [EG]]]
  exact ⟨i,BF (by decide)⟩
 intro p
 refine Af (dj:=28) O O<|Ad O<|Af (dj:=28) O O<|B1 O<|B4 O<|Ad O ?_
 refine Bx 32 O ?_ ?_
 ·intro z
  refine Ae (dj:=32) O O O O<|Ae (dj:=32) O O O O<|Bu O<|Ab O<|Aj<|B3 O<|Ah<|Ab O<|Ab O<|Ay<|Ba<|Ap<|Bp O O O ?_
  rw [show CB t s a c=1 by simp [CB,show EG t s a c=true by simp_all [EG]]]
  exact ⟨i,BF (by decide)⟩
 intro z
 have K:Shapes.ok t=true:=by simpa using q
 have H:Shapes.ok s=true:=by simpa using o
 have I:1≤a:=by simpa using B
 have E:a≤8:=by simpa using p
 have N:0≤c:=by simpa using z
 refine Af (dj:=32) O O<|Ad O<|Af (dj:=32) O O<|Aa (Da O O) O<|B4 O<|Ab O<|Aj<|Ao O ?_ ?_
 ·intro m
  refine Ah<|Ab O<|Ab O<|Ay<|Ba<|Ap<|Bp O O O ?_
  rw [show CB t s a c=1 by simp [CB,show EG t s a c=true by simp_all [EG]]]
  exact ⟨i,BF (by decide)⟩
 intro m
 have L:c≤8:=by simpa using m
 have y:EG t s a c=false:=by simp_all [EG]
 clear q o B p z m
 have D:=(Shapes.ok_iff t).1 K
 have A:=(Shapes.ok_iff s).1 H
 refine Aq<|C8 mixed (by kernel_rfl)<|Bt O<|Ai (fun d b=>Au AD O (Sl.bs ‹_› b)) O ?_
 refine Ai (fun d b=>Cn O O) O<|Bt O ?_
 refine Di 40 O ?_ ?_
 ·intro g
  refine As (dj:=40) O O O O<|As (dj:=40) O O O O<|As (dj:=40) O O O O<|Ai (fun d b=>Cy O O) O<|Bt O<|As (dj:=45) O O O O<|As (dj:=45) O O O O<|As (dj:=45) O O O O<|As (dj:=45) O O O O<|As (dj:=45) O O O O<|As (dj:=45) O O O O<|As (dj:=45) O O O O<|Ai (fun d b=>Cy O O) O<|D7 O ?_
  refine C1 (fun d b=> ?_)
  refine Av<|B8<|B3 O<|Ah<|Ab O<|Ab O<|Ay<|Ba<|Ap<|Bp O O O ?_
  rw [show CB t s a c=10 by rw [CB,y,PJ (fun h=>by simp [h] at g)];rfl]
  exact ⟨bt i b,BF (by decide)⟩
 intro F
 have lt:t.length=3:=by have:=F;simp at this;omega
 refine Az (dj:=40) O O<|Bt O<|Az (dj:=40) O O<|Ai (fun d b=>Au AD O (Sl.bs ‹_› b)) O ?_
 refine Az (dj:=40) O O<|Ai (fun d b=>Cn O O) O<|Ai (fun d b=>Cx O O) O<|Bt O ?_
 refine Di 45 O ?_ ?_
 ·intro g
  refine As (dj:=45) O O O O<|As (dj:=45) O O O O<|As (dj:=45) O O O O<|As (dj:=45) O O O O<|As (dj:=45) O O O O<|As (dj:=45) O O O O<|As (dj:=45) O O O O<|Ai (fun d b=>Cy O O) O<|D7 O ?_
  refine C1 (fun d b=> ?_)
  refine Av<|B8<|B3 O<|Ah<|Ab O<|Ab O<|Ay<|Ba<|Ap<|Bp O O O ?_
  rw [show CB t s a c=10 by rw [CB,y,PI (fun h=>by simp [h] at g)];rfl]
  exact ⟨bt i b,BF (by decide)⟩
 intro G
 have ls:s.length=4:=by have:=G;simp at this;omega
 refine Az (dj:=45) O O<|Bt O<|Az (dj:=45) O O<|Ai (fun d b=>Bf AD O O (Sl.bs ‹_› b) 0 O (by omega)) O ?_
 refine Az (dj:=45) O O<|Ai (fun d b=>Bl (AI _) O (Sl.bs ‹_› b) (by omega)) O ?_
 refine Az (dj:=45) O O<|Bt O<|Az (dj:=45) O O<|Ai (fun d b=>Bf AD O O (Sl.bs ‹_› b) 1 O (by omega)) O ?_
 refine Az (dj:=45) O O<|Ai (fun d b=>Bl (AI _) O (Sl.bs ‹_› b) (by omega)) O ?_
 refine Az (dj:=45) O O<|Ai (fun d b=>Cn O O) O<|Ai (fun d b=>Cx O O) O<|D7 O ?_
 refine C1 (fun d b=> ?_)
 refine Av<|B8<|Ao O ?_ ?_
 ·intro g
  refine Ah<|Ab O<|Ab O<|Ay<|Ba<|Ap<|Bp O O O ?_
  rw [show CB t s a c=10 by rw [CB,y,PH (fun h=>by rw [decide_eq_true h] at g;cases g)];rfl]
  exact ⟨bt i b,BF (by decide)⟩
 intro C
 have S:J3 t s=true:=by
  have:t.getD 0 default=s.getD 1 default:=by simpa only [Bool.not_eq_false',decide_eq_true_eq] using C
  rw [J3,decide_eq_true lt,decide_eq_true ls,decide_eq_true this];rfl
 have i:=i.bs b
 have f:=f.bs b
 have e:=e.bs b
 clear b F G C
 have T:=CF D.2.1 (k:=1) (by omega)
 have M:=CF D.2.1 (k:=2) (by omega)
 have R:=CF A.2.1 (k:=0) (by omega)
 have Q:=CF A.2.1 (k:=2) (by omega)
 have U:=CF A.2.1 (k:=3) (by omega)
 refine Ca<|Bi<|Av<|B8<|Aq<|Cw.tail 25 mixed (by kernel_rfl)<|Bt O<|Ai (fun d b=>Bf AD O O (Sl.bs ‹_› b) 0 O (by omega)) O ?_
 refine Ai (fun d b=>Bl (AI _) O (Sl.bs ‹_› b) (by omega)) O ?_
 refine Bt O<|Ai (fun d b=>Bf AD O O (Sl.bs ‹_› b) 1 O (by omega)) O ?_
 refine Ai (fun d b=>Bl (AI _) O (Sl.bs ‹_› b) (by omega)) O ?_
 refine Bt O<|Ai (fun d b=>D8 O O (by omega)) O<|Ai (fun d b=>Dx O O (by omega)) O<|Bt O<|Ai (fun d b=>Bf AD O O (Sl.bs ‹_› b) 2 O (by omega)) O ?_
 refine Ai (fun d b=>Bl (AI _) O (Sl.bs ‹_› b) (by omega)) O ?_
 refine Bt O<|C3 O O (fun d b=>(Ij (t.getD 1 default+2*c) (s.getD 2 default) a d (by omega) (by omega) (by omega)).q b)<|Bt O<|Ai (fun d b=>Bf AD O O (Sl.bs ‹_› b) 2 O (by omega)) O ?_
 refine Ai (fun d b=>Bl (AI _) O (Sl.bs ‹_› b) (by omega)) O ?_
 refine Bt O<|Ai (fun d b=>D8 O O (by omega)) O<|Ai (fun d b=>Dx O O (by omega)) O<|Bt O<|Ai (fun d b=>Bf AD O O (Sl.bs ‹_› b) 3 O (by omega)) O ?_
 refine Ai (fun d b=>Bl (AI _) O (Sl.bs ‹_› b) (by omega)) O ?_
 refine Bt O<|C3 O O (fun d b=>(Ij (t.getD 2 default+2*c) (s.getD 3 default) a d (by omega) (by omega) (by omega)).q b) ?_
 refine Qw.done (fun V b=> ?_)
 have i:=i.bs b
 have f:=f.bs b
 have e:=e.bs b
 have J:=AA i
 refine Bq (C2 (vs:=(Hi t s a c).map (Value.int .i64)) AD DT O O O O O) O ?_
 rintro x w ⟨l, -,j, -⟩
 have l:=DN l J
 have i:=i.bs j
 have f:=f.bs j
 have e:=e.bs j
 refine Ab O<|Bj<|Ad O<|An O O (G9 x (Hi t s a c) _ (BD l)) ?_
 rintro _ w ⟨rfl,j⟩
 have i:=i.bs j
 have f:=f.bs j
 have e:=e.bs j
 have l:=l.bs j
 refine Aa (Co O) O<|Aj<|Ao O ?_ ?_
 ·intro g
  refine Ah<|Ab O<|Ab O<|Bz<|Bp O O O ?_
  rw [show CB t s a c=10 by simp_all [CB]]
  exact ⟨i,BF (by decide)⟩
 intro g
 refine Cp<|Ad O<|Ab O<|Ab O<|Ay<|Bp O O O ?_
 rw [show CB t s a c=0 by simp_all [CB]]
 exact ⟨i,x,_,rfl,l,fun h=>absurd rfl h,fun _=>rfl⟩
theorem OL (t:List Int) (a:Int) (u:Value) (W:World) (d:CA (Value.int .i64) W u t):
  AJ prog 252 [u, .int .i64 a] W (fun r w' =>Below W.heap.size W w' ∧RK W w' r (CC t a) (HR t a)):=by
 have e:=Below.refl W.heap.size W
 refine Bd (n:=47) func252 O<|Ah<|Ab O<|Ab O<|Bj<|Ad O<|An O O (G9 u t _ d) ?_
 rintro _ w ⟨rfl,f⟩
 have e:=e.bs f
 have d:=d.bs f
 refine Aa (Co O) O<|Ad O ?_
 refine Bx 9 O ?_ ?_
 ·intro p
  refine Ae (dj:=9) O O O O<|Ae (dj:=9) O O O O<|Bu O<|Ad O<|Ae (dj:=13) O O O O<|Ae (dj:=13) O O O O<|Bu O<|Aj<|B3 O<|Ah<|Ab O<|Ab O<|Bz<|Bp O O O ?_
  rw [show CC t a=1 by simp [CC,show GF t a=true by simp_all [GF]]]
  exact ⟨e,BF (by decide)⟩
 intro p
 refine Af (dj:=9) O O<|Ad O<|Af (dj:=9) O O<|B1 O<|B4 O<|Ad O ?_
 refine Bx 13 O ?_ ?_
 ·intro j
  refine Ae (dj:=13) O O O O<|Ae (dj:=13) O O O O<|Bu O<|Aj<|B3 O<|Ah<|Ab O<|Ab O<|Bz<|Bp O O O ?_
  rw [show CC t a=1 by simp [CC,show GF t a=true by simp_all [GF]]]
  exact ⟨e,BF (by decide)⟩
 intro j
 refine Af (dj:=13) O O<|Ad O<|Af (dj:=13) O O<|Aa (Da O O) O<|B4 O<|Aj<|Ao O ?_ ?_
 ·intro s
  refine Ah<|Ab O<|Ab O<|Bz<|Bp O O O ?_
  rw [show CC t a=1 by simp [CC,show GF t a=true by simp_all [GF]]]
  exact ⟨e,BF (by decide)⟩
 intro s
 have q:GF t a=false:=by simp_all [GF]
 have B:Shapes.ok t=true:=by simpa using p
 have c:1≤a:=by simpa using j
 have G:a≤64:=by simpa using s
 have l:=(Shapes.ok_iff t).1 B
 clear p j s
 refine B2<|Aq<|Aq<|C8 mixed (by kernel_rfl)<|Bt O<|Ai (fun c b=>Au AD O (Sl.bs ‹_› b)) O ?_
 refine Ai (fun c b=>Cn O O) O<|Bt O ?_
 refine Di 20 O ?_ ?_
 ·intro g
  refine As (dj:=20) O O O O<|As (dj:=20) O O O O<|As (dj:=20) O O O O<|As (dj:=20) O O O O<|As (dj:=20) O O O O<|As (dj:=20) O O O O<|As (dj:=20) O O O O<|As (dj:=20) O O O O<|As (dj:=20) O O O O<|Ai (fun c b=>Cy O O) O ?_
  refine C1 (fun y b=> ?_)
  refine Av<|B8<|B3 O<|Ah<|Ab O<|Ab O<|Bz<|Bp O O O ?_
  rw [show CC t a=10 by rw [CC,q,Hr,decide_eq_false (show ¬t.length=3 from fun h=>by simp [h] at g)];rfl]
  exact ⟨bt e b,BF (by decide)⟩
 intro v
 have lt:t.length=3:=by have:=v;simp at this;omega
 have E:=CF l.2.1 (k:=0) (by omega)
 have F:=CF l.2.1 (k:=1) (by omega)
 have C:=CF l.2.1 (k:=2) (by omega)
 refine Az (dj:=20) O O<|Bt O<|Az (dj:=20) O O<|Ai (fun c b=>Bf AD O O (Sl.bs ‹_› b) 1 O (by omega)) O ?_
 refine Az (dj:=20) O O<|Ai (fun c b=>Bl (AI _) O (Sl.bs ‹_› b) (by omega)) O ?_
 refine Az (dj:=20) O O<|Bt O<|Az (dj:=20) O O<|Ai (fun c b=>Bf AD O O (Sl.bs ‹_› b) 2 O (by omega)) O ?_
 refine Az (dj:=20) O O<|Ai (fun c b=>Bl (AI _) O (Sl.bs ‹_› b) (by omega)) O ?_
 refine Az (dj:=20) O O<|Ai (fun c b=>Ex.min2 O O) O<|Az (dj:=20) O O<|Bt O<|Az (dj:=20) O O<|Ai (fun c b=>Ep O O) O<|Ai (fun c b=>Cx O O) O ?_
 refine C1 (fun y b=> ?_)
 refine Av<|B8<|Ao O ?_ ?_
 ·intro g
  have g:=AC g
  refine Ah<|Ab O<|Ab O<|Bz<|Bp O O O ?_
  rw [show CC t a=10 by
   have:Hr t a=false:=by
    unfold Hr
    by_cases m:a≤t.getD 1 default
    ·have i:¬a≤t.getD 2 default:=fun i=>by split at g<;>omega
     simp only [decide_eq_false i,Bool.and_false]
    ·simp only [decide_eq_false m,Bool.and_false,Bool.false_and]
   simp [CC,q,this]]
  exact ⟨bt e b,BF (by decide)⟩
 intro g
 have g:=AB g
 have z:Hr t a=true:=by
  have m:a≤t.getD 1 default:=by split at g<;>omega
  have i:a≤t.getD 2 default:=by split at g<;>omega
  rw [Hr,decide_eq_true lt,decide_eq_true m,decide_eq_true i];rfl
 have e:=e.bs b
 have d:=d.bs b
 clear b v g
 refine B2<|Aq<|Cw.tail 15 mixed (by kernel_rfl)<|Bt O<|Ai (fun c b=>Bf AD O O (Sl.bs ‹_› b) 0 O (by omega)) O ?_
 refine Ai (fun c b=>Bl (AI _) O (Sl.bs ‹_› b) (by omega)) O ?_
 refine Bt O<|Ai (fun c b=>Bf AD O O (Sl.bs ‹_› b) 1 O (by omega)) O ?_
 refine Ai (fun c b=>Bl (AI _) O (Sl.bs ‹_› b) (by omega)) O ?_
 refine Bt O<|Bt O<|C3 O O (fun c b=>(Ij (t.getD 1 default) a a c (by omega) (by omega) (by omega)).q b)<|Bt O<|Ai (fun c b=>Bf AD O O (Sl.bs ‹_› b) 2 O (by omega)) O ?_
 refine Ai (fun c b=>Bl (AI _) O (Sl.bs ‹_› b) (by omega)) O ?_
 refine Bt O<|Bt O<|C3 O O (fun c b=>(Ij (t.getD 2 default) a a c (by omega) (by omega) (by omega)).q b) ?_
 refine Qw.done (fun D b=> ?_)
 have e:=e.bs b
 have d:=d.bs b
 have A:=AA e
 refine Bq (C2 (vs:=(HR t a).map (Value.int .i64)) AD DT O O O O O) O ?_
 rintro x w ⟨o, -,f, -⟩
 have o:=DN o A
 have e:=e.bs f
 have d:=d.bs f
 refine Ab O<|Ab O<|Ay<|Bp O O O ?_
 rw [show CC t a=0 by simp [CC,q,z]]
 exact ⟨e,x,_,rfl,o,fun h=>absurd rfl h,fun _=>rfl⟩
-- DD STOPPED

def CT (k:BitVec 8):Option (List Int):=(KN.find? (fun p=>decide (p.2.1=(k.toNat:Int)))).map (·.2.2)
def CQ (k:BitVec 8) (i s:List Int) (n p:Int):Bool:=match CT k with
 |some [a,b,c,d,e,f]=>G7 a b c d e f i s n p
 |_=>false
theorem HE {l m c d b sh:Int} {i s:List Int} {n p:Int}:G7 l m c d b sh i s n p=true↔(l≤(i.length:Int)∧(i.length:Int)≤m∧c≤n∧n≤d∧0≤p∧p≤b)∧(if sh=0 then decide (s.length=0) else if sh=1 then Shapes.ok s else HX s)=true:=by
 unfold G7
 rw [Bool.and_eq_true,Bool.not_eq_true',Bool.or_eq_false_iff,Bool.or_eq_false_iff,Bool.or_eq_false_iff,Bool.or_eq_false_iff,Bool.or_eq_false_iff]
 simp only [decide_eq_false_iff_not]
 constructor
 ·rintro ⟨⟨⟨⟨⟨⟨h,f⟩,k⟩,g⟩,j⟩,e⟩,a⟩
  exact ⟨⟨by omega,by omega,by omega,by omega,by omega,by omega⟩,a⟩
 ·rintro ⟨⟨h,f,k,g,j,e⟩,a⟩
  exact ⟨⟨⟨⟨⟨⟨by omega,by omega⟩,by omega⟩,by omega⟩,by omega⟩,by omega⟩,a⟩
def K8 (k:BitVec 8) (s:List Int) (n p:Int) (UT:List (List Int)):List Int:=
 let a:=UT.getD 0 []
 let b:=UT.getD 1 []
 if k=1#8∨k=2#8 then s else if k=5#8∨k=6#8 then a else if k=3#8∨k=4#8 then (if a=b then a else [])
 else if k=10#8 then (if Shapes.size a=Shapes.size s then s else []) else if k=7#8 then (if FH a b=0 then [a.getD 0 default,b.getD 1 default] else [])
 else if k=8#8 then (if CB a b n p=0 then Hi a b n p else []) else if k=9#8 then (if CC a n=0 then HR a n else [])
 else if k=11#8 then LN a s else if k=12#8 then OA UT n.toNat else if k=13#8 then RR a n else []
theorem Tj (v:Value) (ps:List (Value×List Int)) (j:Int) (w:World) (h:LI w v ps) (g:0≤j∧j<(ps.length:Int)):
  AJ prog 221 [.agg [v].toArray, .int .i64 j] w (fun r w' =>r=(ps.getD j.toNat default).1∧Below w.heap.size w w'):=by
 have b:=Below.refl w.heap.size w
 have a:=h.sl
 refine Bd (n:=10) func221 O<|Ah<|C0 (cs:=[v]) O O O ?_
 rintro f w c e d -
 have b:=b.bs d
 have a:=a.bs d
 refine Ab O<|Bg<|A0 underlying273 O (JC _)<|Aa (Ak (Oo _) O ‹_› rfl) O ?_
 refine Ad O<|Aa (Bf AQ O O a j.toNat (show j=((j.toNat:Nat):Int) by omega) (show j.toNat<ps.length by omega)) O<|Aa (Ex.as (Bl (AK _) O a (show j.toNat<ps.length by omega)) O) O<|Ab O<|Ay<|Ax O O ?_
 exact ⟨rfl,b⟩
theorem FF {s:List Int} (h:Shapes.ok s=true):1≤s.length∧s.length≤4:=((Shapes.ok_iff s).1 h).1
theorem U8 {s:List Int} (h:Shapes.ok s=true):∀x ∈ s,1≤x∧x≤64:=((Shapes.ok_iff s).1 h).2.1
theorem Lt {k:Nat}:∀(l:List (List Int)) (s a:List Int),Kc k s l=some a→a.length=s.length
 |[],s,a,h=>by cases h;rfl
 |x::l,s,a,h=>by
  unfold Kc at h
  cases e:N7 k s x with
  |none=>rw [e] at h;cases h
  |some t=>
   rw [e] at h
   have b:=Lt l t a h
   unfold N7 at e
   split at e
   ·cases e;rw [b,length_set]
   ·cases e
theorem S6 {l:List (List Int)} {k:Nat} (h:(l.headD []).length≤4):(OA l k).length≤4:=by
 unfold OA
 cases e:Kc k (l.headD []) l.tail with
 |none=>simp
 |some s=>
  have:=Lt _ _ _ e
  simp only
  split
  ·omega
  ·simp
theorem Rs {l:List Int} (h:SD l=true) (n:l.length≤4):∀k ∈ l,0≤k∧k<(l.length:Int):=by
 rw [I5] at h
 have m:∀j,j<l.length→(j:Int) ∈ l:=fun j p=>by simpa using h j p
 match l,n with
 |[],_=>intro k o;cases o
 |[a],_=>
  have:=m 0 (by simp)
  simp at this ⊢;omega
 |[a,b],_=>
  have g:=m 0 (by simp);have f:=m 1 (by simp)
  simp at g f ⊢;omega
 |[a,b,c],_=>
  have g:=m 0 (by simp);have f:=m 1 (by simp);have i:=m 2 (by simp)
  simp at g f i ⊢;omega
 |[a,b,c,d],_=>
  have g:=m 0 (by simp);have f:=m 1 (by simp);have i:=m 2 (by simp);have q:=m 3 (by simp)
  simp at g f i q ⊢;omega
 |a::b::c::d::e::l,n=>simp at n
theorem AR {k:BitVec 8} {i s:List Int} {n p:Int} (h:CQ k i s n p=true) {a b c d e f:Int} (g:CT k=some [a,b,c,d,e,f]):(a≤(i.length:Int)∧(i.length:Int)≤b∧c≤n∧n≤d∧0≤p∧p≤e)∧(if f=0 then decide (s.length=0) else if f=1 then Shapes.ok s else HX s)=true:=by
 unfold CQ at h
 rw [g] at h
 exact HE.1 h
theorem TK:CT 1#8=some [0,0,0,0,0,1]:=by decide
theorem TJ:CT 2#8=some [0,0,0,0,0,1]:=by decide
theorem TI:CT 3#8=some [2,2,0,0,0,0]:=by decide
theorem TH:CT 4#8=some [2,2,0,0,0,0]:=by decide
theorem UB:CT 5#8=some [1,1,0,0,0,0]:=by decide
theorem TG:CT 6#8=some [1,1,0,31,0,0]:=by decide
theorem TF:CT 7#8=some [2,2,0,0,0,0]:=by decide
theorem S5:CT 8#8=some [2,2,1,8,8,0]:=by decide
theorem TE:CT 9#8=some [1,1,1,64,0,0]:=by decide
theorem Mr:CT 10#8=some [1,1,0,0,0,1]:=by decide
theorem Mq:CT 11#8=some [1,1,0,0,0,2]:=by decide
theorem O9:CT 12#8=some [1,4,0,3,0,0]:=by decide
theorem Mp:CT 13#8=some [1,1,0,3,0,0]:=by decide
theorem Ls:∀k:BitVec 8,(CT k).isSome=true→(k=1#8∨k=2#8∨k=3#8∨k=4#8∨k=5#8∨k=6#8∨k=7#8∨k=8#8∨k=9#8∨k=10#8∨k=11#8∨k=12#8∨k=13#8):=by decide+kernel
theorem UE (n:Int) (h:0≤n):(n.toNat:Int)=n:=by omega
set_option maxHeartbeats 1000000 in
theorem Rg (x:N5) (v:Value) (ps:List (Value×List Int)) (w:World) (hx:N5.at w x) (h:LI w v ps) (E:CQ x.k x.i x.s x.n x.p=true) (hi:∀j ∈ x.i,0≤j∧j<(ps.length:Int)) (M:∀p ∈ ps,Shapes.ok p.2=true):
  AJ prog 220 [x.v, .func (.func 221) #[.agg [v].toArray] #[]] w (fun r w' =>CA (Value.int .i64) w' r (K8 x.k x.s x.n x.p (x.i.map fun j=>(ps.getD j.toNat default).2))∧Below w.heap.size w w' ∧∀b,r.ownBlock=some b→w.heap.size≤b∧b<w'.heap.size):=by
 obtain ⟨G,hG⟩:∃G,G=K8 x.k x.s x.n x.p (x.i.map fun j=>(ps.getD j.toNat default).2):=⟨_,rfl⟩
 rw [← hG]
 obtain ⟨W,hW⟩:∃W,W=w:=⟨_,rfl⟩
 have N:=Below.refl W.heap.size W
 have h_i:=hx.i
 have V:=hx.s
 have hli:=h_i.le
 obtain ⟨s,hqs⟩:∃s,s=x.i.map fun j=>ps.getD j.toNat default:=⟨_,rfl⟩
 have hq2:AP s=x.i.map fun j=>(ps.getD j.toNat default).2:=by rw [hqs];simp [AP]
 have lq:s.length=x.i.length:=by rw [hqs,length_map]
 have K:∀p ∈ s,p ∈ ps:=fun p hp=>by
  rw [hqs] at hp
  obtain ⟨j,hj,rfl⟩:=List.mem_map.1 hp
  have:=hi j hj
  rw [getD_eq_getElem?_getD,getElem?_eq_getElem (by omega)]
  exact getElem_mem _
 have li4:x.i.length≤4:=by
  unfold CQ at E
  split at E
  ·rename_i a b c d e f he
   have h1:=(HE.1 E).1
   have h2:∀p ∈ KN,p.2.2.getD 1 0≤4:=by decide
   unfold CT at he
   cases hf:KN.find? (fun p=>decide (p.2.1=(x.k.toNat:Int))) with
   |none=>rw [hf] at he;cases he
   |some p=>
    rw [hf] at he
    have h3:=h2 p (mem_of_find?_eq_some hf)
    have h4:p.2.2=[a,b,c,d,e,f]:=by simpa using he
    rw [h4] at h3
    simp at h3
    omega
  ·cases E
 rw [← hW] at hx h h_i V
 rw [← hW]
 refine Bd (n:=124) func220 O<|Ah<|C0 (cs:=x.cells) O O O ?_
 rintro A_x w eA_x X hn -
 have N:=N.bs hn
 have h_i:=h_i.bs hn
 have V:=V.bs hn
 refine Ab O<|Bg<|Ab O<|Bj<|A0 underlying79 O (AU _)<|Aa (Ak (AK _) O ‹_› rfl) O ?_
 refine Aa (Au AD O ‹_›) O ?_
 refine Ad O<|Aj<|Ar ?_
 have zx:=BL X
 have zW:=AA N
 obtain ⟨B,hBd⟩:∃B,B=w.heap.size:=⟨_,rfl⟩
 rw [← hBd] at zx zW
 refine Bo (S:=(Nat×Value)) (fun z=>[(1, .func (.func 221) #[.agg [v].toArray] #[]),(2, .pointer (some ⟨A_x,0,none⟩)),(4, .slice none 0 0),(5,z.2),(9,x.x),(10, .int .i64 (x.i.length:Int)),(11, .int .i64 (z.1:Int))]) (fun z w' =>z.1≤x.i.length∧Below W.heap.size W w' ∧AN w' A_x 79 x.cells∧w'.ownsRow B 70 1 z.2 z.1 ((s.take z.1).map (·.1))∧B≤w'.heap.size) (fun z=>x.i.length - z.1) ((0, .slice none 0 0)) ⟨rfl,rfl,rfl,rfl,rfl,rfl,rfl,trivial⟩ ?_ ?_
 ·exact ⟨Nat.zero_le _,N,X,⟨rfl, .inl ⟨rfl,rfl⟩⟩,by omega⟩
 rintro ⟨i,u⟩ k ⟨hi1,N,X,o_u,hAx⟩
 dsimp only at hi1 N X o_u ⊢
 have h1:=h.bs N
 have h_i:=hx.i.bs N
 have V:=hx.s.bs N
 have zB:=AA N
 refine Ah<|B1 O<|Aj<|Aq<|Ao O ?_ ?_
 ·intro g
  have hi' :i<x.i.length:=by have:=AC g;omega
  obtain ⟨j,hj⟩:∃j,j=x.i.getD i default:=⟨_,rfl⟩
  have hjm:j ∈ x.i:=by rw [hj];exact GL hi'
  obtain ⟨q,hq⟩:∃q,q=ps.getD j.toNat default:=⟨_,rfl⟩
  have hqi:s[i]'(by omega)=q:=by
   have ej:x.i[i]=j:=by rw [hj,getD_eq_getElem?_getD,getElem?_eq_getElem hi'];rfl
   simp only [hqs,getElem_map,ej];exact hq.symm
  refine B2<|Aq<|Ar<|Ah<|Aa (Bf AD O O ‹_› _ O (by omega)) O ?_
  refine Aa (Ex.as (Bl (AI _) O h_i hi') (cngA (Value.int .i64) hj.symm)) O<|Ab O<|Aj<|Bh<|Ad O<|Ad O<|Ad O<|Fj (p:=[.agg [v].toArray]) (q:=[]) O O O (Tj v ps j k h1 (hi j hjm)) ?_
  rintro _ w2 ⟨rfl,hn⟩
  rw [← hq]
  have s_q:CA (Value.int .i64) w2 q.1 q.2:=(h1.bs hn).each q (K q (hqi ▸ getElem_mem _))
  have o_u:=AH o_u hn
  have X:=X.bs hn
  have z2:=hn.size
  refine Bq (C2 (vs:=[q.1]) AQ Jg O O O (by rw [all_cons,s_q.one'];rfl) O) O ?_
  rintro r Y ⟨o_r, -,o, -⟩
  have o_u:=AH o_u o
  have X:=X.bs o
  have z3:=o.size
  refine Bq (C5 (base:=B) AQ Jg O (by decide) O O o_u (AG o_r) (by rw [all_cons,s_q.one'];rfl) (by omega) (by omega) (by omega)) O ?_
  rintro u' w4 ⟨o_u',hn4,hg4, -⟩
  have ub:=AF o_u
  have X:=X.by hg4 (fun e=>by have:=ub _ e.symm;omega)
  have e1:(s.take i).map (·.1)++[q.1]=(s.take (i+1)).map (·.1):=by
   rw [take_succ_eq_append_getElem (by omega),map_append,hqi];rfl
  rw [e1] at o_u'
  refine Ab O<|Be<|Bi<|Cd<|B9 O (by omega)<|Ad O<|Be ?_
  exact Av (Bw ((i+1,u')) ⟨rfl,rfl,rfl,rfl,rfl,rfl,rfl,trivial⟩ (⟨hi',((N.trans (hn.mono zB)).trans (o.mono (by omega))).trans (hn4.mono zW),X,o_u',by have:=hn4.size;omega⟩) (by simp only;omega))
 intro g
 have hi' :i=x.i.length:=by have:=AB g;omega
 subst hi'
 rw [← lq,take_length] at o_u
 have Q:LI k u s:=⟨BD o_u,fun p hp=>h1.each p (K p hp)⟩
 have hq4:∀p ∈ s,p.2.length≤4∧∀y ∈ p.2,0≤y∧y≤64:=fun p hp=>⟨(FF (M p (K p hp))).2,fun y hy=>by have:=U8 (M p (K p hp)) y hy;omega⟩
 have h0:∀(hl:0<s.length),∃q,s.getD 0 default=q∧(AP s).getD 0 []=q.2∧q ∈ s:=fun hl=>⟨s[0],by rw [getD_eq_getElem?_getD,getElem?_eq_getElem hl];rfl,by rw [getD_eq_getElem?_getD,getElem?_map,getElem?_eq_getElem hl];rfl,getElem_mem hl⟩
 have h1q:∀(hl:1<s.length),∃q,s.getD 1 default=q∧(AP s).getD 1 []=q.2∧q ∈ s:=fun hl=>⟨s[1],by rw [getD_eq_getElem?_getD,getElem?_eq_getElem hl];rfl,by rw [getD_eq_getElem?_getD,getElem?_map,getElem?_eq_getElem hl];rfl,getElem_mem hl⟩
 have A:=Q.sl
 rw [← hq2] at hG
 refine Bn<|Al<|Al<|Bc<|Av<|B8<|Aq<|Ah<|A0 underlying79 O (DA _)<|Aa (Ak (DG _) O ‹_› rfl) O ?_
 refine Aj ?_
 refine Dh (St:=Value) (fun y=>[(4,y)]) (fun y w' =>Below W.heap.size W w' ∧CA (Value.int .i64) w' y G∧G.length≤4) ?_ ?_
 ·refine Ar<|Aq<|Ah<|Aa (B0 O (show _=some (b8 (1#8)) from rfl)) O<|Ab O<|Aj<|Ao O ?_ ?_
  ·intro g
   have g:x.k=1#8:=AC g
   refine Ee 24 (v' := .bool true) O (cngA Value.bool (decide_eq_true g))<|B2<|B3 O<|Bh<|A0 underlying79 O (AU _)<|Aa (Ak (AK _) O ‹_› rfl) O ?_
   refine Ab O<|Be<|Bi ?_
   have k_s:Shapes.ok x.s=true:=(AR (by rw [g] at E;exact E) TK).2
   have F:G=x.s:=by rw [hG,g];rfl
   exact B6 (x.y) ⟨rfl,trivial⟩ (⟨N,by rw [F];exact V,by rw [F];exact (FF k_s).2⟩)
  intro g1
  have g1:¬x.k=1#8:=AB g1
  refine Bh<|Aa (B0 O (show _=some (b8 (2#8)) from rfl)) O<|Ab O<|Aj<|Ao O ?_ ?_
  ·intro g
   have g:x.k=2#8:=AC g
   refine Bh<|A0 underlying79 O (AU _)<|Aa (Ak (AK _) O ‹_› rfl) O ?_
   refine Ab O<|Be<|Bi ?_
   have k_s:Shapes.ok x.s=true:=(AR (by rw [g] at E;exact E) TJ).2
   have F:G=x.s:=by rw [hG,g];rfl
   exact B6 (x.y) ⟨rfl,trivial⟩ (⟨N,by rw [F];exact V,by rw [F];exact (FF k_s).2⟩)
  intro g2
  have g2:¬x.k=2#8:=AB g2
  refine Aq<|Ah<|Aa (B0 O (show _=some (b8 (5#8)) from rfl)) O<|Ab O<|Aj<|Ao O ?_ ?_
  ·intro g
   have g:x.k=5#8:=AC g
   have H:0<s.length:=by have:=(AR (by rw [g] at E;exact E) UB).1;omega
   obtain ⟨a,ea,ga,U⟩:=h0 H
   have J:=Q.each a U
   have T:=M a (K a U)
   have I:(s.getD 0 default).1=a.1:=by rw [ea]
   have F:G=a.2:=by rw [hG,g];exact ga
   refine Ee 29 (v' := .bool true) O (cngA Value.bool (decide_eq_true g))<|B2<|B3 O<|Bh<|Ad O<|Aa (Bf AQ O O A 0 O H) O<|Aa (Ex.as (Bl (AK _) O A H) I) O<|Ab O<|Be<|Bi ?_
   exact B6 (a.1) ⟨rfl,trivial⟩ (⟨N,by rw [F];exact J,by rw [F];exact (FF T).2⟩)
  intro g5
  have g5:¬x.k=5#8:=AB g5
  refine Bh<|Aa (B0 O (show _=some (b8 (6#8)) from rfl)) O<|Ab O<|Aj<|Ao O ?_ ?_
  ·intro g
   have g:x.k=6#8:=AC g
   have H:0<s.length:=by have:=(AR (by rw [g] at E;exact E) TG).1;omega
   obtain ⟨a,ea,ga,U⟩:=h0 H
   have J:=Q.each a U
   have T:=M a (K a U)
   have I:(s.getD 0 default).1=a.1:=by rw [ea]
   have F:G=a.2:=by rw [hG,g];exact ga
   refine Bh<|Ad O<|Aa (Bf AQ O O A 0 O H) O<|Aa (Ex.as (Bl (AK _) O A H) I) O<|Ab O<|Be<|Bi ?_
   exact B6 (a.1) ⟨rfl,trivial⟩ (⟨N,by rw [F];exact J,by rw [F];exact (FF T).2⟩)
  intro g6
  have g6:¬x.k=6#8:=AB g6
  refine Aq<|Ah<|Aa (B0 O (show _=some (b8 (3#8)) from rfl)) O<|Ab O<|Aj<|Ao O ?_ ?_
  ·intro g
   have g:x.k=3#8:=AC g
   refine Ee 35 (v' := .bool true) O (cngA Value.bool (decide_eq_true g))<|B2<|B3 O<|Aq ?_
   have H:0<s.length:=by have:=(AR (by rw [g] at E;exact E) TI).1;omega
   obtain ⟨a,ea,ga,U⟩:=h0 H
   have J:=Q.each a U
   have T:=M a (K a U)
   have I:(s.getD 0 default).1=a.1:=by rw [ea]
   have l2:1<s.length:=by have:=(AR (by rw [g] at E;exact E) TI).1;omega
   obtain ⟨b,eb,gb,mb⟩:=h1q l2
   have s_b:=Q.each b mb
   have k_b:=M b (K b mb)
   have eb' :(s.getD 1 default).1=b.1:=by rw [eb]
   have F:G=if a.2=b.2 then a.2 else []:=by rw [hG,g,← ga,← gb];rfl
   refine Cw.any mixed (fun w2 t _=> ?_)
   refine Df (fun w' =>Below k.heap.size k w') (fun hC=> ?_) (t)
   have C:=N.trans (t.mono (AA N))
   have R:=V.bs t
   have D:=J.bs t
   have Z:=s_b.bs t
   refine Cr (B5 (Ce C7))<|Am 0 O (fun k l=>Cb O) O<|Am 1 O (fun k l=>Bf AQ O O (A.bs l) 0 O H) O<|Am 2 O (fun k l=>Ex.as (Bl (AK _) O (A.bs l) H) I) O<|Am 3 O (fun k l=>Cb O) O<|Am 4 O (fun k l=>Bf AQ O O (A.bs l) 1 O l2) O<|Am 5 O (fun k l=>Ex.as (Bl (AK _) O (A.bs l) l2) eb') O<|Cf<|BV.only ‹_› (i:=6) (by kernel_rfl) O ?_
   refine An O O (Jk a.1 b.1 a.2 b.2 w2 D Z) ?_
   rintro _ Y ⟨rfl,o⟩
   have hd3:Below k.heap.size k Y:=t.trans (o.mono t.size)
   have L:=C.trans (o.mono (AA C))
   have hql3:=(A.bs t).bs o
   refine BV.back<|BV.done ‹_› (by kernel_rfl) ?_
   refine Av<|B8<|Ao O ?_ ?_
   ·intro e
    have e:a.2=b.2:=AC e
    refine Bh<|Ad O<|Aa (Bf AQ O O hql3 0 O H) O<|Aa (Ex.as (Bl (AK _) O hql3 H) I) O<|Ab O<|Be<|Bi ?_
    exact B6 (a.1) ⟨rfl,trivial⟩ (⟨L,by rw [F,if_pos e];exact D.bs o,by rw [F,if_pos e];exact (FF T).2⟩)
   intro e
   have e:¬a.2=b.2:=AB e
   refine Ca<|Bi ?_
   exact B6 ((.slice none 0 0)) ⟨rfl,trivial⟩ (⟨L,by rw [F,if_neg e];exact Ch _ _,by rw [F,if_neg e];exact Nat.zero_le _⟩)
  intro g3
  have g3:¬x.k=3#8:=AB g3
  refine Bh<|Aa (B0 O (show _=some (b8 (4#8)) from rfl)) O<|Ab O<|Aj<|Ao O ?_ ?_
  ·intro g
   have g:x.k=4#8:=AC g
   refine Aq ?_
   have H:0<s.length:=by have:=(AR (by rw [g] at E;exact E) TH).1;omega
   obtain ⟨a,ea,ga,U⟩:=h0 H
   have J:=Q.each a U
   have T:=M a (K a U)
   have I:(s.getD 0 default).1=a.1:=by rw [ea]
   have l2:1<s.length:=by have:=(AR (by rw [g] at E;exact E) TH).1;omega
   obtain ⟨b,eb,gb,mb⟩:=h1q l2
   have s_b:=Q.each b mb
   have k_b:=M b (K b mb)
   have eb' :(s.getD 1 default).1=b.1:=by rw [eb]
   have F:G=if a.2=b.2 then a.2 else []:=by rw [hG,g,← ga,← gb];rfl
   refine Cw.any mixed (fun w2 t _=> ?_)
   refine Df (fun w' =>Below k.heap.size k w') (fun hC=> ?_) (t)
   have C:=N.trans (t.mono (AA N))
   have R:=V.bs t
   have D:=J.bs t
   have Z:=s_b.bs t
   refine Cr (B5 (Ce C7))<|Am 0 O (fun k l=>Cb O) O<|Am 1 O (fun k l=>Bf AQ O O (A.bs l) 0 O H) O<|Am 2 O (fun k l=>Ex.as (Bl (AK _) O (A.bs l) H) I) O<|Am 3 O (fun k l=>Cb O) O<|Am 4 O (fun k l=>Bf AQ O O (A.bs l) 1 O l2) O<|Am 5 O (fun k l=>Ex.as (Bl (AK _) O (A.bs l) l2) eb') O<|Cf<|BV.only ‹_› (i:=6) (by kernel_rfl) O ?_
   refine An O O (Jk a.1 b.1 a.2 b.2 w2 D Z) ?_
   rintro _ Y ⟨rfl,o⟩
   have hd3:Below k.heap.size k Y:=t.trans (o.mono t.size)
   have L:=C.trans (o.mono (AA C))
   have hql3:=(A.bs t).bs o
   refine BV.back<|BV.done ‹_› (by kernel_rfl) ?_
   refine Av<|B8<|Ao O ?_ ?_
   ·intro e
    have e:a.2=b.2:=AC e
    refine Bh<|Ad O<|Aa (Bf AQ O O hql3 0 O H) O<|Aa (Ex.as (Bl (AK _) O hql3 H) I) O<|Ab O<|Be<|Bi ?_
    exact B6 (a.1) ⟨rfl,trivial⟩ (⟨L,by rw [F,if_pos e];exact D.bs o,by rw [F,if_pos e];exact (FF T).2⟩)
   intro e
   have e:¬a.2=b.2:=AB e
   refine Ca<|Bi ?_
   exact B6 ((.slice none 0 0)) ⟨rfl,trivial⟩ (⟨L,by rw [F,if_neg e];exact Ch _ _,by rw [F,if_neg e];exact Nat.zero_le _⟩)
  intro g4
  have g4:¬x.k=4#8:=AB g4
  refine Ah<|Aa (B0 O (show _=some (b8 (10#8)) from rfl)) O<|Ab O<|Aj<|Ao O ?_ ?_
  ·intro g
   have g:x.k=10#8:=AC g
   refine Aq ?_
   have H:0<s.length:=by have:=(AR (by rw [g] at E;exact E) Mr).1;omega
   obtain ⟨a,ea,ga,U⟩:=h0 H
   have J:=Q.each a U
   have T:=M a (K a U)
   have I:(s.getD 0 default).1=a.1:=by rw [ea]
   have k_s:Shapes.ok x.s=true:=(AR (by rw [g] at E;exact E) Mr).2
   have F:G=if Shapes.size a.2=Shapes.size x.s then x.s else []:=by rw [hG,g,← ga];rfl
   refine Cw.any mixed (fun w2 t _=> ?_)
   refine Df (fun w' =>Below k.heap.size k w') (fun hC=> ?_) (t)
   have C:=N.trans (t.mono (AA N))
   have R:=V.bs t
   have D:=J.bs t
   refine Cr (B5 (Ce C7))<|Am 0 O (fun k l=>Cb O) O<|Am 1 O (fun k l=>Bf AQ O O (A.bs l) 0 O H) O<|Am 2 O (fun k l=>Ex.as (Bl (AK _) O (A.bs l) H) I) O<|Am 4 O (fun k l=>Ck underlying79 O (AU _)) O<|Am 5 O (fun k l=>Ak (AK _) O (AN.bs ‹_› l) O) O<|Cf ?_
   refine BV.only ‹_› (i:=3) (by kernel_rfl) O ?_
   refine An O O (Nk a.1 a.2 w2 D) ?_
   rintro _ Y ⟨rfl,o⟩
   have hd3:Below k.heap.size k Y:=t.trans (o.mono t.size)
   refine BV.back<|BV.only ‹_› (i:=6) (by kernel_rfl) O ?_
   refine An O O (Nk x.y x.s Y (R.bs o)) ?_
   rintro _ w4 ⟨rfl,hn4⟩
   have hn34:=o.trans (hn4.mono o.size)
   have hB4:=C.trans (hn34.mono (AA C))
   have hd4:Below k.heap.size k w4:=t.trans (hn34.mono t.size)
   have X:=(X.bs t).bs hn34
   refine BV.back<|Cr (B5 (Ce C7))<|Am 7 O (fun k l=>Cl O O) O<|Cf<|BV.done ‹_› (by kernel_rfl) ?_
   refine Av<|B8<|Ao O ?_ ?_
   ·intro e
    have e:Shapes.size a.2=Shapes.size x.s:=by have:=AC e;omega
    refine Bh<|A0 underlying79 O (AU _)<|Aa (Ak (AK _) O ‹_› rfl) O ?_
    refine Ab O<|Be<|Bi ?_
    exact B6 (x.y) ⟨rfl,trivial⟩ (⟨hB4,by rw [F,if_pos e];exact R.bs hn34,by rw [F,if_pos e];exact (FF k_s).2⟩)
   intro e
   have e:¬Shapes.size a.2=Shapes.size x.s:=by have:=AB e;omega
   refine Ca<|Bi ?_
   exact B6 ((.slice none 0 0)) ⟨rfl,trivial⟩ (⟨hB4,by rw [F,if_neg e];exact Ch _ _,by rw [F,if_neg e];exact Nat.zero_le _⟩)
  intro g10
  have g10:¬x.k=10#8:=AB g10
  refine Ah<|Aa (B0 O (show _=some (b8 (7#8)) from rfl)) O<|Ab O<|Aj<|Ao O ?_ ?_
  ·intro g
   have g:x.k=7#8:=AC g
   have F:G=if FH ((AP s).getD 0 []) ((AP s).getD 1 [])=0 then [((AP s).getD 0 []).getD 0 default,((AP s).getD 1 []).getD 1 default] else []:=by rw [hG,g];rfl
   have H:0<s.length:=by have:=(AR (by rw [g] at E;exact E) TF).1;omega
   obtain ⟨a,ea,ga,U⟩:=h0 H
   have J:=Q.each a U
   have T:=M a (K a U)
   have I:(s.getD 0 default).1=a.1:=by rw [ea]
   have l2:1<s.length:=by have:=(AR (by rw [g] at E;exact E) TF).1;omega
   obtain ⟨b,eb,gb,mb⟩:=h1q l2
   have s_b:=Q.each b mb
   have k_b:=M b (K b mb)
   have eb' :(s.getD 1 default).1=b.1:=by rw [eb]
   refine Cw.any mixed (fun w2 t _=> ?_)
   refine Df (fun w' =>Below k.heap.size k w') (fun hC=> ?_) (t)
   have C:=N.trans (t.mono (AA N))
   have R:=V.bs t
   have D:=J.bs t
   have Z:=s_b.bs t
   refine Cr (Ce C7)<|Am 0 O (fun k l=>Cb O) O<|Am 1 O (fun k l=>Bf AQ O O (A.bs l) 0 O H) O<|Am 2 O (fun k l=>Ex.as (Bl (AK _) O (A.bs l) H) I) O<|Am 3 O (fun k l=>Cb O) O<|Am 4 O (fun k l=>Bf AQ O O (A.bs l) 1 O l2) O<|Am 5 O (fun k l=>Ex.as (Bl (AK _) O (A.bs l) l2) eb') O<|Cf<|BV.only ‹_› (i:=6) (by kernel_rfl) O ?_
   rw [ga,gb] at F
   refine An O O (Q8 a.1 b.1 a.2 b.2 w2 D Z) ?_
   rintro _ Y ⟨o,y,rfl,hy0,hy1⟩
   have hd3:Below k.heap.size k Y:=t.trans (o.mono t.size)
   have L:=C.trans (o.mono (AA C))
   have hy:CA (Value.int .i64) Y y G∧G.length≤4:=by
    by_cases e:FH a.2 b.2=0
    ·rw [F,if_pos e];exact ⟨BD (hy1 e),by simp⟩
    ·rw [F,if_neg e,hy0 e];exact ⟨Ch _ _,by simp⟩
   refine BV.back<|Cr (Ce C7)<|Am 7 O (fun k l=>Cb O) O<|Am 8 O (fun k l=>Ex.extract (i:=0) O O) O<|Am 9 O (fun k l=>Ex.extract (i:=1) O O) O<|Am 10 O (fun k l=>Cq O) O<|Cf<|BV.done ‹_› (by kernel_rfl) ?_
   exact Bi<|B6 (y) ⟨rfl,trivial⟩ (⟨L,hy.1,hy.2⟩)
  intro g7
  have g7:¬x.k=7#8:=AB g7
  refine Ah<|Aa (B0 O (show _=some (b8 (8#8)) from rfl)) O<|Ab O<|Aj<|Ao O ?_ ?_
  ·intro g
   have g:x.k=8#8:=AC g
   have F:G=if CB ((AP s).getD 0 []) ((AP s).getD 1 []) x.n x.p=0 then Hi ((AP s).getD 0 []) ((AP s).getD 1 []) x.n x.p else []:=by rw [hG,g];rfl
   have H:0<s.length:=by have:=(AR (by rw [g] at E;exact E) S5).1;omega
   obtain ⟨a,ea,ga,U⟩:=h0 H
   have J:=Q.each a U
   have T:=M a (K a U)
   have I:(s.getD 0 default).1=a.1:=by rw [ea]
   have l2:1<s.length:=by have:=(AR (by rw [g] at E;exact E) S5).1;omega
   obtain ⟨b,eb,gb,mb⟩:=h1q l2
   have s_b:=Q.each b mb
   have k_b:=M b (K b mb)
   have eb' :(s.getD 1 default).1=b.1:=by rw [eb]
   refine Cw.any mixed (fun w2 t _=> ?_)
   refine Df (fun w' =>Below k.heap.size k w') (fun hC=> ?_) (t)
   have C:=N.trans (t.mono (AA N))
   have R:=V.bs t
   have D:=J.bs t
   have Z:=s_b.bs t
   refine Cr (Ce C7)<|Am 0 O (fun k l=>Cb O) O<|Am 1 O (fun k l=>Bf AQ O O (A.bs l) 0 O H) O<|Am 2 O (fun k l=>Ex.as (Bl (AK _) O (A.bs l) H) I) O<|Am 3 O (fun k l=>Cb O) O<|Am 4 O (fun k l=>Bf AQ O O (A.bs l) 1 O l2) O<|Am 5 O (fun k l=>Ex.as (Bl (AK _) O (A.bs l) l2) eb') O<|Am 6 O (fun k l=>Ck underlying79 O (AV _)) O<|Am 7 O (fun k l=>Ak (AI _) O (AN.bs ‹_› l) O) O<|Am 8 O (fun k l=>Ck underlying79 O (AV _)) O<|Am 9 O (fun k l=>Ak (AI _) O (AN.bs ‹_› l) O) O<|Cf ?_
   refine BV.only ‹_› (i:=10) (by kernel_rfl) O ?_
   rw [ga,gb] at F
   refine An O O (PF a.2 b.2 x.n x.p a.1 b.1 w2 D Z) ?_
   rintro _ Y ⟨o,y,m,rfl,o_y,hy0,hy1⟩
   have hd3:Below k.heap.size k Y:=t.trans (o.mono t.size)
   have L:=C.trans (o.mono (AA C))
   have hy:CA (Value.int .i64) Y y G∧G.length≤4:=by
    by_cases e:CB a.2 b.2 x.n x.p=0
    ·rw [F,if_pos e,← hy1 e];exact ⟨BD o_y,by rw [hy1 e];simp [Hi]⟩
    ·rw [F,if_neg e,(hy0 e).1];exact ⟨Ch _ _,by simp⟩
   refine BV.back<|Cr (Ce C7)<|Am 11 O (fun k l=>Cb O) O<|Am 12 O (fun k l=>Ex.extract (i:=0) O O) O<|Am 13 O (fun k l=>Ex.extract (i:=1) O O) O<|Am 14 O (fun k l=>Cq O) O<|Cf<|BV.done ‹_› (by kernel_rfl) ?_
   exact Bi<|B6 (y) ⟨rfl,trivial⟩ (⟨L,hy.1,hy.2⟩)
  intro g8
  have g8:¬x.k=8#8:=AB g8
  refine Ah<|Aa (B0 O (show _=some (b8 (9#8)) from rfl)) O<|Ab O<|Aj<|Ao O ?_ ?_
  ·intro g
   have g:x.k=9#8:=AC g
   have F:G=if CC ((AP s).getD 0 []) x.n=0 then HR ((AP s).getD 0 []) x.n else []:=by rw [hG,g];rfl
   have H:0<s.length:=by have:=(AR (by rw [g] at E;exact E) TE).1;omega
   obtain ⟨a,ea,ga,U⟩:=h0 H
   have J:=Q.each a U
   have T:=M a (K a U)
   have I:(s.getD 0 default).1=a.1:=by rw [ea]
   refine Cw.any mixed (fun w2 t _=> ?_)
   refine Df (fun w' =>Below k.heap.size k w') (fun hC=> ?_) (t)
   have C:=N.trans (t.mono (AA N))
   have R:=V.bs t
   have D:=J.bs t
   refine Cr (Ce C7)<|Am 0 O (fun k l=>Cb O) O<|Am 1 O (fun k l=>Bf AQ O O (A.bs l) 0 O H) O<|Am 2 O (fun k l=>Ex.as (Bl (AK _) O (A.bs l) H) I) O<|Am 3 O (fun k l=>Ck underlying79 O (AV _)) O<|Am 4 O (fun k l=>Ak (AI _) O (AN.bs ‹_› l) O) O<|Cf ?_
   refine BV.only ‹_› (i:=5) (by kernel_rfl) O ?_
   rw [ga] at F
   refine An O O (OL a.2 x.n a.1 w2 D) ?_
   rintro _ Y ⟨o,y,m,rfl,o_y,hy0,hy1⟩
   have hd3:Below k.heap.size k Y:=t.trans (o.mono t.size)
   have L:=C.trans (o.mono (AA C))
   have hy:CA (Value.int .i64) Y y G∧G.length≤4:=by
    by_cases e:CC a.2 x.n=0
    ·rw [F,if_pos e,← hy1 e];exact ⟨BD o_y,by rw [hy1 e];simp [HR]⟩
    ·rw [F,if_neg e,(hy0 e).1];exact ⟨Ch _ _,by simp⟩
   refine BV.back<|Cr (Ce C7)<|Am 6 O (fun k l=>Cb O) O<|Am 7 O (fun k l=>Ex.extract (i:=0) O O) O<|Am 8 O (fun k l=>Ex.extract (i:=1) O O) O<|Am 9 O (fun k l=>Cq O) O<|Cf<|BV.done ‹_› (by kernel_rfl) ?_
   exact Bi<|B6 (y) ⟨rfl,trivial⟩ (⟨L,hy.1,hy.2⟩)
  intro g9
  have g9:¬x.k=9#8:=AB g9
  refine Ah<|Aa (B0 O (show _=some (b8 (11#8)) from rfl)) O<|Ab O<|Aj<|Ao O ?_ ?_
  ·intro g
   have g:x.k=11#8:=AC g
   have k_s:HX x.s=true:=(AR (by rw [g] at E;exact E) Mq).2
   have k_c:SD x.s=true∧x.s.length≤4:=by unfold HX at k_s;rw [Bool.and_eq_true] at k_s;exact ⟨k_s.1,AC k_s.2⟩
   have F:G=LN ((AP s).getD 0 []) x.s:=by rw [hG,g];rfl
   have H:0<s.length:=by have:=(AR (by rw [g] at E;exact E) Mq).1;omega
   obtain ⟨a,ea,ga,U⟩:=h0 H
   have J:=Q.each a U
   have T:=M a (K a U)
   have I:(s.getD 0 default).1=a.1:=by rw [ea]
   refine Cw.any mixed (fun w2 t _=> ?_)
   refine Df (fun w' =>Below k.heap.size k w') (fun hC=> ?_) (t)
   have C:=N.trans (t.mono (AA N))
   have R:=V.bs t
   have D:=J.bs t
   refine Cr (Ce C7)<|Am 0 O (fun k l=>Cb O) O<|Am 1 O (fun k l=>Bf AQ O O (A.bs l) 0 O H) O<|Am 2 O (fun k l=>Ex.as (Bl (AK _) O (A.bs l) H) I) O<|Am 3 O (fun k l=>Ck underlying79 O (AU _)) O<|Am 4 O (fun k l=>Ak (AK _) O (AN.bs ‹_› l) O) O<|Cf ?_
   refine BV.only ‹_› (i:=5) (by kernel_rfl) O ?_
   rw [ga] at F
   refine An O O (Pv a.1 x.y a.2 x.s w2 D R (Rs k_c.1 k_c.2) (by omega)) ?_
   rintro y Y ⟨s_y,o⟩
   have hd3:Below k.heap.size k Y:=t.trans (o.mono t.size)
   have L:=C.trans (o.mono (AA C))
   have lG:G.length≤4:=by rw [F];unfold LN;split;rw [length_map];exact k_c.2;simp
   refine BV.back<|Cr (Ce C7)<|Am 6 O (fun k l=>Cq O) O<|Cf<|BV.done ‹_› (by kernel_rfl) ?_
   refine Bi ?_
   exact B6 (y) ⟨rfl,trivial⟩ (⟨L,by rw [F];exact s_y,lG⟩)
  intro g11
  have g11:¬x.k=11#8:=AB g11
  refine Ah<|Aa (B0 O (show _=some (b8 (12#8)) from rfl)) O<|Ab O<|Aj<|Ao O ?_ ?_
  ·intro g
   have g:x.k=12#8:=AC g
   refine Bh<|Ad O<|A0 underlying79 O (AV _)<|Aa (Ak (AI _) O ‹_› rfl) O ?_
   have H:0<s.length:=by have:=(AR (by rw [g] at E;exact E) O9).1;omega
   have n0:0≤x.n:=by have:=(AR (by rw [g] at E;exact E) O9).1;omega
   have F:G=OA (AP s) x.n.toNat:=by rw [hG,g];rfl
   have hj:=P4 u s x.n.toNat k Q H (by omega) hq4
   rw [UE x.n n0] at hj
   have lG:G.length≤4:=by
    rw [F]
    obtain ⟨a, -,ga,U⟩:=h0 H
    refine S6 ?_
    have:(AP s).headD []=(AP s).getD 0 []:=by cases AP s<;>rfl
    rw [this,ga];exact (hq4 a U).1
   refine An O O (hj) ?_
   rintro y Y ⟨s_y,o⟩
   have L:=N.trans (o.mono (AA N))
   refine Ab O<|Be<|Bi ?_
   exact B6 (y) ⟨rfl,trivial⟩ (⟨L,by rw [F];exact s_y,lG⟩)
  intro g12
  have g12:¬x.k=12#8:=AB g12
  refine Ah<|Aa (B0 O (show _=some (b8 (13#8)) from rfl)) O<|Ab O<|Aj<|Ao O ?_ ?_
  ·intro g
   have g:x.k=13#8:=AC g
   have n0:0≤x.n:=by have:=(AR (by rw [g] at E;exact E) Mp).1;omega
   have F:G=RR ((AP s).getD 0 []) x.n:=by rw [hG,g];rfl
   have H:0<s.length:=by have:=(AR (by rw [g] at E;exact E) Mp).1;omega
   obtain ⟨a,ea,ga,U⟩:=h0 H
   have J:=Q.each a U
   have T:=M a (K a U)
   have I:(s.getD 0 default).1=a.1:=by rw [ea]
   refine Cw.any mixed (fun w2 t _=> ?_)
   refine Df (fun w' =>Below k.heap.size k w') (fun hC=> ?_) (t)
   have C:=N.trans (t.mono (AA N))
   have R:=V.bs t
   have D:=J.bs t
   refine Cr (Ce C7)<|Am 0 O (fun k l=>Cb O) O<|Am 1 O (fun k l=>Bf AQ O O (A.bs l) 0 O H) O<|Am 2 O (fun k l=>Ex.as (Bl (AK _) O (A.bs l) H) I) O<|Am 3 O (fun k l=>Ck underlying79 O (AV _)) O<|Am 4 O (fun k l=>Ak (AI _) O (AN.bs ‹_› l) O) O<|Cf ?_
   refine BV.only ‹_› (i:=5) (by kernel_rfl) O ?_
   rw [ga] at F
   refine An O O (NF a.1 a.2 x.n w2 D n0 (by have:=(FF T).2;omega)) ?_
   rintro y Y ⟨s_y,o⟩
   have hd3:Below k.heap.size k Y:=t.trans (o.mono t.size)
   have L:=C.trans (o.mono (AA C))
   have lG:G.length≤4:=by
    have:=(FF T).2
    rw [F];unfold RR
    split
    ·simp
    ·split
     ·simp
     ·rw [length_eraseIdx];split<;>omega
   refine BV.back<|Cr (Ce C7)<|Am 6 O (fun k l=>Cq O) O<|Cf<|BV.done ‹_› (by kernel_rfl) ?_
   refine Bi ?_
   exact B6 (y) ⟨rfl,trivial⟩ (⟨L,by rw [F];exact s_y,lG⟩)
  intro g13
  have g13:¬x.k=13#8:=AB g13
  exfalso
  have hs:(CT x.k).isSome=true:=by
   cases e:CT x.k with
   |some _=>rfl
   |none=>unfold CQ at E;rw [e] at E;cases E
  rcases Ls x.k hs with e|e|e|e|e|e|e|e|e|e|e|e|e
  ·exact g1 e
  ·exact g2 e
  ·exact g3 e
  ·exact g4 e
  ·exact g5 e
  ·exact g6 e
  ·exact g7 e
  ·exact g8 e
  ·exact g9 e
  ·exact g10 e
  ·exact g11 e
  ·exact g12 e
  ·exact g13 e
 rintro y w2 ⟨C,s_y,hG4⟩
 refine Ah<|Ad O<|An O O (L6 y G w2 s_y (by omega)) ?_
 rintro r Y ⟨o_r,o⟩
 refine An O O (Rv r G Y (BD o_r)) ?_
 rintro _ w4 ⟨rfl,hn4⟩
 refine Ab O<|Ay<|Ax O O ?_
 have kr:=(AT.clip o_r).bs hn4
 have z2:=AA C
 exact ⟨kr.slT,(C.trans (o.mono (AA C))).trans (hn4.mono (by have:=o.size;omega)),fun b e=>by have:=kr.lt b e;omega⟩

instance:Inhabited N5:=⟨⟨0#8, .slice none 0 0, .slice none 0 0,[],[],0,0⟩⟩
theorem D4 (a:N5):a.cells.length=5:=rfl
structure GN (w:World) (v:Value) (ls:List N5):Prop where
 sl:Sl w 5 v ls.length (FR N5.cells ls)
 each:∀a ∈ ls,N5.at w a
theorem GN.bs {w w' :World} {v:Value} {ls:List N5} (h:GN w v ls) (g:Below w.heap.size w w'):GN w' v ls:=⟨h.sl.bs g,fun a b=>(h.each a b).bs g⟩
theorem GN.cells {w:World} {v:Value} {ls:List N5} (_h:GN w v ls) {i:Nat} (c:i<ls.length):∀k,k<5→∃q,(ls[i]).cells[k]? =some q∧(FR N5.cells ls)[i*5+k]? =some q:=fun k b=>by
 rw [Jx (fun a _=>D4 a) c b]
 exact ⟨_,getElem?_eq_getElem (by rw [D4];exact b),getElem?_eq_getElem _⟩
def M0 (m:Nat) (l:List Int):Bool:=l.any fun n=>decide (n<0)||decide ((m:Int)≤n)
def JD (acc:List (List Int)) (x:N5):Option (List Int):=
 if CQ x.k x.i x.s x.n x.p && !M0 acc.length x.i && Shapes.ok (K8 x.k x.s x.n x.p (x.i.map fun j=>acc.getD j.toNat [])) then some (K8 x.k x.s x.n x.p (x.i.map fun j=>acc.getD j.toNat [])) else none
def EK:List (List Int)→List N5→Option (List (List Int))
 |acc,[]=>some acc
 |acc,x::l=>match JD acc x with
  |some s=>EK (acc++[s]) l
  |none=>none
def Jf (k:BitVec 8):Bool:=match CT k with
 |some r=>decide (r.getD 1 0≠0)
 |none=>false
def DD (ls:List N5):Nat:=(ls.filter fun a=>decide (a.k=1#8)).length
def Hg (ls:List N5):Option (List (List Int)):=
 if ls.length<1∨32<ls.length then none else match EK [] ls with
 |some ss=>if DD ls=1∧Jf (ls.getD (ls.length - 1) default).k=true then some ss else none
 |none=>none
theorem U2 (n:Int) (A m:Nat) (w:World) (a:AN w A 3 [.int .i64 (m:Int)]):AJ prog 219 [.int .i64 n, .pointer (some ⟨A,0,none⟩)] w (fun r w' =>r= .bool (decide (n<0)||decide ((m:Int)≤n))∧w' =w):=by
 refine Bd (n:=11) func219 O<|Ah<|Ab O<|Bg<|Ad O<|B1 O<|Ad O ?_
 refine Bx 6 O ?_ ?_
 ·intro g
  refine Ae (dj:=6) O O O O<|Ae (dj:=6) O O O O<|Ae (dj:=6) O O O O<|Bu O<|Ab O<|Ay<|Ax O O ?_
  rw [g]
  exact ⟨rfl,rfl⟩
 intro g
 refine Af (dj:=6) O O<|Ad O<|Af (dj:=6) O O<|Aa (Ak (AI _) O ‹_› rfl) O ?_
 refine Af (dj:=6) O O<|Aa (D9 O O) O<|B4 O<|Ab O<|Ay<|Ax O O ?_
 rw [g]
 exact ⟨rfl,rfl⟩
theorem TZ (v:Value) (l:List Int) (A m:Nat) (w:World) (o:CA (Value.int .i64) w v l) (d:AN w A 3 [.int .i64 (m:Int)]):AJ prog 249 [v, .func (.func 219) #[] [.pointer (some ⟨A,0,none⟩)].toArray] w (fun r w' =>(∃j,r= .int .i64 j∧decide (0≤j)=M0 m l)∧w' =w):=by
 have s:=o.le
 refine Bd (n:=19) func249 O<|Ah<|Ab O<|Bj<|Ad O<|Aa (Au AD O ‹_›) O ?_
 refine Ad O<|Aj<|Ar ?_
 refine Bo (S:=Nat) (fun i=>[(0,v),(1, .func (.func 219) #[] [.pointer (some ⟨A,0,none⟩)].toArray),(7, .int .i64 (l.length:Int)),(8, .int .i64 (i:Int))]) (fun i w' =>i≤l.length∧M0 m (l.take i)=false∧w' =w) (fun i=>l.length - i) (0) ⟨rfl,rfl,rfl,rfl,trivial⟩ ?_ ?_
 ·exact ⟨Nat.zero_le _,rfl,rfl⟩
 rintro i h ⟨t,e,rfl⟩
 refine Ah<|B1 O<|Aj<|Aq<|Ao O ?_ ?_
 ·intro c
  have a:i<l.length:=by have:=AC c;omega
  have k:M0 m (l.take (i+1))=(M0 m (l.take i)||(decide (l.getD i default<0)||decide ((m:Int)≤l.getD i default))):=by
   unfold M0
   rw [take_succ_eq_append_getElem a,any_append]
   simp [a]
  refine B2<|Aq<|Ar<|Ah<|Ad O<|Ab O<|Bg<|Ad O<|Ad O<|Ad O<|Aa (Bf AD O O ‹_› _ O (by omega)) O ?_
  refine Aa (Bl (AI _) O ‹_› (by omega)) O ?_
  refine Fj (p:=[]) (q:=[.pointer (some ⟨A,0,none⟩)]) O O O (U2 (l.getD i default) A m h d) ?_
  rintro _ _ ⟨rfl,rfl⟩
  refine Aj<|Ao O ?_ ?_
  ·intro g
   refine Ah<|Ad O<|Ab O<|Ay<|Ba<|Ap<|Ap<|Ba<|Ap<|Ax O O ?_
   refine ⟨⟨(i:Int),rfl, ?_⟩,rfl⟩
   have f:l.getD i default ∈ l:=GL a
   have:M0 m l=true:=by unfold M0;exact List.any_eq_true.2 ⟨_,f,g⟩
   rw [this,decide_eq_true (by omega)]
  intro g
  refine Ca<|Bi<|Cd<|B9 O (by omega)<|Ad O<|Be ?_
  exact Av (Bw (i+1) ⟨rfl,rfl,rfl,rfl,trivial⟩ (⟨a,by rw [k,e,g];rfl,rfl⟩) (by omega))
 intro b
 have a:i=l.length:=by have:=AB b;omega
 subst a
 rw [take_length] at e
 refine Bn<|Al<|Al<|Bc<|Ci<|Ab O<|Ay<|Ax O O ?_
 exact ⟨⟨-1,rfl,by rw [e];rfl⟩,rfl⟩
theorem Ua (v:Value) (l:List Int) (A m:Nat) (w:World) (c:CA (Value.int .i64) w v l) (a:AN w A 3 [.int .i64 (m:Int)]):AJ prog 218 [v, .func (.func 219) #[] [.pointer (some ⟨A,0,none⟩)].toArray] w (fun r w' =>r= .bool (M0 m l)∧Below w.heap.size w w'):=by
 refine Bd (n:=9) func218 O<|Ah<|Ab O<|Bg<|Ad O<|Ad O<|An O O (TZ v l A m w c a) ?_
 rintro _ _ ⟨⟨j,rfl,b⟩,rfl⟩
 exact Aa (D9 rfl rfl) rfl<|Ab rfl<|Ay<|Ax rfl rfl<|⟨cngA Value.bool b,Below.refl _ _⟩
theorem SF (u:Value) (ps:List (Value×List Int)) (w:World) (a:CA (fun p:Value×List Int=>p.1) w u ps):AJ prog 222 [u] w (fun r w' =>r=clip u∧Below w.heap.size w w'):=by
 refine Bd (n:=9) func222 O<|Ah<|Ab O<|Bg<|Ad O<|Ad O<|Aa (Au AQ O ‹_›) O ?_
 refine Ad O<|Aa (Au AQ O ‹_›) O ?_
 exact Aa (Gm AQ rfl rfl rfl a.shp) rfl<|Ab rfl<|Ay<|Ax rfl rfl<|⟨rfl,Below.refl _ _⟩
theorem Jw {k:BitVec 8} {r:List Int} (h:CT k=some r):KD (b8 k) (kv r)∧(∀v,KD (b8 k) v→v=kv r)∧r.length=6:=by
 unfold CT at h
 cases hf:KN.find? (fun p=>decide (p.2.1=(k.toNat:Int))) with
 |none=>rw [hf] at h;cases h
 |some p=>
  rw [hf] at h
  obtain rfl:p.2.2=r:=by simpa using h
  have a:=mem_of_find?_eq_some hf
  have b:p.2.1=(k.toNat:Int):=by have:=find?_some hf;simpa using this
  have g:∀p ∈ KN,∀q ∈ KN,p.2.1=q.2.1→p=q:=by decide
  have c:∀p ∈ KN,p.2.2.length=6:=by decide
  refine ⟨⟨p,a,by rw [b],rfl⟩,fun v ⟨q,d,f,e⟩=> ?_,c p a⟩
  have:(k.toNat:Int)=q.2.1:=by injection f
  rw [e,g p a q d (b.trans this)]
theorem N6 {k:BitVec 8} (h:CT k=none):∀v,¬KD (b8 k) v:=fun v ⟨q,b,c,_⟩=>by
 unfold CT at h
 have a:KN.find? (fun p=>decide (p.2.1=(k.toNat:Int)))=none:=by simpa using h
 have:=List.find?_eq_none.1 a q b
 have e:(k.toNat:Int)=q.2.1:=by injection c
 simp [e] at this
theorem Nl {l:List Int} (h:l.length=6):∃a b c d e f,l=[a,b,c,d,e,f]:=by
 match l,h with
 |[a,b,c,d,e,f],_=>exact ⟨a,b,c,d,e,f,rfl⟩
theorem GI {w w' :World} {M:Nat} {d:TypeDesc} {S:Value→Value→Prop} {r:Option Nat} (h:BX w M d S) (g:w.grownBy w' r) (a:some M≠r):BX w' M d S:=by
 have b:=h.lt
 obtain ⟨f,c,h,e⟩:=h
 exact ⟨f,c,by rw [g.block M b a];exact h,e⟩
abbrev FG:TypeId:=79
abbrev QU:TypeId:=275
def IN (B:Nat) (w:World) (u:Value) (ps:List (Value×List Int)):Prop:=∀p ∈ ps,CA (Value.int .i64) w p.1 p.2∧∀b,p.1.ownBlock=some b→(B≤b∧b<w.heap.size)∧u.ownBlock≠some b
theorem IN.bs {B:Nat} {w w' :World} {u:Value} {ps:List (Value×List Int)} (h:IN B w u ps) (g:Below w.heap.size w w'):IN B w' u ps:=fun p a=>⟨(h p a).1.bs g,fun b e=>⟨⟨((h p a).2 b e).1.1,Nat.lt_of_lt_of_le ((h p a).2 b e).1.2 g.size⟩,((h p a).2 b e).2⟩⟩
theorem IN.by {B A:Nat} {w w' :World} {u:Value} {ps:List (Value×List Int)} (h:IN B w u ps) (g:w.grownBy w' (some A)) (f:A<B):IN B w' u ps:=fun p a=>
 ⟨(h p a).1.keep (fun b c e=>g.block b c (fun d=>by have:=((h p a).2 b e).1.1;cases d;omega)),fun b e=>⟨⟨((h p a).2 b e).1.1,Nat.lt_of_lt_of_le ((h p a).2 b e).1.2 g.size⟩,((h p a).2 b e).2⟩⟩
theorem IN.grow {B:Nat} {w w' :World} {u f:Value} {ps:List (Value×List Int)} (h:IN B w u ps) (g:w.grownBy w' u.ownBlock) (c:f.ownBlock=u.ownBlock∨f.ownBlock=some w.heap.size):IN B w' f ps:=fun p a=>
 ⟨(h p a).1.keep (fun b i e=>g.block b i (fun d=>((h p a).2 b e).2 d.symm)),fun b e=>⟨⟨((h p a).2 b e).1.1,Nat.lt_of_lt_of_le ((h p a).2 b e).1.2 g.size⟩,fun d=>by
  rcases c with c|c
  ·exact ((h p a).2 b e).2 (c ▸ d)
  ·rw [c] at d;have:=((h p a).2 b e).1.2;cases d;omega⟩⟩
theorem Kk:∀(ls:List N5) (a d:List (List Int)),EK a ls=some d→∀x ∈ ls,CQ x.k x.i x.s x.n x.p=true
 |[],_,_,_,x,b=>by cases b
 |y::ls,a,d,h,x,b=>by
  unfold EK at h
  cases e:JD a y with
  |none=>rw [e] at h;cases h
  |some s=>
   rw [e] at h
   rcases List.mem_cons.1 b with rfl|b
   ·unfold JD at e
    split at e
    ·rename_i c
     simp only [Bool.and_eq_true] at c
     exact c.1.1
    ·cases e
   ·exact Kk ls _ _ h x b
theorem HD {k:BitVec 8} {i s:List Int} {n p:Int} (h:CQ k i s n p=true):∃a b c d e f,CT k=some [a,b,c,d,e,f]:=by
 unfold CQ at h
 split at h
 ·rename_i a b c d e f g;exact ⟨a,b,c,d,e,f,g⟩
 ·cases h
set_option maxHeartbeats 1000000 in
theorem Px (v:Value) (ls:List N5) (W:World) (h:GN W v ls):
  AJ prog 135 [.agg [v].toArray] W (fun r w' =>Below W.heap.size W w' ∧match Hg ls with
   |none=>r= .tuple #[.slice none 0 0, .int .i64 1]
   |some ss=>∃u ps,r= .tuple #[u, .int .i64 0]∧LI w' u ps∧AP ps=ss):=by
 obtain ⟨R,hR⟩:∃R,R=Hg ls:=⟨_,rfl⟩
 rw [← hR]
 have o:=Below.refl W.heap.size W
 have L:=h.sl
 have hle:=h.sl.le
 refine Bd (n:=92) func135 O<|Ah<|C0 (cs:=[v]) O O O ?_
 rintro A_g w eA_g f hn -
 have o:=o.bs hn
 have L:=L.bs hn
 refine Ab O<|Ab O<|Bg<|A0 underlying24 O (BY _)<|Aa (Ak (CS _) O ‹_› rfl) O ?_
 refine Aa (Au BA O ‹_›) O ?_
 refine Ab O<|Bj<|Ad O<|B1 O<|Ad O ?_
 refine Bx 19 O ?_ ?_
 ·intro g
  have g:=AC g
  refine Ae (dj:=19) O O O O<|Ae (dj:=19) O O O O<|Bu O<|Aj<|B3 O<|Ah<|Ab O<|Ab O<|Bz<|Bp O O O ?_
  have hN:R=none:=by rw [hR,Hg,if_pos (by omega)]
  rw [hN]
  exact ⟨o,rfl⟩
 intro g1
 have g1:=AB g1
 refine Af (dj:=19) O O<|Ad O<|Af (dj:=19) O O<|Aa (Da O O) O<|B4 O<|Aj<|Ao O ?_ ?_
 ·intro g
  have g:=AC g
  refine Ah<|Ab O<|Ab O<|Bz<|Bp O O O ?_
  have hN:R=none:=by rw [hR,Hg,if_pos (by omega)]
  rw [hN]
  exact ⟨o,rfl⟩
 intro g2
 have g2:=AB g2
 have hgs:Hg ls=match EK [] ls with|some ss=>if DD ls=1∧Jf (ls.getD (ls.length - 1) default).k=true then some ss else none|none=>none:=by rw [Hg,if_neg (by omega)]
 have hRn:EK [] ls=none→R=none:=fun e=>by rw [hR,hgs,e]
 have z1:=AA o
 have y_g:=BL f
 refine Cp<|An O O (S3 w) ?_
 rintro _ w1 ⟨hn1,M,rfl,hMl,C⟩
 have yM:=C.lt
 have f:=f.bs hn1
 have o:=o.trans (hn1.mono z1)
 have z2:=hn1.size
 refine Aa (Cc (vs:=[]) (cs:=[.slice none 0 0]) O (by kernel_rfl)) O<|Bq (Xw.new TQ) O ?_
 rintro _ w2 ⟨rfl,l,hn2,hz2⟩
 have f:=f.bs hn2
 have C:=C.bs hn2
 have o:=o.trans (hn2.mono (by omega))
 obtain ⟨A_t,hAt⟩:∃A_t,A_t=w1.heap.size:=⟨_,rfl⟩
 rw [← hAt] at l
 rw [← hAt]
 refine Ab O<|Br (Cz (cs:=[.slice none 0 0]) (k:=1) (by kernel_rfl) O O O O l O) ?_
 rintro w3 ⟨l,hg3,hz3⟩
 have f:=f.by hg3 (by rintro ⟨⟩;omega)
 have C:=GI C hg3 (by rintro ⟨⟩;omega)
 have o:=o.grown hg3 (by omega) (by rintro _ ⟨⟩;omega)
 obtain ⟨B,hBd⟩:∃B,B=w3.heap.size:=⟨_,rfl⟩
 have yB:A_g<B∧M<B∧A_t<B∧W.heap.size≤B:=by omega
 clear L
 have L:=h.sl.bs o
 refine Ab O<|Bj<|A0 underlying24 O (BY _)<|Aa (Ak (CS _) O ‹_› rfl) O ?_
 refine Aa (Au BA O ‹_›) O ?_
 refine Ad O<|Aj<|Ar ?_
 refine Bo (S:=(Nat×Nat×Value×List (Value×List Int))) (fun z=>[(1, .pointer (some ⟨A_g,0,none⟩)),(4, .int .i64 (ls.length:Int)),(5, .map (some M)),(6, .pointer (some ⟨A_t,0,none⟩)),(7, .int .i64 (z.2.1:Int)),(26,v),(27, .int .i64 (ls.length:Int)),(28, .int .i64 (z.1:Int))]) (fun z w' =>z.1≤ls.length∧Below W.heap.size W w' ∧B≤w'.heap.size∧BX w' M (.int .u8) KD∧AN w' A_g 24 [v]∧AN w' A_t 273 [z.2.2.1]∧w'.ownsRow B 70 1 z.2.2.1 z.1 (z.2.2.2.map (·.1))∧IN B w' z.2.2.1 z.2.2.2∧(∀p ∈ z.2.2.2,Shapes.ok p.2=true)∧EK (AP z.2.2.2) (ls.drop z.1)=EK [] ls∧z.2.1=DD (ls.take z.1)∧z.2.2.2.length=z.1∧z.2.1≤z.1) (fun z=>ls.length - z.1) ((0,0, .slice none 0 0,[])) ⟨rfl,rfl,rfl,rfl,rfl,rfl,rfl,rfl,trivial⟩ ?_ ?_
 ·exact ⟨Nat.zero_le _,o,by omega,C,f,l,⟨rfl, .inl ⟨rfl,rfl⟩⟩,(fun p hp=>by cases hp),(fun p hp=>by cases hp),rfl,rfl,rfl,AX _⟩
 clear f l C L
 rintro ⟨i,c,u,ps⟩ w4 ⟨hi,o,zB,C,f,l,m,d,hok,hrec,hc,lps,hci⟩
 dsimp only at hi o zB C f l m d hok hrec hc lps hci ⊢
 have L:=h.sl.bs o
 have z4:=AA o
 have ub:=AF m
 have lps2:(AP ps).length=ps.length:=length_map _
 refine Ah<|B1 O<|Aj<|Aq<|Ao O ?_ ?_
 ·intro g
  have U:i<ls.length:=by have:=AC g;omega
  obtain ⟨x,Y⟩:∃x,x=ls[i]:=⟨_,rfl⟩
  have hx:=(h.each x (Y ▸ getElem_mem U)).bs o
  have hcl:=h.cells U
  rw [← Y] at hcl
  have ed:ls.drop i=x::ls.drop (i+1):=by rw [drop_eq_getElem_cons U,← Y]
  have hstep:EK [] ls=match JD (AP ps) x with|some s=>EK (AP ps++[s]) (ls.drop (i+1))|none=>none:=by rw [← hrec,ed];rfl
  have hno:JD (AP ps) x=none→R=none:=fun e=>hRn (by rw [hstep,e])
  refine B2<|Aq<|Ar<|Ah<|Ad O<|Aa (Cu BA O O L i O U) O<|Aa (C6 (cs:=x.cells) (CY _) (CW _) O L O (by decide) hcl) O<|Bq (Xw.new DT) O ?_
  rintro _ w5 ⟨rfl,E,hn5,hz5⟩
  refine Bq (Xw.new EA) O ?_
  rintro _ w6 ⟨rfl,J,hn6,hz6⟩
  have E:=E.bs hn6
  obtain ⟨A_i,eAi⟩:∃A_i,A_i=w4.heap.size:=⟨_,rfl⟩
  obtain ⟨A_x,eAx⟩:∃A_x,A_x=w5.heap.size:=⟨_,rfl⟩
  rw [← eAi] at E
  rw [← eAx] at J
  rw [← eAi,← eAx]
  refine Br (C4 (u:= .int .i64 (i:Int)) (AV _) O O O E Nat.zero_lt_one) ?_
  rintro w7 ⟨E,hg7,hz7⟩
  have J:=J.by hg7 (by rintro ⟨⟩;omega)
  refine Br (Cz (cs:=x.cells) (k:=5) (by kernel_rfl) O O O hx.ones J O) ?_
  rintro w8 ⟨J,hg8,hz8⟩
  have E:=E.by hg8 (by rintro ⟨⟩;omega)
  have E:AN w8 A_i 3 [.int .i64 (i:Int)]:=E
  have H:Below w4.heap.size w4 w8:=((hn5.trans (hn6.mono (by omega))).grown hg7 (by omega) (by rintro _ ⟨⟩;omega)).grown hg8 (by omega) (by rintro _ ⟨⟩;omega)
  clear L
  have o:=o.trans (H.mono z4)
  have C:=C.bs H
  have f:=f.bs H
  have l:=l.bs H
  have m:=AH m H
  have d:=d.bs H
  have hx:=hx.bs H
  have h_i:=hx.i
  have z8:=H.size
  cases Z:CT x.k with
  |none=>
   refine Bg<|Ad O<|A0 underlying79 O (DA _)<|Aa (Ak (DG _) O ‹_› rfl) O ?_
   refine Aa (Ex.look2n underlying270 CJ O O O C (show Tryz.prog.info? QU=some Tryz.t275 by kernel_rfl) O (N6 Z)) O<|Ad O<|Aa (Ex.extract (i:=0) O O) O<|Aa (Ex.extract (i:=1) O O) O<|Bq (Xw.new Hx) O ?_
   rintro _ w9 ⟨rfl,N,hn9,hz9⟩
   refine Br (Cz (cs:=[0,0,0,0,0,0].map (Value.int .i64)) (k:=6) (by kernel_rfl) O O O O N O) ?_
   rintro w10 ⟨N,hg10,hz10⟩
   have o:=(o.trans (hn9.mono (by omega))).grown hg10 (by omega) (by rintro _ ⟨⟩;omega)
   refine Ab O<|Bj<|Ad O<|Aa (Co O) O<|Ad O<|Cm 42 (v' := .bool true) O (cngA Value.bool (rfl))<|Ae (dj:=42) O O O O<|Ae (dj:=42) O O O O<|Ae (dj:=42) O O O O<|Ae (dj:=42) O O O O<|Bu O<|Ad O<|Ae (dj:=48) O O O O<|Ae (dj:=48) O O O O<|Ae (dj:=48) O O O O<|Ae (dj:=48) O O O O<|Bu O<|Aj<|B3 O<|Ah<|Ab O<|Ab O<|Bz<|Ba<|Ap<|Ap<|Ba<|Ap<|Bp O O O ?_
   have hN:R=none:=hno (by unfold JD;rw [if_neg];unfold CQ;rw [Z];simp)
   rw [hN]
   exact ⟨o,rfl⟩
  |some row=>
   obtain ⟨k1,k2,k6⟩:=Jw Z
   obtain ⟨ra,rb,rc,rd,re,rf,rfl⟩:=Nl k6
   refine Bg<|Ad O<|A0 underlying79 O (DA _)<|Aa (Ak (DG _) O ‹_› rfl) O ?_
   refine Aa (Ex.look2 underlying270 CJ O O O C ⟨_,_,(show Tryz.prog.info? QU=some Tryz.t275 by kernel_rfl),rfl⟩ k1 k2) O<|Ad O<|Aa (Ex.extract (i:=0) O O) O<|Aa (Ex.extract (i:=1) O O) O<|Bq (Xw.new Hx) O ?_
   rintro _ w9 ⟨rfl,N,hn9,hz9⟩
   refine Br (Cz (cs:=[ra,rb,rc,rd,re,rf].map (Value.int .i64)) (k:=6) (by kernel_rfl) O O O O N O) ?_
   rintro w10 ⟨N,hg10,hz10⟩
   have t:Below w8.heap.size w8 w10:=hn9.grown hg10 hn9.size (by rintro _ ⟨⟩;omega)
   have o:=o.trans (t.mono (by omega))
   have C:=C.bs t
   have f:=f.bs t
   have l:=l.bs t
   have J:=J.bs t
   have E:=E.bs t
   have m:=AH m t
   have d:=d.bs t
   have hx:=hx.bs t
   have h_i:=hx.i
   have z10:=t.size
   refine Ab O<|Bj<|Ad O<|Aa (Co O) O<|Ad O<|Cm 42 (v' := .bool false) O (cngA Value.bool (rfl))<|Af (dj:=42) O O<|Aa (Cj (k:=6) (EV _) (EN _) O O N) O<|Af (dj:=42) O O<|Aa (Cj (k:=5) (CY _) (CW _) O O J) O<|Af (dj:=42) O O<|An O O (QV ra rb rc rd re rf x w10 hx) ?_
   rintro _ w11 ⟨rfl,A⟩
   have ekF:CQ x.k x.i x.s x.n x.p=G7 ra rb rc rd re rf x.i x.s x.n x.p:=by unfold CQ;rw [Z]
   have o:=o.trans (A.mono (by omega))
   have C:=C.bs A
   have f:=f.bs A
   have l:=l.bs A
   have J:=J.bs A
   have E:=E.bs A
   have m:=AH m A
   have d:=d.bs A
   have hx:=hx.bs A
   have h_i:=hx.i
   have z11:=A.size
   rw [← ekF]
   refine Af (dj:=42) O O<|Aa (Co O) O<|B4 O<|Ad O ?_
   refine Bx 48 O ?_ ?_
   ·intro gk
    have gk:CQ x.k x.i x.s x.n x.p=false:=by simpa using gk
    refine Ae (dj:=48) O O O O<|Ae (dj:=48) O O O O<|Ae (dj:=48) O O O O<|Ae (dj:=48) O O O O<|Bu O<|Aj<|B3 O<|Ah<|Ab O<|Ab O<|Bz<|Ba<|Ap<|Ap<|Ba<|Ap<|Bp O O O ?_
    have hN:R=none:=hno (by unfold JD;rw [gk];rfl)
    rw [hN]
    exact ⟨o,rfl⟩
   intro gk
   have gk:CQ x.k x.i x.s x.n x.p=true:=by simpa using gk
   refine Af (dj:=48) O O<|A0 underlying79 O (AU _)<|Af (dj:=48) O O<|Aa (Ak (AK _) O ‹_› rfl) O ?_
   refine Af (dj:=48) O O<|Aa (F2 (vs:=[]) (us:=[.pointer (some ⟨A_i,0,none⟩)]) O O) O<|Af (dj:=48) O O<|An O O (Ua x.x x.i A_i i w11 h_i E) ?_
   rintro _ w12 ⟨rfl,D⟩
   have o:=o.trans (D.mono (by omega))
   have C:=C.bs D
   have f:=f.bs D
   have l:=l.bs D
   have J:=J.bs D
   have m:=AH m D
   have d:=d.bs D
   have hx:=hx.bs D
   have z12:=D.size
   refine B4 O<|Aj<|Ao O ?_ ?_
   ·intro gb
    refine Ah<|Ab O<|Ab O<|Bz<|Ba<|Ap<|Ap<|Ba<|Ap<|Bp O O O ?_
    have hN:R=none:=hno (by unfold JD;rw [lps2,lps,gb,Bool.not_true,Bool.and_false];rfl)
    rw [hN]
    exact ⟨o,rfl⟩
   intro gb
   have hji:∀j ∈ x.i,0≤j∧j<(ps.length:Int):=fun j hj=>by
    unfold M0 at gb
    have:=List.any_eq_false.1 gb j hj
    simp at this
    omega
   have hps:LI w12 u ps:=⟨by have:=BD m;exact this,fun p hp=>(d p hp).1⟩
   refine B2<|Aq<|Ah<|A0 underlying79 O (DA _)<|Aa (Ak (DG _) O ‹_› rfl) O ?_
   refine Aa (B0 O (show _=some (b8 (1#8)) from rfl)) O<|Aj ?_
   refine Dh (St:=Nat) (fun c' =>[(1, .pointer (some ⟨A_g,0,none⟩)),(4, .int .i64 (ls.length:Int)),(5, .map (some M)),(6, .pointer (some ⟨A_t,0,none⟩)),(7, .int .i64 (c' :Int)),(9, .pointer (some ⟨A_x,0,none⟩)),(26,v),(27, .int .i64 (ls.length:Int)),(28, .int .i64 (i:Int))]) (fun c' w' =>w' =w12∧c' =c+(if x.k=1#8 then 1 else 0)) ?_ ?_
   ·refine Ao O ?_ ?_
    ·intro g1
     have g1:x.k=1#8:=AC g1
     refine Bh<|Ad O<|B9 O (by omega)<|Ab O<|Be ?_
     exact B6 ((c+1)) ⟨rfl,rfl,rfl,rfl,(cngA (fun z=>some (Value.int .i64 z)) (by omega)),rfl,rfl,rfl,rfl,trivial⟩ (⟨rfl,by rw [if_pos g1]⟩)
    intro g1
    have g1:¬x.k=1#8:=AB g1
    exact Ca<|B6 (c) ⟨rfl,rfl,rfl,rfl,rfl,rfl,rfl,rfl,rfl,trivial⟩ (⟨rfl,by rw [if_neg g1,Nat.add_zero]⟩)
   rintro c' w12 ⟨rfl,hc'⟩
   refine Ah<|Aa (Cj (CY _) (CW _) O O ‹_›) O ?_
   refine Aa (Cj (Ug _) (Tn _) O O ‹_›) O ?_
   refine Aa (F2 (vs:=[.agg [u].toArray]) (us:=[]) O O) O ?_
   have ub12:=AF m
   refine An O O (Rg x u ps w12 hx hps gk hji hok) ?_
   rintro y w13 ⟨T,K,y_own⟩
   obtain ⟨G,hGd⟩:∃G,G=K8 x.k x.s x.n x.p (x.i.map fun j=>(AP ps).getD j.toNat []):=⟨_,rfl⟩
   have eG:K8 x.k x.s x.n x.p (x.i.map fun j=>(ps.getD j.toNat default).2)=G:=by
    rw [hGd]
    congr 1
    refine map_congr_left fun j hj=> ?_
    have:=hji j hj
    rw [getD_eq_getElem?_getD,getD_eq_getElem?_getD,getElem?_map,getElem?_eq_getElem (by omega)];rfl
   rw [eG] at T
   have o:=o.trans (K.mono (by omega))
   have C:=C.bs K
   have f:=f.bs K
   have l:=l.bs K
   have m:=AH m K
   have d:=d.bs K
   have z13:=K.size
   refine Ab O<|Bj<|Ad O<|An O O (G9 y G w13 T) ?_
   rintro _ w14 ⟨rfl,I⟩
   have o:=o.trans (I.mono (by omega))
   have C:=C.bs I
   have f:=f.bs I
   have l:=l.bs I
   have m:=AH m I
   have d:=d.bs I
   have T:=T.bs I
   have z14:=I.size
   refine Aa (Co O) O<|Aj<|Ao O ?_ ?_
   ·intro go
    have go:Shapes.ok G=false:=by simpa using go
    refine Ah<|Ab O<|Ab O<|Bz<|Ba<|Ap<|Ap<|Ba<|Ap<|Bp O O O ?_
    have hN:R=none:=hno (by unfold JD;rw [← hGd,go,Bool.and_false];rfl)
    rw [hN]
    exact ⟨o,rfl⟩
   intro go
   have go:Shapes.ok G=true:=by simpa using go
   have e_st:JD (AP ps) x=some G:=by
    unfold JD;rw [← hGd,go,gk,lps2,lps]
    have:M0 i x.i=false:=by simpa using gb
    rw [this];rfl
   refine B2<|Bh<|A0 underlying273 O (JC _)<|Aa (Ak (Oo _) O ‹_› rfl) O ?_
   refine Ad O<|Bq (C2 (vs:=[y]) AQ Jg O O O (by rw [all_cons,T.one'];rfl) O) O ?_
   rintro q w15 ⟨o_q, -,F, -⟩
   have o:=o.trans (F.mono (by omega))
   have C:=C.bs F
   have f:=f.bs F
   have l:=l.bs F
   have m:=AH m F
   have d:=d.bs F
   have T:=T.bs F
   have z15:=F.size
   have ub:=AF m
   refine Bq (C5 (base:=B) AQ Jg O (by decide) O O m (AG o_q) (by rw [all_cons,T.one'];rfl) (by omega) (by omega) (by omega)) O ?_
   rintro u' w16 ⟨Q,hn16,X,hcs⟩
   have C:=GI C X (fun e=>by have:=ub _ e.symm;omega)
   have f:=f.by X (fun e=>by have:=ub _ e.symm;omega)
   have l:=l.by X (fun e=>by have:=ub _ e.symm;omega)
   have hoff2:IN B w15 u (ps++[(y,G)]):=fun p hp=>(List.mem_append.1 hp).elim (d p) (fun e=>by
    rw [List.mem_singleton.1 e]
    refine ⟨T,fun b e=> ?_⟩
    have h1:=y_own b e
    exact ⟨⟨by omega,by omega⟩,fun e2=>by have:=ub12 b e2;omega⟩)
   have d:=hoff2.grow X hcs
   have z16:=X.size
   have ub' :=AF Q
   have e1:ps.map (·.1)++[y]=(ps++[(y,G)]).map (·.1):=by rw [map_append];rfl
   rw [e1] at Q
   refine A0 underlying273 O (JC _)<|Br (C4 (u:=u') (JC _) O O (AG Q).one' l Nat.zero_lt_one) ?_
   rintro w17 ⟨l,V,hz17⟩
   have C:=GI C V (fun e=>by have:=Option.some.inj e;omega)
   have f:=f.by V (fun e=>by have:=Option.some.inj e;omega)
   have d:=d.by V (by omega)
   have Q:=CL Q (fun k e=>V.block k (ub' k e).2 (fun e2=>by have:=ub' k e;have:=Option.some.inj e2;omega))
   have hBF:=(o.trans (hn16.mono (by omega))).grown V (by have:=hn16.size;omega) (by rintro _ e;have:=Option.some.inj e;omega)
   have hok' :∀p ∈ ps++[(y,G)],Shapes.ok p.2=true:=fun p hp=>(List.mem_append.1 hp).elim (hok p) (fun e=>by rw [List.mem_singleton.1 e];exact go)
   have hrec' :EK (AP (ps++[(y,G)])) (ls.drop (i+1))=EK [] ls:=by
    rw [hstep,e_st]
    have:AP (ps++[(y,G)])=AP ps++[G]:=by unfold AP;rw [map_append];rfl
    rw [this]
   have hcc:c' =DD (ls.take (i+1)):=by
    rw [hc',hc,take_succ_eq_append_getElem U,← Y]
    unfold DD
    rw [filter_append,length_append]
    by_cases e:x.k=1#8
    ·rw [if_pos e,filter_cons,decide_eq_true e];rfl
    ·rw [if_neg e,filter_cons,decide_eq_false e];rfl
   have hci' :c' ≤i+1:=by rw [hc'];split<;>omega
   refine Be<|Bi<|Cd<|B9 O (by omega)<|Ad O<|Be ?_
   exact Av (Bw ((i+1,c',u',ps++[(y,G)])) ⟨rfl,rfl,rfl,rfl,rfl,rfl,rfl,rfl,trivial⟩ (⟨U,hBF,by have:=hn16.size;omega,C,f,l,Q,d,hok',hrec',hcc,by rw [length_append,lps];rfl,hci'⟩) (by simp only;omega))
 intro g
 have U:i=ls.length:=by have:=AB g;omega
 subst U
 rw [drop_length] at hrec
 rw [take_length] at hc
 have hgr:EK [] ls=some (AP ps):=by rw [← hrec];rfl
 have hgf:R=if DD ls=1∧Jf (ls.getD (ls.length - 1) default).k=true then some (AP ps) else none:=by rw [hR,hgs,hgr]
 obtain ⟨x,Y⟩:∃x,x=ls.getD (ls.length - 1) default:=⟨_,rfl⟩
 rw [← Y] at hgf
 have hl1:ls.length - 1<ls.length:=by omega
 have hxm:x=ls[ls.length - 1]:=by rw [Y,getD_eq_getElem?_getD,getElem?_eq_getElem hl1];rfl
 have hkx:=Kk ls [] _ hgr x (hxm ▸ getElem_mem hl1)
 obtain ⟨ra,rb,rc,rd,re,rf,Z⟩:=HD hkx
 obtain ⟨k1,k2, -⟩:=Jw Z
 have hlast:Jf x.k=decide (rb≠0):=by unfold Jf;rw [Z];rfl
 have ad:∃ad c k,v= .slice (some ad) c k:=by
  obtain ⟨_,ao,cap,e,d1,d2,d3,_⟩:=h.sl
  cases ao with
  |none=>have:=d3 rfl;omega
  |some ad=>exact ⟨ad,_,_,e⟩
 have ck:(FR N5.cells ls)[(ls.length - 1)*5+0]? =some (b8 x.k):=by
  rw [Jx (fun a _=>D4 a) hl1 (by decide),← hxm];rfl
 refine Bn<|Al<|Al<|Bc<|Av<|B8<|Aq<|Ah<|Ad O<|A0 underlying24 O (BY _)<|Aa (Ak (CS _) O ‹_› rfl) O ?_
 refine Ad O<|Aa (Ex.as (Ec O O (by omega)) (cngA (Value.int .i64) (show (ls.length:Int) - 1=((ls.length - 1:Nat):Int) by omega))) O<|Aa (Cu BA O O L (ls.length - 1) O hl1) O<|Aa (Dj (q:=0) underlying79 O (DA _) O ad) O<|Aa (E4 (DG _) O L ck) O<|Aa (Fm underlying270 CJ O O O C ⟨_,_,(show Tryz.prog.info? QU=some Tryz.t275 by kernel_rfl),rfl⟩ k1 k2) O<|Bq (Xw.new Hx) O ?_
 rintro _ w5 ⟨rfl,N,hn5,hz5⟩
 have l:=l.bs hn5
 refine Br (Cz (cs:=[ra,rb,rc,rd,re,rf].map (Value.int .i64)) (k:=6) (by kernel_rfl) O O O O N O) ?_
 rintro w6 ⟨N,hg6,hz6⟩
 have hn46:Below w4.heap.size w4 w6:=hn5.grown hg6 hn5.size (by rintro _ ⟨⟩;omega)
 have l:=l.by hg6 (by rintro ⟨⟩;omega)
 have o:=o.trans (hn46.mono z4)
 have m:=AH m hn46
 have d:=d.bs hn46
 refine Bg<|Ad O<|Aa (Cn O O) O<|Ad O ?_
 refine Bx 84 O ?_ ?_
 ·intro gc
  have gc:¬DD ls=1:=fun e=>by rw [← hc] at e;subst e;simp at gc
  refine Ae (dj:=84) O O O O<|Ae (dj:=84) O O O O<|Ae (dj:=84) O O O O<|Bu O<|Aj<|B3 O<|Ah<|Ab O<|Ab O<|Bz<|Bp O O O ?_
  rw [hgf,if_neg (fun h=>gc h.1)]
  exact ⟨o,rfl⟩
 intro gc
 have gc:DD ls=1:=by rw [← hc];simp at gc;omega
 refine Af (dj:=84) O O<|A0 underlying275 O (AV _)<|Af (dj:=84) O O<|Aa (Ak (AI _) O N O) O<|Af (dj:=84) O O<|Aa (Cl O O) O<|B4 O<|Aj<|Ao O ?_ ?_
 ·intro gm
  have gm:rb=0:=AC gm
  refine Ah<|Ab O<|Ab O<|Bz<|Bp O O O ?_
  rw [hgf,if_neg (fun h=>by rw [hlast,gm] at h;simp at h)]
  exact ⟨o,rfl⟩
 intro gm
 have gm:rb≠0:=AB gm
 refine Cp<|A0 underlying273 O (JC _)<|Aa (Ak (Oo _) O ‹_› rfl) O ?_
 refine An O O (SF u ps w6 (BD m)) ?_
 rintro _ w7 ⟨rfl,hn7⟩
 refine Ab O<|Ab O<|Ay<|Bp O O O ?_
 rw [hgf,if_pos ⟨gc,by rw [hlast];exact decide_eq_true gm⟩]
 exact ⟨o.trans (hn7.mono (AA o)),_,ps,rfl,⟨(Sl.clip (BD m)).bs hn7,fun p hp=>(d p hp).1.bs hn7⟩,rfl⟩
theorem M7 (v:Value) (ls:List N5) (W:World) (h:GN W v ls):
  AJ prog 33 [.agg [v].toArray] W (fun r w' =>Below W.heap.size W w' ∧r= .bool (Hg ls).isSome):=by
 have a:=Below.refl W.heap.size W
 refine Bd (n:=12) func33 O<|Ah<|C0 (cs:=[v]) O O O ?_
 rintro f w d g j -
 have a:=a.bs j
 refine Ab O<|Bg<|Aa (Cj (DW _) (DV _) O O ‹_›) O ?_
 refine An O O (Px v ls w (h.bs a)) ?_
 rintro r k ⟨c,b⟩
 have a:=a.trans (c.mono (AA a))
 cases e:Hg ls with
 |none=>
  rw [e] at b
  obtain rfl:=b
  exact Ad rfl<|Aa (Ex.extract (i:=0) rfl rfl) rfl<|Aa (Ex.extract (i:=1) rfl rfl) rfl<|Ab rfl<|Ab rfl<|Bg<|Ad rfl<|Aa (Cl rfl rfl) rfl<|Ab rfl<|Ay<|Ax rfl rfl<|⟨a,rfl⟩
 |some ss=>
  rw [e] at b
  obtain ⟨u,ps,rfl, -, -⟩:=b
  exact Ad rfl<|Aa (Ex.extract (i:=0) rfl rfl) rfl<|Aa (Ex.extract (i:=1) rfl rfl) rfl<|Ab rfl<|Ab rfl<|Bg<|Ad rfl<|Aa (Cl rfl rfl) rfl<|Ab rfl<|Ay<|Ax rfl rfl<|⟨a,rfl⟩
end Go.Proofs.YtblbopcaflaldaaGreatDoor

namespace Go.Proofs.YtblbopcaflaldaaGreatDoor
open Go Go.Dd Go.RowKit List
set_option maxRecDepth 100000
abbrev PV:=List Int×List (BitVec 32)
def pv (t:T4):PV:=(t.s,t.l)
theorem SA {ls:List N5} {a:List (List Int)} (h:Hg ls=some a):ls.length≤32:=by
 unfold Hg at h
 split at h
 ·cases h
 ·omega

def gf (l:List (BitVec 8)):BitVec 32:=Vp (l.getD 0 default) (l.getD 1 default) (l.getD 2 default) (l.getD 3 default)



def Oq (w:World) (v:Value) (ts:List T4):Prop:=Sl w 2 v ts.length (cellsOf ts)∧∀t ∈ ts,t.at w
theorem Oq.bs {w w' :World} {v:Value} {a:List T4} (h:Oq w v a) (g:Below w.heap.size w w'):Oq w' v a:=⟨h.1.bs g,fun t b=>(h.2 t b).bs g⟩
theorem Oq.slice {w:World} {v:Value} {a:List T4} (h:Oq w v a) {i:Nat} (e:i<a.length):∃ad c k,v= .slice (some ad) c k:=by
 obtain ⟨_,b,cap,rfl,_,_,d,_⟩:=h.1
 cases b with
 |none=>have:=d rfl;omega
 |some ad=>exact ⟨_,_,_,rfl⟩
end Go.Proofs.YtblbopcaflaldaaGreatDoor

namespace Go.Dd
open Go Go.RowKit
open List hiding all
structure BJ (S:Nat→Prop) (w w' :World):Prop where
 os:w'.os=w.os
 tape:w'.tape=w.tape
 output:w'.output=w.output
 size:w.heap.size≤w'.heap.size
 block:∀k,k<w.heap.size→¬S k→w'.heap[k]? =w.heap[k]?
namespace BJ
variable {S T : Nat → Prop} {a b c : World}
theorem refl (S:Nat→Prop) (w:World):BJ S w w:=⟨rfl,rfl,rfl,AX _,fun _ _ _=>rfl⟩
theorem trans (h:BJ S a b) (k:BJ S b c):BJ S a c:=
 ⟨k.os.trans h.os,k.tape.trans h.tape,k.output.trans h.output,Nat.le_trans h.size k.size,fun i d hs=>(k.block i (Nat.lt_of_lt_of_le d h.size) hs).trans (h.block i d hs)⟩
theorem mono (h:BJ S a b) (hs:∀k,S k→T k):BJ T a b:=⟨h.os,h.tape,h.output,h.size,fun k d f=>h.block k d fun e=>f (hs k e)⟩
theorem below (h:BJ S a b) (k:Below b.heap.size b c):BJ S a c:=
 ⟨k.os.trans h.os,k.tape.trans h.tape,k.output.trans h.output,Nat.le_trans h.size k.size,fun i d hs=>(k.block i (Nat.lt_of_lt_of_le d h.size)).trans (h.block i d hs)⟩
theorem grown (h:BJ S a b) {r:Option Nat} (k:b.grownBy c r) (g:∀n,r=some n→S n∨a.heap.size≤n):BJ S a c:=
 ⟨k.os.trans h.os,k.tape.trans h.tape,k.output.trans h.output,Nat.le_trans h.size k.size,fun i f hs=>(k.block i (Nat.lt_of_lt_of_le f h.size) (fun e=>by
  rcases g i e.symm with d|d
  ·exact hs d
  ·omega)).trans (h.block i f hs)⟩
theorem of_below (h:Below a.heap.size a b):BJ S a b:=(BJ.refl S a).below h
theorem to_below {B:Nat} (h:BJ S a b) (d:∀k,S k→B≤k) (g:B≤a.heap.size):Below B a b:=
 ⟨h.os,h.tape,h.output,h.size,fun k f=>h.block k (by omega) fun e=>by have:=d k e;omega⟩
end BJ
theorem AN.chg {S:Nat→Prop} {w w' :World} {b:Nat} {T:TypeId} {cs:List Value} (h:AN w b T cs) (g:BJ S w w') (d:¬S b):AN w' b T cs:=h.keep (g.block b (BL h) d)
theorem AL {S:Nat→Prop} {w w' :World} {base:Nat} {e:TypeId} {sz:Nat} {v:Value} {n:Nat} {xs:List Value} (h:w.ownsRow base e sz v n xs) (g:BJ S w w') (k:∀b,v.ownBlock=some b→¬S b):w'.ownsRow base e sz v n xs:=by
 obtain ⟨i,f⟩:=h
 rcases f with f|⟨b,cap,d,rfl,m,j,l⟩
 ·exact ⟨i, .inl f⟩
 ·exact ⟨i, .inr ⟨b,cap,d,rfl,m,(g.block b (Array.getElem?_eq_some_iff.1 j).1 (k b rfl)).trans j,l⟩⟩
theorem AT.chg {S:Nat→Prop} {w w' :World} {base:Nat} {e:TypeId} {sz:Nat} {v:Value} {n:Nat} {xs:List Value} (h:AT w base e sz v n xs) (g:BJ S w w') (d:∀b,v.ownBlock=some b→¬S b):AT w' base e sz v n xs:=
 h.heap fun b e=>g.block b (h.lt b e).2 (d b e)
theorem Sl.chg {S:Nat→Prop} {w w' :World} {sz:Nat} {v:Value} {n:Nat} {xs:List Value} (h:Sl w sz v n xs) (g:BJ S w w') (f:∀b,v.ownBlock=some b→b<w.heap.size→¬S b):Sl w' sz v n xs:=
 h.keep fun b d e=>g.block b d (f b e d)
theorem DJ (k:IntKind) (m:Int):(Value.int k m).oneCell' =true:=rfl
structure Hd where
 v:Value
 k:Nat
 xs:List Value
 n:Int
 g:Value
def Hd.cells (h:Hd):List Value:=[h.v,h.g, .int .i64 h.n]
def AO:List Hd→List Value
 |[]=>[]
 |h::hs=>h.v::h.g:: .int .i64 h.n::AO hs
theorem EU:∀hs:List Hd,(AO hs).length=hs.length*3
 |[]=>rfl
 |h::hs=>by simp [AO,EU hs];omega
theorem HV:∀(a b:List Hd),AO (a++b)=AO a++AO b
 |[],_=>rfl
 |h::a,b=>by simp [AO,HV a b]
theorem KS:∀{hs:List Hd} {j:Nat} (h:j<hs.length),(AO hs)[j*3]? =some hs[j].v∧(AO hs)[j*3+1]? =some hs[j].g∧(AO hs)[j*3+2]? =some (.int .i64 hs[j].n)
 |t::ts,0,_=>by simp [AO]
 |t::ts,j+1,h=>by
  have:=KS (hs:=ts) (j:=j) (by simpa using h)
  rw [Nat.succ_mul]
  simpa [AO] using this
theorem ET:∀{hs:List Hd} {j:Nat} (h:j<hs.length) (g:Value),(AO hs).set (j*3+1) g=AO (hs.set j {hs[j] with g:=g})
 |t::ts,0,_,g=>by simp [AO]
 |t::ts,j+1,h,g=>by
  have:=ET (hs:=ts) (j:=j) (by simpa using h) g
  rw [Nat.succ_mul,show j*3+3+1=(j*3+1)+3 by omega]
  simp [AO,this]
theorem BH {hs:List Hd} {j:Nat} (h:j<hs.length):∀i,i<3→∃q,hs[j].cells[i]? =some q∧(AO hs)[j*3+i]? =some q:=fun i k=>by
 obtain ⟨f,d,g⟩:=KS h
 rcases (show i=0∨i=1∨i=2 by omega) with rfl|rfl|rfl
 ·exact ⟨_,rfl,f⟩
 ·exact ⟨_,rfl,d⟩
 ·exact ⟨_,rfl,g⟩
def AW (hs:List Hd):Nat→Prop:=fun b=>∃h ∈ hs,h.v.ownBlock=some b
structure KOk (hs:List Hd):Prop where
 num:∀h ∈ hs,0≤h.n∧h.n≤4000000
 few:∀h ∈ hs,h.k≤16777216
 apart:hs.Pairwise fun a b=>ID a.v b.v
 new:∀h ∈ hs,h.g= .slice none 0 0
structure DU (w:World) (base:Nat) (E:TypeId) (sz:Nat) (hs:List Hd):Prop extends KOk hs where
 own:∀h ∈ hs,AT w base E sz h.v h.k h.xs
theorem DU.nil (w:World) (base:Nat) (E:TypeId) (sz:Nat):DU w base E sz []:=⟨⟨by simp,by simp,List.Pairwise.nil,by simp⟩,by simp⟩
theorem DU.blk {w:World} {base:Nat} {E:TypeId} {sz:Nat} {hs:List Hd} (h:DU w base E sz hs) {b:Nat} (f:AW hs b):base≤b∧b<w.heap.size:=by
 obtain ⟨x,d,e⟩:=f
 exact (h.own x d).lt b e
theorem DU.chg {w w' :World} {base:Nat} {E:TypeId} {sz:Nat} {hs:List Hd} {S:Nat→Prop} (h:DU w base E sz hs) (g:BJ S w w') (f:∀b,AW hs b→¬S b):DU w' base E sz hs:=
 ⟨h.toKOk,fun x d=>(h.own x d).chg g fun b e=>f b ⟨x,d,e⟩⟩
theorem DU.bs {w w' :World} {base:Nat} {E:TypeId} {sz:Nat} {hs:List Hd} (h:DU w base E sz hs) (g:Below w.heap.size w w'):DU w' base E sz hs:=
 ⟨h.toKOk,fun x d=>(h.own x d).bs g⟩
theorem BI {hs:List Hd} (h:hs.Pairwise fun a b=>ID a.v b.v) {i j:Nat} (l:i<hs.length) (k:j<hs.length) (g:i≠j):ID hs[i].v hs[j].v:=by
 rcases Nat.lt_or_gt_of_ne g with f|d
 ·exact List.pairwise_iff_getElem.1 h i j l k f
 ·exact (List.pairwise_iff_getElem.1 h j i k l d).symm
def BK (mk:Int→Value) (k:Nat) (n:Int):List Value:=replicate k (mk n)
theorem FN {mk:Int→Value} {k:Nat} {n:Int} {i:Nat} (h:i<k):(BK mk k n)[i]? =some (mk n):=by simp [BK,h]
theorem HS {mk:Int→Value} {k:Nat} {n:Int} {xs:List Value} {i:Nat} (h:xs.length=k) (g:i<k):(BK mk i n++xs.drop i).set i (mk n)=BK mk (i+1) n++xs.drop (i+1):=by
 have f:(BK mk i n).length=i:=by simp [BK]
 have d:i<xs.length:=by omega
 rw [set_append_right _ _ (by omega),f,Nat.sub_self,drop_eq_getElem_cons d,set_cons_zero,BK,BK,replicate_succ',append_assoc]
 rfl
theorem IR {mk:Int→Value} {k:Nat} {n:Int} {xs:List Value} {i:Nat} (d:xs.length=k) (f:i≤k):(BK mk i n++xs.drop i).length=k:=by simp [BK,d];omega
theorem HT {mk:Int→Value} {k:Nat} {n:Int}:BK mk k n++[mk n]=BK mk (k+1) n:=by simp [BK,replicate_succ']
def FW (w:World) (base:Nat) (E:TypeId) (mk:Int→Value) (hs:List Hd):Prop:=∀h ∈ hs,AT w base E 1 h.v h.k (BK mk h.k h.n)
theorem FW.chg {w w' :World} {base:Nat} {E:TypeId} {mk:Int→Value} {hs:List Hd} {S:Nat→Prop} (h:FW w base E mk hs) (g:BJ S w w') (f:∀b,AW hs b→¬S b):FW w' base E mk hs:=
 fun x d=>(h x d).chg g fun b e=>f b ⟨x,d,e⟩
theorem FW.blk {w:World} {base:Nat} {E:TypeId} {mk:Int→Value} {hs:List Hd} (h:FW w base E mk hs) {b:Nat} (f:AW hs b):base≤b∧b<w.heap.size:=by
 obtain ⟨x,d,e⟩:=f
 exact (h x d).lt b e
structure DP (w:World) (mk:Int→Value) (h:Hd):Prop where
 l:Sl w 1 h.v h.k (BK mk h.k h.n)
 g:Sl w 1 h.g (h.k+40) (BK mk (h.k+40) h.n)
theorem DP.chg {w w' :World} {mk:Int→Value} {h:Hd} {S:Nat→Prop} (t:DP w mk h) (g:BJ S w w') (d:∀b,h.v.ownBlock=some b→b<w.heap.size→¬S b) (f:∀b,h.g.ownBlock=some b→b<w.heap.size→¬S b):DP w' mk h:=⟨t.l.chg g d,t.g.chg g f⟩
structure DH (w:World) (hs ts:List Hd):Prop where
 len:ts.length=hs.length
 all:∀j (h:j<hs.length) (h' :j<ts.length),ts[j].v=hs[j].v∧ts[j].k=hs[j].k∧ts[j].n=hs[j].n∧∀b,ts[j].g.ownBlock=some b→hs[j].v.ownBlock=some b∨w.heap.size≤b
theorem Eh (w:World) {hs:List Hd} (h:∀t ∈ hs,t.g= .slice none 0 0):DH w hs hs:=
 ⟨rfl,fun j d _=>⟨rfl,rfl,rfl,fun b e=>by rw [h _ (getElem_mem d)] at e;cases e⟩⟩
theorem DH.set {w:World} {hs d:List Hd} {i:Nat} {g:Value} (h:DH w hs d) (r:i<hs.length) (k:i<d.length) (q:∀b,g.ownBlock=some b→hs[i].v.ownBlock=some b∨w.heap.size≤b):DH w hs (d.set i {d[i] with g:=g}):=by
 refine ⟨by rw [length_set];exact h.len,fun j m f=> ?_⟩
 rw [getElem_set]
 split
 ·rename_i e
  subst e
  obtain ⟨o,l,p,_⟩:=h.all i r k
  exact ⟨o,l,p,q⟩
 ·exact h.all j m (by simpa using f)
theorem DH.nums {w:World} {hs i:List Hd} (h:DH w hs i) (f:KOk hs):∀t ∈ i,(0≤t.n∧t.n≤4000000)∧t.k≤16777216:=fun t l=>by
 obtain ⟨j,g,rfl⟩:=List.mem_iff_getElem.1 l
 have d:j<hs.length:=by rw [← h.len];exact g
 obtain ⟨_,k,m,_⟩:=h.all j d g
 rw [k,m]
 exact ⟨f.num _ (getElem_mem d),f.few _ (getElem_mem d)⟩
theorem DH.tall {o k p:World} {hs f:List Hd} {mk:Int→Value} {S:Nat→Prop} (h:DH o hs f) (z:∀t ∈ f,DP k mk t) (c:BJ S k p) (m:∀b,AW hs b→¬S b) (r:∀b,o.heap.size≤b→¬S b):∀t ∈ f,DP p mk t:=fun t i=>by
 obtain ⟨j,l,rfl⟩:=List.mem_iff_getElem.1 i
 have d:j<hs.length:=by rw [← h.len];exact l
 obtain ⟨q,_,_,s⟩:=h.all j d l
 refine (z _ i).chg c (fun b e _=>m b ⟨_,getElem_mem d,by rw [← q];exact e⟩) fun b e _=> ?_
 rcases s b e with g|g
 ·exact m b ⟨_,getElem_mem d,g⟩
 ·exact r b g
theorem DP.bs {w w' :World} {mk:Int→Value} {h:Hd} (t:DP w mk h) (g:Below w.heap.size w w'):DP w' mk h:=⟨t.l.bs g,t.g.bs g⟩
theorem Ht {w:World} {base:Nat} {E:TypeId} {sz n:Nat} {v:Value} {xs:List Value} (h:w.ownsRow base E sz v n xs) (g:0<n):∃ad c k,v= .slice (some ad) c k:=by
 rcases h.2 with ⟨_,f⟩|⟨b,cap,d,rfl,_⟩
 ·omega
 ·exact ⟨_,_,_,rfl⟩
theorem HW {W q r:World} {base:Nat} {E:TypeId} {v g G:Value} {k m:Nat} {xs N:List Value} (C:AT W base E 1 v k xs) (s:AT r base E 1 G m N) (R:q.grownBy r g.ownBlock)
  (i:G.ownBlock=g.ownBlock∨((∀b,G.ownBlock=some b→q.heap.size≤b)∧Below q.heap.size q r)) (L:Sl q 1 v k xs) (_hm:k≤m) (H:N.take k=xs):Sl r 1 v k xs:=by
 rcases i with e|⟨_,Q⟩
 ·obtain ⟨I,B,cap,rfl,D,A,J,U⟩:=L
  cases B with
  |none=>exact ⟨I,none,cap,rfl,D,A,J,fun a K=>by cases K⟩
  |some ad=>
   have o:ad=⟨ad.block,0,none⟩:=by
    rcases C with C|⟨V,p,d,_⟩
    ·rcases C.2 with ⟨d,_⟩|⟨b,l,p,d,_⟩
     ·cases d
     ·cases d;rfl
    ·cases d;rfl
   by_cases hgo:g.ownBlock=some ad.block
   ·rw [hgo] at e
    obtain ⟨_,B,l,f,_,_,_,X⟩:=s.sl
    have F:B=some ad:=by
     rcases s with s|⟨V,p,d,_⟩
     ·rcases s.2 with ⟨d,_⟩|⟨Y,M,_,d,_⟩
      ·rw [d] at e;cases e
      ·rw [d] at f e
       cases f
       simp only [Value.ownBlock,Option.some.injEq] at e
       rw [o,e]
     ·rw [d] at f e
      cases f
      simp only [Value.ownBlock,Option.some.injEq] at e
      rw [o,e]
    refine ⟨I,some ad,cap,rfl,D,A,J,fun a K j u z=>X a (by rw [F];exact K) j u ?_⟩
    rw [← H,getElem?_take] at z
    split at z
    ·exact z
    ·cases z
   ·exact Sl.by ⟨I,some ad,cap,rfl,D,A,J,U⟩ R (.inr fun h=>hgo h.symm)
 ·exact L.bs Q
section
variable {P : Program} {n : Nat} {E : BZ} {w : World} {ty t e : TypeId} {x y : Operand} {v u : Value} {sz base : Nat}
theorem L8 {w w' :World} {base:Nat} {t ty e:TypeId} {i:TypeInfo} {z:Value} {size p:Nat} (F:P.underlying t=some (.slice e)) (G:P.info? e=some i) (M:i.zero=some z)
  (q:i.size=size) (J:i.bytes=p) (V:0<size) {v v' :Value} {n:Nat} {xs:List Value} (o:w.ownsRow base e size v n xs)
  {a:Addr} {m c:Nat} {d:List Value} (C:d.length=m*size) (h:∀j u,d[j]? =some u→w.cell? (a.add j)=some u) (U:∀u ∈ d,u.oneCell' =true)
  (I:n+m≤maxLen) (l:(n+m)*p≤140737488355328) (f:(Builtin.append_ #[t,t] ty #[v, .slice (some a) m c]).run P w= .ok v' w'):
  v'.ownBlock=v.ownBlock∨((∀b,v'.ownBlock=some b→w.heap.size≤b)∧Below w.heap.size w w'):=by
 subst q
 subst J
 have D:n+m≤9223372036854775807:=by simp only [maxLen] at I;omega
 rcases o.2 with ⟨rfl,rfl⟩|⟨g,cap,A,rfl,W,R,X,N,L,K⟩
 ·by_cases hm:m=0
  ·subst hm
   obtain rfl:d=[]:=eq_nil_of_length_eq_zero (by simpa using C)
   have s:(Builtin.append_ #[t,t] ty #[.slice none 0 0, .slice (some a) 0 c]).run P w= .ok (.slice none 0 0) w:=by
    simp [Builtin.append_,run_underlying F,sizeOf,typeInfo,G,Builtin.lenOf,Builtin.firstCells,loadCells,loadCellsFrom]
   rw [s] at f
   cases f
   exact .inl rfl
  ·have s:=run_append_nil (P:=P) w t ty e i z F G M a m c d C h (by omega) (by omega) (by have Q:=l;simp only [Nat.zero_add] at Q;omega)
   rw [s] at f
   cases f
   exact .inr ⟨(fun b e=>by cases e;exact AX _),⟨rfl,rfl,rfl,by simp,fun k H=>heap_alloc_old w.drew _ H⟩⟩
 ·by_cases hroom:n+m≤cap
  ·have B:n*i.size+d.length≤A.size:=by rw [C,L,← Nat.add_mul];exact Nat.mul_le_mul_right _ hroom
   have s:=run_append_room (P:=P) w t ty e i F G g n cap A R a m c d C h U hroom B
   rw [s] at f
   cases f
   exact .inl rfl
  ·have r:∀j u,xs[j]? =some u→w.cell? ((⟨g,0,none⟩:Addr).add j)=some u:=o.cells (g:=g) rfl
   have s:=run_append_grow (P:=P) w t ty e i z F G M ⟨g,0,none⟩ n cap xs o.1 r a m c d C h (by omega) (by omega) (growslice_fits (by omega) l)
   rw [s] at f
   cases f
   exact .inr ⟨(fun b e=>by cases e;exact AX _),⟨rfl,rfl,rfl,by simp,fun k H=>heap_alloc_old w.drew _ H⟩⟩
theorem E6 {k m:Nat} {xs d:List Value} {f:Nat} {p:List Value} (r:FO P t e sz) (Z:He P e p f) (F:p.length=sz) (L:0<sz) (Q:ev E x=some v) (M:ev E y=some u)
  (g:w.ownsRow base e sz v k xs) (z:Sl w sz u m d) (s:d.all (·.oneCell')=true) (j:(k+m)*f≤140737488355328) (hm:k+m≤9223372036854775807) (l:base≤w.heap.size):
  Xw P n E (.call {callee:= .builtin .append,args:= #[x,y],argTypes:= #[t,t]}) ty w (fun v' w' =>w'.ownsRow base e sz v' (k+m) (xs++d)∧w.grownBy w' v.ownBlock∧(v'.ownBlock=v.ownBlock∨((∀b,v'.ownBlock=some b→w.heap.size≤b)∧Below w.heap.size w w'))):=fun a B=>by
 subst F
 obtain ⟨i,C,J,N,zv,K,W⟩:=Z.i
 obtain ⟨G,V,cap,rfl,hc1,Y,I,q⟩:=z
 have H:zv.cells.size=p.length:=by rw [W];simp
 cases V with
 |none=>
  have R:=I rfl
  have D:m=0:=by omega
  subst D
  obtain rfl:d=[]:=eq_nil_of_length_eq_zero (by simpa using G)
  subst R
  have A:=run_append_owned_none (P:=P) w base t ty e i p.length r.u C v k xs g
  refine ⟨v,w,fun _ _ _ _=>by simp [execOp,resolve,invoke,builtin,B.ev Q,B.ev M,A],by simpa using g,FQ _ _, .inl rfl⟩
 |some ad=>
  have o:k+m≤maxLen:=by unfold maxLen;omega
  have h:∀u ∈ d,u.oneCell' =true:=fun u r=>List.all_eq_true.1 s u r
  obtain ⟨v',w',A,X,U,g3⟩:=run_append_own (P:=P) w base t ty e i zv p.length f r.u C K J N H L v k xs g ad m cap d G (q ad rfl) h o j l
  exact ⟨v',w',fun _ _ _ _=>by simp [execOp,resolve,invoke,builtin,B.ev Q,B.ev M,A],X,U,L8 r.u C K J N L g G (q ad rfl) h o j A⟩
theorem Ef {k m:Nat} {xs h:List Value} {d:Nat} {z:List Value} (M:FO P t e sz) (N:He P e z d) (q:z.length=sz) (K:0<sz) (Q:ev E x=some v) (L:ev E y=some u)
  (f:AT w base e sz v k xs) (p:Sl w sz u m h) (r:h.all (·.oneCell')=true) (l:(k+m)*d≤140737488355328) (hm:k+m≤9223372036854775807) (j:base≤w.heap.size) (X:1≤m):
  Xw P n E (.call {callee:= .builtin .append,args:= #[x,y],argTypes:= #[t,t]}) ty w (fun v' w' =>w'.ownsRow base e sz v' (k+m) (xs++h)∧w.grownBy w' v.ownBlock∧(v'.ownBlock=v.ownBlock∨((∀b,v'.ownBlock=some b→w.heap.size≤b)∧Below w.heap.size w w'))):=fun a F=>by
 have B:=f.sl
 rcases f with f|⟨g,Y,rfl,h0,hb,h1,h2,h3⟩
 ·exact E6 M N q K Q L f p r l hm j a F
 ·subst q
  obtain ⟨i,i1,R,i3,zv,i4,W⟩:=N.i
  obtain ⟨Z,V,cap,rfl,hc1,hc2,H,C⟩:=p
  have D:zv.cells.size=z.length:=by rw [W];simp
  cases V with
  |none=>have:=H rfl;omega
  |some ad=>
   obtain ⟨_,ao',J,A,_,_,_,G⟩:=B
   cases A
   obtain ⟨v',w',hr,I,s⟩:=run_append_arg_grows (P:=P) w t ty e i zv z.length d M.u i1 i4 R i3 D K ⟨g,0,none⟩ k k xs (by rw [h3,length_take];omega) (G _ rfl) ad m cap h Z (C ad rfl) (by omega) (by unfold maxLen;omega) l
   have o:Below w.heap.size w w' :=⟨s.os,s.tape,s.output,s.size,fun k U=>s.block k U (by simp)⟩
   exact ⟨v',w',fun _ _ _ _=>by simp [execOp,resolve,invoke,builtin,F.ev Q,F.ev L,hr],DN I j,BU o _, .inr ⟨fun b e=>(AF I b e).1,o⟩⟩
theorem G0 {c j:Nat} {T:TypeId} {xs:List Value} (f:(sizeOf e).run P w= .ok 1 w) (s:ev E x=some (BW v j)) (q:ev E y=some u) (d:u.oneCell' =true) (h:AT w base T sz v c xs) (r:j<xs.length):
  Xu P n E (.store e x y) ty w (fun w' =>AT w' base T sz v c (xs.set j u)∧w.grownBy w' v.ownBlock∧w'.heap.size=w.heap.size):=fun a p=>by
 rcases h with h|⟨g,z,rfl,C,D,B,A,rfl⟩
 ·obtain ⟨w',l,o,m,k⟩:=E1 f s q d h r a p
  exact ⟨w',l, .inl o,m,k⟩
 ·have i:ev E x=some (.pointer (some ⟨g,j,none⟩)):=by simpa [BW,add_lit] using s
  rw [length_take] at r
  obtain ⟨w',l,o,m,k⟩:=C4 (P:=P) (ty:=ty) f i q d D (by omega) a p
  exact ⟨w',l, .inr ⟨g,_,rfl,C,o,by simpa using B,A,by rw [take_set]⟩,m,k⟩
end
end Go.Dd

namespace Go.Dd
open Go Go.RowKit List
section
variable {P : Program} {n : Nat} {E : BZ} {w : World} {e ty t : TypeId} {x y z : Operand} {u v : Value}
theorem Xu.stKA {c j k:Nat} {base sz:Nat} {T:TypeId} {xs ds:List Value} (hs:(P.info? e).map (·.size)=some k) (q:ds.length=k) (A:ev E x=some (BW v j)) (s:ev E y=some (.agg ds.toArray)) (b:ds.all (·.oneCell')=true) (h:AT w base T sz v c xs) (G:0<c) (C:j+ds.length≤xs.length):
  Xu P n E (.store e x y) ty w (fun w' =>AT w' base T sz v c (GD xs j ds)∧w.grownBy w' v.ownBlock∧w'.heap.size=w.heap.size):=fun a B=>by
 rcases h with h|⟨g,l,rfl,m,F,r,D,rfl⟩
 ·rcases h.2 with ⟨_,H⟩|⟨g,cap,l,rfl,_⟩
  ·omega
  ·have d:ev E x=some (.pointer (some ⟨g,j,none⟩)):=by simpa [BW,add_lit] using A
   obtain ⟨w',f,p,i,o⟩:=Xu.stAO (P:=P) (ty:=ty) hs q d s b h rfl C a B
   exact ⟨w',f, .inl p,i,o⟩
 ·have d:ev E x=some (.pointer (some ⟨g,j,none⟩)):=by simpa [BW,add_lit] using A
  rw [length_take] at C
  obtain ⟨w',f,p,i,o⟩:=Xu.stAt (P:=P) (ty:=ty) hs q d s b F (by omega) a B
  exact ⟨w',f, .inr ⟨g,_,rfl,m,p,by rw [Ih (by omega)];exact r,D,by rw [JH (by omega) r]⟩,i,o⟩
end
theorem AT.ty {w:World} {base sz k g:Nat} {T:TypeId} {v:Value} {xs:List Value} (h:AT w base T sz v k xs) (c:v.ownBlock=some g):∃cs,AN w g T cs:=by
 rcases h with h|⟨d,a,rfl,_,b,_⟩
 ·obtain ⟨_,a,_,b,_⟩:=ER h c
  exact ⟨a,b⟩
 ·obtain rfl:d=g:=by simpa [Value.ownBlock] using c
  exact ⟨a,b⟩
theorem Ji {U p q:World} {base sz:Nat} {E:TypeId} {v g G:Value} {k m:Nat} {xs N:List Value} (C:AT U base E sz v k xs) (r:AT q base E sz G m N) (R:p.grownBy q g.ownBlock)
  (f:G.ownBlock=g.ownBlock∨((∀b,G.ownBlock=some b→p.heap.size≤b)∧Below p.heap.size p q)) (L:Sl p sz v k xs) (H:N.take (k*sz)=xs):Sl q sz v k xs:=by
 rcases f with e|⟨_,Q⟩
 ·obtain ⟨I,B,cap,rfl,D,A,J,S⟩:=L
  cases B with
  |none=>exact ⟨I,none,cap,rfl,D,A,J,fun a K=>by cases K⟩
  |some ad=>
   have l:ad=⟨ad.block,0,none⟩:=by
    rcases C with C|⟨T,o,c,_⟩
    ·rcases C.2 with ⟨c,_⟩|⟨b,i,o,c,_⟩
     ·cases c
     ·cases c;rfl
    ·cases c;rfl
   by_cases hgo:g.ownBlock=some ad.block
   ·rw [hgo] at e
    obtain ⟨_,B,i,d,_,_,_,V⟩:=r.sl
    have F:B=some ad:=by
     rcases r with r|⟨T,o,c,_⟩
     ·rcases r.2 with ⟨c,_⟩|⟨W,M,_,c,_⟩
      ·rw [c] at e;cases e
      ·rw [c] at d e
       cases d
       simp only [Value.ownBlock,Option.some.injEq] at e
       rw [l,e]
     ·rw [c] at d e
      cases d
      simp only [Value.ownBlock,Option.some.injEq] at e
      rw [l,e]
    refine ⟨I,some ad,cap,rfl,D,A,J,fun a K j u s=>V a (by rw [F];exact K) j u ?_⟩
    rw [← H,getElem?_take] at s
    split at s
    ·exact s
    ·cases s
   ·exact Sl.by ⟨I,some ad,cap,rfl,D,A,J,S⟩ R (.inr fun h=>hgo h.symm)
 ·exact L.bs Q
theorem QD {w:World} {base sz n m:Nat} {e:TypeId} {v:Value} {xs:List Value} (h:w.ownsRow base e sz v n xs) (i:m≤n):w.ownsRow base e sz (cut v sz 0 m) m (xs.take (m*sz)):=by
 obtain ⟨q,k⟩:=h
 have f:m*sz≤n*sz:=Nat.mul_le_mul_right _ i
 refine ⟨by rw [length_take];omega, ?_⟩
 rcases k with ⟨rfl,rfl⟩|⟨b,cap,a,rfl,o,p,d,c,g,l⟩
 ·obtain rfl:m=0:=by omega
  exact .inl ⟨rfl,rfl⟩
 ·refine .inr ⟨b,cap,a, ?_,o,p,Nat.le_trans i d,c,g, ?_⟩
  ·show Value.slice (if cap=0 then _ else Option.map _ _) (m - 0) (cap - 0)=_
   have j:(if cap=0 then some (⟨b,0,none⟩:Addr) else (some (⟨b,0,none⟩:Addr)).map (·.add (0*sz)))=some ⟨b,0,none⟩:=by
    split
    ·rfl
    ·simp [add_lit]
   rw [j];rfl
  ·rw [← l,take_take,Nat.min_eq_left f]
def K0 (sz k:Nat) (cs:List (List Value)):Prop:=cs.length=k∧∀c ∈ cs,c.length=sz
theorem K0.len {sz k:Nat} {cs:List (List Value)} (h:K0 sz k cs):cs.flatten.length=k*sz:=by
 obtain ⟨rfl,h⟩:=h
 induction cs with
 |nil=>simp
 |cons c cs ih=>
  rw [flatten_cons,length_append,ih fun x a=>h x (mem_cons_of_mem _ a),h c (by simp),length_cons,Nat.succ_mul];omega
theorem K0.snoc {sz k:Nat} {cs:List (List Value)} {c:List Value} (h:K0 sz k cs) (b:c.length=sz):K0 sz (k+1) (cs++[c]):=
 ⟨by rw [length_append,h.1];rfl,fun x a=>by
  rcases List.mem_append.1 a with a|a
  ·exact h.2 x a
  ·rw [List.mem_singleton.1 a];exact b⟩
theorem K0.nil (sz:Nat):K0 sz 0 []:=⟨rfl,fun _ h=>by cases h⟩
theorem K0.take {sz k m:Nat} {cs:List (List Value)} (h:K0 sz (k+m) cs):K0 sz k (cs.take k):=⟨by rw [length_take,h.1];omega,fun c a=>h.2 c (mem_of_mem_take a)⟩
theorem K0.at {sz k:Nat}:∀{cs:List (List Value)},K0 sz k cs→∀{j:Nat} (a:j<cs.length) {i:Nat},i<sz→cs.flatten[j*sz+i]? =cs[j][i]?
 |[],_,j,a,_,_=>by cases a
 |c::cs,h,0,_,i,hi=>by
  rw [flatten_cons,Nat.zero_mul,Nat.zero_add,getElem?_append_left (by rw [h.2 c (by simp)];exact hi)];rfl
 |c::cs,h,j+1,a,i,hi=>by
  have b:=h.2 c (by simp)
  have:K0 sz cs.length cs:=⟨rfl,fun x d=>h.2 x (mem_cons_of_mem _ d)⟩
  rw [flatten_cons,getElem?_append_right (by rw [b,Nat.succ_mul];omega),b,show (j+1)*sz+i - sz=j*sz+i by rw [Nat.succ_mul];omega,this.at (by simpa using a) hi];rfl
theorem K0.cells {sz k:Nat} {cs:List (List Value)} (h:K0 sz k cs) {j:Nat} (a:j<cs.length):∀i,i<sz→∃q,cs[j][i]? =some q∧cs.flatten[j*sz+i]? =some q:=fun i b=>by
 have c:=h.2 _ (getElem_mem a)
 exact ⟨cs[j][i]'(by omega),getElem?_eq_getElem _,by rw [h.at a b];exact getElem?_eq_getElem _⟩
theorem E5 {sz k m:Nat} {cs:List (List Value)} (h:K0 sz (k+m) cs):cs.flatten.take (k*sz)=(cs.take k).flatten:=by
 have e:cs.flatten=(cs.take k).flatten++(cs.drop k).flatten:=by rw [← flatten_append,take_append_drop]
 have:=h.take.len
 rw [e,take_append_of_le_length (by omega),take_of_length_le (by omega)]
theorem LP {sz k i:Nat} {xs:List Value} {ds:List (List Value)} {c:List Value} (g:xs.length=k*sz) (b:K0 sz i ds) (d:c.length=sz) (f:i<k):GD (ds.flatten++xs.drop (i*sz)) (i*sz) c=(ds++[c]).flatten++xs.drop ((i+1)*sz):=by
 have a:=b.len
 unfold GD
 rw [take_append_of_le_length (by rw [a];exact AX _),take_of_length_le (by rw [a];exact AX _),drop_append,drop_of_length_le (by rw [a];omega),nil_append,a,drop_drop,d,flatten_append]
 congr 1
 ·simp
 ·congr 1;rw [Nat.succ_mul];omega
theorem MC {sz k i:Nat} {xs:List Value} {ds:List (List Value)} (c:xs.length=k*sz) (a:K0 sz i ds) (b:i≤k):(ds.flatten++xs.drop (i*sz)).length=k*sz:=by
 have:=a.len
 have:i*sz≤k*sz:=Nat.mul_le_mul_right _ b
 rw [length_append,length_drop];omega
structure GQ (B:Nat) (I:TypeId) (Φ:Int→World→List Value→Prop):Prop where
 of:∀{n:Int} {w w' :World} {c:List Value} {S:Nat→Prop},Φ n w c→BJ S w w' →(∀b,S b→b<B∨∃T cs,AN w b T cs∧T≠I)→Φ n w' c
theorem GQ.chg {B:Nat} {I:TypeId} {Φ:Int→World→List Value→Prop} (h:GQ B I Φ) {n:Int} {w w' :World} {c:List Value} {S:Nat→Prop} (d:Φ n w c) (g:BJ S w w') (a:∀b,S b→b<B):Φ n w' c:=h.of d g fun b e=> .inl (a b e)
theorem GQ.bs {B:Nat} {I:TypeId} {Φ:Int→World→List Value→Prop} (h:GQ B I Φ) {n:Int} {w w' :World} {c:List Value} (a:Φ n w c) (g:Below w.heap.size w w'):Φ n w' c:=h.of a (S:=fun _=>False) (BJ.of_below g) (fun _ h=>h.elim)
structure HP (Φ:Int→World→List Value→Prop) (sz:Nat) (n:Int) (w:World) (k:Nat) (cs:List (List Value)):Prop where
 els:K0 sz k cs
 each:∀c ∈ cs,Φ n w c
theorem HP.nil (Φ:Int→World→List Value→Prop) (sz:Nat) (n:Int) (w:World):HP Φ sz n w 0 []:=⟨K0.nil sz,fun _ h=>by cases h⟩
theorem HP.snoc {Φ:Int→World→List Value→Prop} {sz k:Nat} {n:Int} {w:World} {cs:List (List Value)} {c:List Value} (h:HP Φ sz n w k cs) (b:c.length=sz) (d:Φ n w c):HP Φ sz n w (k+1) (cs++[c]):=
 ⟨h.els.snoc b,fun x a=>by
  rcases List.mem_append.1 a with a|a
  ·exact h.each x a
  ·rw [List.mem_singleton.1 a];exact d⟩
theorem HP.chg {Φ:Int→World→List Value→Prop} {B sz k:Nat} {I:TypeId} {n:Int} {w w' :World} {S:Nat→Prop} {cs:List (List Value)} (h:HP Φ sz n w k cs) (st:GQ B I Φ) (g:BJ S w w') (a:∀b,S b→b<B):HP Φ sz n w' k cs:=⟨h.els,fun c d=>st.chg (h.each c d) g a⟩
theorem HP.bs {Φ:Int→World→List Value→Prop} {B sz k:Nat} {I:TypeId} {n:Int} {w w' :World} {cs:List (List Value)} (h:HP Φ sz n w k cs) (st:GQ B I Φ) (g:Below w.heap.size w w'):HP Φ sz n w' k cs:=⟨h.els,fun c a=>st.bs (h.each c a) g⟩
theorem HP.by {Φ:Int→World→List Value→Prop} {B sz k:Nat} {I:TypeId} {n:Int} {w w' :World} {g:Option Nat} {cs:List (List Value)} (h:HP Φ sz n w k cs) (st:GQ B I Φ) (d:w.grownBy w' g) (a:∀b,g=some b→b<B∨∃T cs,AN w b T cs∧T≠I):HP Φ sz n w' k cs:=
 ⟨h.els,fun c f=>st.of (h.each c f) (S:=fun b=>g=some b) ((BJ.refl _ _).grown d fun b e=> .inl e) a⟩
theorem HP.take {Φ:Int→World→List Value→Prop} {sz k m:Nat} {n:Int} {w:World} {cs:List (List Value)} (h:HP Φ sz n w (k+m) cs):HP Φ sz n w k (cs.take k):=⟨h.els.take,fun c a=>h.each c (mem_of_mem_take a)⟩
def FA (w:World) (base:Nat) (E:TypeId) (sz:Nat) (Φ:Int→World→List Value→Prop) (hs:List Hd):Prop:=∀h ∈ hs,∃cs,HP Φ sz h.n w h.k cs∧AT w base E sz h.v h.k cs.flatten
theorem FA.chg {w w' :World} {base sz B:Nat} {E I:TypeId} {Φ:Int→World→List Value→Prop} {hs:List Hd} {S:Nat→Prop} (h:FA w base E sz Φ hs) (st:GQ B I Φ) (g:BJ S w w') (i:∀b,S b→b<B) (d:∀b,AW hs b→¬S b):FA w' base E sz Φ hs:=fun x a=>by
 obtain ⟨cs,f,c⟩:=h x a
 exact ⟨cs,f.chg st g i,c.chg g fun b e=>d b ⟨x,a,e⟩⟩
theorem FA.blk {w:World} {base sz:Nat} {E:TypeId} {Φ:Int→World→List Value→Prop} {hs:List Hd} (h:FA w base E sz Φ hs) {b:Nat} (c:AW hs b):base≤b∧b<w.heap.size:=by
 obtain ⟨x,d,e⟩:=c
 obtain ⟨_,_,a⟩:=h x d
 exact a.lt b e
structure EM (w:World) (sz:Nat) (Φ:Int→World→List Value→Prop) (h:Hd):Prop where
 l:∃cs,HP Φ sz h.n w h.k cs∧Sl w sz h.v h.k cs.flatten
 g:∃cs,HP Φ sz h.n w (h.k+40) cs∧Sl w sz h.g (h.k+40) cs.flatten
theorem EM.chg {w w' :World} {sz B:Nat} {I:TypeId} {Φ:Int→World→List Value→Prop} {h:Hd} {S:Nat→Prop} (t:EM w sz Φ h) (st:GQ B I Φ) (g:BJ S w w') (a:∀b,S b→b<B) (i:∀b,h.v.ownBlock=some b→b<w.heap.size→¬S b) (d:∀b,h.g.ownBlock=some b→b<w.heap.size→¬S b):EM w' sz Φ h:=by
 obtain ⟨⟨cs,f,k⟩,⟨ds,j,c⟩⟩:=t
 exact ⟨⟨cs,f.chg st g a,k.chg g i⟩,⟨ds,j.chg st g a,c.chg g d⟩⟩
theorem EM.bs {w w' :World} {sz B:Nat} {I:TypeId} {Φ:Int→World→List Value→Prop} {h:Hd} (t:EM w sz Φ h) (st:GQ B I Φ) (g:Below w.heap.size w w'):EM w' sz Φ h:=by
 obtain ⟨⟨cs,b,d⟩,⟨ds,c,a⟩⟩:=t
 exact ⟨⟨cs,b.bs st g,d.bs g⟩,⟨ds,c.bs st g,a.bs g⟩⟩
theorem DH.tallN {m i o:World} {B sz:Nat} {I:TypeId} {Φ:Int→World→List Value→Prop} {hs d:List Hd} {S:Nat→Prop} (h:DH m hs d) (st:GQ B I Φ) (A:∀t ∈ d,EM i sz Φ t) (c:BJ S i o) (s:∀b,S b→b<B) (l:∀b,AW hs b→¬S b) (q:∀b,m.heap.size≤b→¬S b):∀t ∈ d,EM o sz Φ t:=fun t g=>by
 obtain ⟨j,k,rfl⟩:=List.mem_iff_getElem.1 g
 have a:j<hs.length:=by rw [← h.len];exact k
 obtain ⟨p,_,_,r⟩:=h.all j a k
 refine (A _ g).chg st c s (fun b e _=>l b ⟨_,getElem_mem a,by rw [← p];exact e⟩) fun b e _=> ?_
 rcases r b e with f|f
 ·exact l b ⟨_,getElem_mem a,f⟩
 ·exact q b f
def Ma (B:Nat) (I:TypeId) (n:Int) (w:World) (c:List Value):Prop:=∃x,c=[x, .slice none 0 0]∧CA (Value.int .i64) w x [-n]∧∀b,x.ownBlock=some b→B≤b∧∃cs,AN w b I cs
theorem FI {w:World} {b:Nat} {T U:TypeId} {cs ds:List Value} (h:AN w b T cs) (k:AN w b U ds):T=U:=by
 unfold AN at h k
 rw [h] at k
 cases k;rfl
theorem CR (B:Nat) (I:TypeId):GQ B I (Ma B I):=⟨fun ⟨x,e,k,c⟩ g i=>by
 have d:∀b,x.ownBlock=some b→¬_:=fun b e hs=>by
  obtain ⟨f,ds,a⟩:=c b e
  rcases i b hs with h|⟨T,cs,l,j⟩
  ·omega
  ·exact j (FI l a)
 refine ⟨x,e,Sl.chg k g fun b e _ hs=>d b e hs,fun b e=> ?_⟩
 obtain ⟨f,ds,a⟩:=c b e
 exact ⟨f,ds,a.chg g (d b e)⟩⟩
theorem Lj {B:Nat} {I:TypeId} {n:Int} {w:World} {c:List Value} (h:Ma B I n w c):c.length=2∧c.all (·.oneCell')=true:=by
 obtain ⟨x,rfl,a,_⟩:=h
 exact ⟨rfl,by rw [all_cons,Sl.one' a];rfl⟩
def Mb (n:Int) (_:World) (c:List Value):Prop:=c=[b8 0#8, .slice none 0 0, .slice none 0 0, .int .i64 (-n), .int .i64 0]
theorem CV (B:Nat) (I:TypeId):GQ B I Mb:=⟨fun h _ _=>h⟩
theorem Lk {n:Int} {w:World} {c:List Value} (h:Mb n w c):c.length=5∧c.all (·.oneCell')=true:=by
 rw [h];exact ⟨rfl,rfl⟩
end Go.Dd

namespace Go.Proofs.YtblbopcaflaldaaGreatDoor
open Go Go.Dd Go.RowKit List
set_option maxRecDepth 100000
structure PE (w w' :World) (v y:Value):Prop where
 g:w.grownBy w' v.ownBlock
 c:y.ownBlock=v.ownBlock∨∀b,y.ownBlock=some b→w.heap.size≤b
theorem Gu (w:World) (v:Value):PE w w v v:=⟨BU (Below.refl _ _) _, .inl rfl⟩
theorem PE.bs {w a b:World} {v y:Value} (h:PE w a v y) (g:Below a.heap.size a b):PE w b v y:=⟨BB h.g (BU g _),h.c⟩
theorem PE.app {w d j:World} {v y i:Value} (h:PE w d v y) (g:d.grownBy j y.ownBlock) (c:i.ownBlock=y.ownBlock∨∀b,i.ownBlock=some b→d.heap.size≤b):PE w j v i:=by
 have z:=h.g.size
 refine ⟨⟨g.os.trans h.g.os,g.tape.trans h.g.tape,g.output.trans h.g.output,Nat.le_trans z g.size,fun b k a=> ?_⟩, ?_⟩
 ·refine (g.block b (Nat.lt_of_lt_of_le k z) fun e=> ?_).trans (h.g.block b k a)
  rcases h.c with f|f
  ·exact a (by rw [e,f])
  ·have:=f b e.symm;omega
 ·rcases c with c|c
  ·rw [c];exact h.c
  ·exact .inr fun b e=>Nat.le_trans z (c b e)
theorem GN.cell {w:World} {v:Value} {ls:List N5} (h:GN w v ls) {i:Nat} (a:i<ls.length):(FR N5.cells ls)[i*5+0]? =some (b8 ls[i].k)∧(FR N5.cells ls)[i*5+2]? =some ls[i].y:=by
 obtain ⟨q,e,c⟩:=h.cells a 0 (by decide)
 obtain ⟨r,g,d⟩:=h.cells a 2 (by decide)
 have b:b8 ls[i].k=q:=Option.some.inj e
 have f:ls[i].y=r:=Option.some.inj g
 exact ⟨by rw [b];exact c,by rw [f];exact d⟩

def SY:Value:= .iface 106 (.agg #[])
structure SL (W w:World) (A:Nat) (v:Value) (l:List (BitVec 8)):Prop where
 sl:CA b8 W v l
 bel:Below W.heap.size W w
 lo:W.heap.size≤A
 cell:AN w A 99 [v]
theorem SL.le {W w:World} {A:Nat} {v:Value} {l:List (BitVec 8)} (h:SL W w A v l):l.length≤9223372036854775807:=h.sl.le

abbrev Bs:=List (BitVec 8)
abbrev PN:=BitVec 8×List Int×List Int×Int×Int
def pn (a:N5):PN:=(a.k,a.i,a.s,a.n,a.p)
def un (p:PN):N5:=⟨p.1, .slice none 0 0, .slice none 0 0,p.2.1,p.2.2.1,p.2.2.2.1,p.2.2.2.2⟩
def NG (ns:List PN):Option (List (List Int)):=Hg (ns.map un)
theorem OC:∀(ls:List N5) (a:List (List Int)),EK a (ls.map fun x=>un (pn x))=EK a ls
 |[],_=>rfl
 |x::ls,a=>by
  show (match JD a x with|some s=>EK (a++[s]) (ls.map fun x=>un (pn x))|none=>none)=match JD a x with|some s=>EK (a++[s]) ls|none=>none
  cases JD a x with
  |none=>rfl
  |some s=>exact OC ls _
theorem Rt (k:BitVec 8):∀ls:List N5,((ls.map fun x=>un (pn x)).filter fun a=>decide (a.k=k)).length=(ls.filter fun a=>decide (a.k=k)).length
 |[]=>rfl
 |x::ls=>by
  have b:=Rt k ls
  rw [map_cons,filter_cons,filter_cons,show (un (pn x)).k=x.k from rfl]
  split
  ·rw [length_cons,length_cons,b]
  ·exact b
theorem I0 (ls:List N5):NG (ls.map pn)=Hg ls:=by
 unfold NG
 rw [map_map]
 show Hg (ls.map fun x=>un (pn x))=Hg ls
 unfold Hg
 have b:DD (ls.map fun x=>un (pn x))=DD ls:=Rt _ ls
 have a:((ls.map fun x=>un (pn x)).getD (ls.length - 1) default).k=(ls.getD (ls.length - 1) default).k:=by
  rw [getD_eq_getElem?_getD,getD_eq_getElem?_getD,getElem?_map]
  cases ls[ls.length - 1]? <;>rfl
 rw [length_map,OC,b,a]
end Go.Proofs.YtblbopcaflaldaaGreatDoor
