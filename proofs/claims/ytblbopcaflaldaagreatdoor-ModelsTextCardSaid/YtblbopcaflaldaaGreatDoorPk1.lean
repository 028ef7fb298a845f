/- Texts of this proof, one behind the other: Base, Ops, Mem, Reg, Pan, Facts, Shp, ShapesCode, More, Own, TensorsCode, Seg, Map, GraphCode, Twins, TensorsLaw, Sum, Mov, Int, Crc, Byt, FindCode, GraphKind, Sub. -/
import Derived.WalkKit
import Derived.Deep.Quiet
import Derived.StillTail
import Derived.Test.YtblbopcaflaldaaGreatDoorProg
import Derived.Laws.Tables
import Derived.MapKept
import Derived.Lib.AppendZeros
import Derived.Laws.CopyRow
import Derived.Laws.IdiomCopy

namespace Go.Dd
theorem O{α:Sort _}{a:α}:a=a:=rfl
open Go Go.RowKit
open List hiding get
abbrev BZ:=List (Nat×Value)
def get:BZ→Nat→Option Value
 |[],_=>none
 |(j,v)::E,i=>match Nat.beq j i with
  |true=>some v
  |false=>get E i
theorem CG (d:Nat) (v:Value) (E:BZ):get ((d,v)::E) d=some v:=by simp [get]
theorem CX {d i:Nat} (v:Value) (E:BZ) (h:d≠i):get ((d,v)::E) i=get E i:=by
 have:Nat.beq d i=false:=by
  cases hb:Nat.beq d i with
  |false=>rfl
  |true=>exact absurd (Nat.eq_of_beq_eq_true hb) h
 simp [get,this]
structure BR (n:Nat) (E:BZ) (a:Act):Prop where
 dfr:a.defers=[]
 size:a.tmps.size=n
 has:∀i v,get E i=some v→a.tmps[i]? =some v
def ev (E:BZ):Operand→Option Value
 | .tmp t=>get E t
 | .const v=>some v
 | .global g=>some (.pointer (some ⟨g,0,none⟩))
 | .func f=>some (.func (.func f) #[] #[])
theorem BR.ev {n:Nat} {E:BZ} {a:Act} (h:BR n E a) {x:Operand} {v:Value} (b:ev E x=some v):a.eval x=v:=by
 cases x<;>simp [Dd.ev,Act.eval] at*
 ·have:=h.has _ _ b
  simp [this]
 ·exact b
 ·exact b
 ·exact b
theorem BR.put {n:Nat} {E:BZ} {a:Act} (h:BR n E a) {d:Nat} (v:Value) (e:Nat.blt d n=true):BR n ((d,v)::E) (a.put (some d) v):=by
 have c:d<n:=by simpa [Nat.blt_eq] using e
 refine ⟨h.dfr,by simp [Act.put,h.size],fun i u b=> ?_⟩
 simp only [Act.put,Array.getElem?_setIfInBounds,h.size]
 by_cases hi:d=i
 ·subst hi
  rw [CG] at b
  simpa [c] using b
 ·rw [CX v E hi] at b
  simp [hi,h.has i u b]
theorem BR.put_none {n:Nat} {E:BZ} {a:Act} (h:BR n E a) (v:Value):BR n E (a.put none v):=h
def MP (E:BZ):BZ→Prop
 |[]=>True
 |(j,v)::F=>get E j=some v∧MP E F
theorem MP.get {E:BZ}:∀{F:BZ},MP E F→∀i v,get F i=some v→Dd.get E i=some v
 |[],_,i,v,h=>by simp [Dd.get] at h
 |(j,u)::F,hs,i,v,h=>by
  simp only [Dd.get] at h
  split at h
  ·rename_i a
   have:j=i:=Nat.eq_of_beq_eq_true a
   subst this
   simp only [Option.some.injEq] at h
   subst h
   exact hs.1
  ·exact MP.get hs.2 i v h
theorem BR.sub {n:Nat} {E F:BZ} {a:Act} (h:BR n E a) (hs:MP E F):BR n F a:=⟨h.dfr,h.size,fun i v b=>h.has i v (hs.get i v b)⟩
abbrev BN:=Exit→Act→World→Prop
def Cw (P:Program) (Q:BN) (n:Nat) (c:Code) (E:BZ) (w:World):Prop:=∀a,BR n E a→c.wp P Q a w
def Pw (n:Nat) (E:BZ) (R:Act→World→Prop) (w:World):Prop:=∀a,BR n E a→R a w
def Lw (P:Program) (l0:List Oper) (Q:BN) (n:Nat) (l:List Oper) (E:BZ) (w:World):Prop:=∀a,BR n E a→wpList P l0.toArray Q l a w
abbrev CI (K:Act→World→Prop) (Q:BN):BN:=fun e a w=>match e with
 | .normal=>K a w
 |e=>Q e a w
abbrev IC (id:Nat) (Q:BN):BN:=fun e a w=>match e with
 | .exit id' =>if id' =id then Q .normal a w else Q (.exit id') a w
 |e=>Q e a w
section
variable {P : Program} {Q : BN} {n : Nat} {E : BZ} {w : World}
theorem Js (K:Act→World→Prop) (Q:BN):CI K Q=Exit.then K Q:=by
 funext e a w;cases e<;>rfl
theorem Mz (b:Nat) (Q:BN):IC b Q=Exit.inBlock b Q:=by
 funext e a w;cases e<;>rfl
theorem Aq {x y:Code} (h:Cw P (CI (fun a w=>y.wp P Q a w) Q) n x E w):Cw P Q n (.seq x y) E w:=fun a b=>wp_seq (by have:=h a b;rwa [Js] at this)
theorem Ar {b:Nat} {c:Code} (h:Cw P (IC b Q) n c E w):Cw P Q n (.block b c) E w:=fun a d=>wp_block (by have:=h a d;rwa [Mz] at this)
theorem Ca (h:Pw n E (Q .normal) w):Cw P Q n .skip E w:=fun a b=>wp_skip (h a b)
theorem Bn {b:Nat} (h:Pw n E (Q (.exit b)) w):Cw P Q n (.exit b) E w:=fun a c=>wp_exit (h a c)
theorem Ea (h:Pw n E (Q .ret) w):Cw P Q n .ret E w:=fun a b=>wp_ret (h a b)
theorem Ao {c:Operand} {x y:Code} {t:Bool} (f:ev E c=some (.bool t)) (e:t=true→Cw P Q n x E w) (d:t=false→Cw P Q n y E w):Cw P Q n (.cond c x y) E w:=
 fun a b=>wp_cond_split (b.ev f) (fun h=>e h a b) (fun h=>d h a b)
theorem B3 {c:Operand} {x y:Code} (d:ev E c=some (.bool true)) (e:Cw P Q n x E w):Cw P Q n (.cond c x y) E w:=fun a b=>wp_cond_true (b.ev d) (e a b)
theorem D5 {c:Operand} {x y:Code} (d:ev E c=some (.bool false)) (e:Cw P Q n y E w):Cw P Q n (.cond c x y) E w:=fun a b=>wp_cond_false (b.ev d) (e a b)
theorem Bv {c:Operand} {x y:Code} {t:Bool} (f:ev E c=some (.bool t)) (b:Bool) (e:t=b) (h:Cw P Q n (if b then x else y) E w):Cw P Q n (.cond c x y) E w:=
 fun a d=>wp_cond (d.ev f) (by rw [e];exact h a d)
theorem Bh {b:Nat} {l:List Oper} (h:Lw P l Q n l E w):Cw P Q n (.region b l.toArray false) E w:=fun a c=>wp_region_lit (h a c)
theorem Cw.sub {c:Code} {F:BZ} (hs:MP E F) (h:Cw P Q n c F w):Cw P Q n c E w:=fun a b=>h a (b.sub hs)
theorem Ee {c:Code} (d:Nat) {v v' :Value} (f:get E d=some v) (g:v=v') (h:Cw P Q n c ((d,v')::E) w):Cw P Q n c E w:=fun a b=>h a<|by
 subst g
 refine ⟨b.dfr,b.size,fun i u e=> ?_⟩
 by_cases hi:d=i
 ·subst hi;rw [CG] at e;exact b.has _ _ (f.trans e)
 ·rw [CX _ _ hi] at e;exact b.has _ _ e
theorem B8 {c:Code} (h:Cw P Q n c E w):Pw n E (fun a w=>c.wp P Q a w) w:=h
theorem Be {c:List Oper} (h:Pw n E (Q .normal) w):Lw P c Q n [] E w:=fun a b=>wpList_nil (h a b)
theorem Av {K:Act→World→Prop} (h:Pw n E K w):Pw n E (CI K Q .normal) w:=h
theorem Ap {K:Act→World→Prop} (h:Pw n E (Q .ret) w):Pw n E (CI K Q .ret) w:=h
theorem Al {K:Act→World→Prop} {a:Nat} (h:Pw n E (Q (.exit a)) w):Pw n E (CI K Q (.exit a)) w:=h
theorem Bi {a:Nat} (h:Pw n E (Q .normal) w):Pw n E (IC a Q .normal) w:=h
theorem Ba {a:Nat} (h:Pw n E (Q .ret) w):Pw n E (IC a Q .ret) w:=h
theorem Bc {b:Nat} (h:Pw n E (Q .normal) w):Pw n E (IC b Q (.exit b)) w:=fun a c=>by
 show if b=b then Q .normal a w else Q (.exit b) a w
 rw [if_pos rfl];exact h a c
theorem Pw.blkE {d b:Nat} (e:Nat.beq b d=false) (h:Pw n E (Q (.exit b)) w):Pw n E (IC d Q (.exit b)) w:=fun a f=>by
 have c:b≠d:=Nat.ne_of_beq_eq_false e
 show if b=d then Q .normal a w else Q (.exit b) a w
 rw [if_neg c];exact h a f
theorem Bo {S:Type} (h:S→BZ) (I:S→World→Prop) (m:S→Nat) {c:Code} (v:S) (J:MP E (h v)) (F:I v w)
  (l:∀s w,I s w→Cw P (CI (fun g w' =>∃f,BR n (h f) g∧I f w' ∧m f<m s) Q) n c (h s) w):Cw P Q n (.loop c) E w:=by
 intro a R
 have key:∀k s a w,m s=k→BR n (h s) a→I s w→(Code.loop c).wp P Q a w:=by
  intro k s a w Y r K
  refine wp_loop (fun g w' =>∃f,BR n (h f) g∧I f w') (fun g w' =>Classical.epsilon fun k=>∃f,BR n (h f) g∧I f w' ∧m f=k∧∀d,BR n (h d) g→I d w' →k≤m d) ⟨s,r,K⟩ ?_
  have i:∀g w',(∃f,BR n (h f) g∧I f w')→∃k,∃f,BR n (h f) g∧I f w' ∧m f=k∧∀d,BR n (h d) g→I d w' →k≤m d:=by
   intro g w' ⟨f,q,p⟩
   have:∀b f,BR n (h f) g→I f w' →m f≤b→∃k,∃f,BR n (h f) g∧I f w' ∧m f=k∧∀d,BR n (h d) g→I d w' →k≤m d:=by
    intro b
    induction b with
    |zero=>intro f q p N;exact ⟨m f,f,q,p,rfl,fun d _ _=>by omega⟩
    |succ b ih=>
     intro f q p N
     by_cases hex:∃d,BR n (h d) g∧I d w' ∧m d≤b
     ·obtain ⟨d,j,o,A⟩:=hex;exact ih d j o A
     ·refine ⟨m f,f,q,p,rfl,fun d j o=> ?_⟩
      rcases Nat.lt_or_ge (m d) (m f) with D|t
      ·exact absurd ⟨d,j,o,by omega⟩ hex
      ·exact t
   exact this (m f) f q p (Nat.le_refl _)
  intro C y x
  obtain ⟨M,L,H,V,Z⟩:=Classical.epsilon_spec (i C y x)
  have B:=l M y H C L
  rw [Js] at B
  refine Code.wp_mono (fun e T U z=> ?_) B
  cases e with
  |normal=>
   obtain ⟨u,j,o,A⟩:=z
   refine ⟨⟨u,j,o⟩, ?_⟩
   obtain ⟨s3,X,r2,W,G⟩:=Classical.epsilon_spec (i T U ⟨u,j,o⟩)
   have:=G u j o
   rw [← V]
   omega
  |_=>exact z
 exact key _ v a w rfl (R.sub J) F
theorem Bw {S:Type} {b:S→BZ} {I:S→World→Prop} {m:S→Nat} {k:Nat} (a:S) (c:MP E (b a)) (e:I a w) (d:m a<k):Pw n E (fun g w' =>∃a,BR n (b a) g∧I a w' ∧m a<k) w:=
 fun _ f=>⟨a,f.sub c,e,d⟩
def AJ (P:Program) (f:FuncId) (args:List Value) (w:World) (R:Value→World→Prop):Prop:=
 (∃ fn, P.funcs[f]? = some fn ∧ (fn.name == "runtime.NumGoroutine") = false ∧ fn.body.isSome = true) ∧ Calls P f args.toArray w (fun e w' => ∃ v, e = .returned v ∧ R v w')
def RM (P:Program) (fn:Func) (R:Value→World→Prop):BN:=bodyPost P fn (fun e w' =>∃v,e= .returned v∧R v w')
theorem AJ.mono {f:FuncId} {args:List Value} {R a:Value→World→Prop} (h:AJ P f args w R) (d:∀v w',R v w' →a v w'):AJ P f args w a:=
 ⟨h.1,h.2.mono fun _ _ ⟨v,c,b⟩=>⟨v,c,d _ _ b⟩⟩
def params:Nat→List Value→BZ
 |_,[]=>[]
 |k,v::l=>(k,v)::params (k+1) l
theorem EO:∀(l:List Value) (k i:Nat) (v:Value),get (params k l) i=some v→k≤i∧l[i - k]? =some v
 |[],_,_,_,h=>by simp [params,Dd.get] at h
 |x::l,k,i,v,h=>by
  simp only [params,Dd.get] at h
  split at h
  ·rename_i b
   have:k=i:=Nat.eq_of_beq_eq_true b
   subst this
   simpa using h
  ·have:=EO l (k+1) i v h
   refine ⟨by omega, ?_⟩
   have a:i - k=(i - (k+1))+1:=by omega
   rw [a];simpa using this.2
theorem AJ.enter {f : FuncId} {b : Func} {c : Code} {args : List Value} {R : Value → World → Prop} (g : P.funcs[f]? = some b) (a : (b.name == "runtime.NumGoroutine") = false) (j : b.body = some c)
  (m:b.ntmps=n) (l:Nat.ble args.length n=true) (h:Cw P (RM P b R) n c (params 0 args) w):AJ P f args w R:=by
 refine ⟨⟨b,g,a,by simp [j]⟩,calls_of_wp g j (h _ ⟨rfl, ?_,fun i v k=> ?_⟩)⟩
 ·have:args.length≤n:=Nat.le_of_ble_eq_true l
  simp [m];omega
 ·have e:=(EO args 0 i v k).2
  simp only [Nat.sub_zero] at e
  have d:i<args.length:=by
   rcases Nat.lt_or_ge i args.length with h|h
   ·exact h
   ·simp [getElem?_eq_none h] at e
  rw [Array.getElem?_append]
  simp only [size_toArray,d,if_true,getElem?_toArray]
  exact e
theorem Ax {c:Func} {R:Value→World→Prop} {t:Nat} {v:Value} (e:c.results= #[.tmp t]) (d:get E t=some v) (h:R v w):Pw n E (RM P c R .ret) w:=fun a b=>
 bodyPost_ret (v:=v) (by rw [results_tmp e];simp [Array.getD_eq_getD_getElem?,b.has _ _ d]) b.dfr ⟨v,rfl,h⟩
theorem Cs {a:Func} {R:Value→World→Prop} (c:a.results= #[]) (h:R (.tuple #[]) w):Pw n E (RM P a R .normal) w:=fun _ b=>
 bodyPost_end (v:= .tuple #[]) (by rw [results_none c]) b.dfr ⟨_,rfl,h⟩
theorem Bp {c:Func} {R:Value→World→Prop} {t u:Nat} {v x:Value} (e:c.results= #[.tmp t, .tmp u]) (d:get E t=some v) (f:get E u=some x) (h:R (.tuple #[v,x]) w):Pw n E (RM P c R .ret) w:=fun a b=>
 bodyPost_ret (v:= .tuple #[v,x]) (by rw [results_tmp2 e];simp [Array.getD_eq_getD_getElem?,b.has _ _ d,b.has _ _ f]) b.dfr ⟨_,rfl,h⟩
end
theorem AC {p:Prop} [Decidable p] (h:decide p=true):p:=of_decide_eq_true h
theorem AB {p:Prop} [Decidable p] (h:decide p=false):¬p:=of_decide_eq_false h
theorem cngA.{u,v} {α:Sort u} {β:Sort v} {a b:α} (f:α→β) (h:a=b):f a=f b:=congrArg f h
theorem AX (n:Nat):n≤n:=Nat.le_refl n
section
variable {P : Program}
theorem Bd {n : Nat} {f : FuncId} {b : Func} {c : Code} {args : List Value} {R : Value → World → Prop} {w : World} (e : P.funcs[f]? = some b) (d : (b.body, b.ntmps, Nat.ble args.length n) = (some c, n, true)) (h : Cw P (RM P b R) n c (params 0 args) w) (a : (b.name == "runtime.NumGoroutine") = false := by kernel_rfl) : AJ P f args w R :=
  AJ.enter e a (congrArg (·.1) d) (congrArg (·.2.1) d) (congrArg (·.2.2) d) h
end
end Go.Dd

namespace Go.Dd
open Go Go.RowKit
open List hiding get
abbrev b8 (x:BitVec 8):Value:= .int .u8 (x.toNat:Int)
abbrev u32 (x:BitVec 32):Value:= .int .u32 (x.toNat:Int)
abbrev u64 (x:BitVec 64):Value:= .int .u64 (x.toNat:Int)
abbrev i32 (x:BitVec 32):Value:= .int .i32 x.toInt
def Ex (P:Program) (n:Nat) (E:BZ) (op:Op) (ty:TypeId) (w:World) (v:Value):Prop:=
 ∀a,BR n E a→∀d pos af g,(execOp a.eval ⟨d,op,ty,pos,af,g⟩).run P w= .ok (.value v) w
def Xw (P:Program) (n:Nat) (E:BZ) (op:Op) (ty:TypeId) (w:World) (R:Value→World→Prop):Prop:=
 ∀a,BR n E a→∃v w',(∀d pos af g,(execOp a.eval ⟨d,op,ty,pos,af,g⟩).run P w= .ok (.value v) w')∧R v w'
def Xu (P:Program) (n:Nat) (E:BZ) (op:Op) (ty:TypeId) (w:World) (R:World→Prop):Prop:=
 ∀a,BR n E a→∃w',(∀d pos af g,(execOp a.eval ⟨d,op,ty,pos,af,g⟩).run P w= .ok .skip w')∧R w'
def Xc (P:Program) (n:Nat) (E:BZ) (op:Op) (ty:TypeId) (w:World) (f:FuncId) (args:List Value):Prop:=
 ∀a,BR n E a→∀d pos af g,(execOp a.eval ⟨d,op,ty,pos,af,g⟩).run P w= .ok (.enter f args.toArray) w
def DI:List Oper→Nat→Option Oper
 |[],_=>none
 |o::_,0=>some o
 |_::l,k+1=>DI l k
theorem CO:∀(l:List Oper) (k:Nat),l[k]? =DI l k
 |[],_=>by simp [DI]
 |_::_,0=>by simp [DI]
 |_::l,k+1=>by simpa [DI] using CO l k
section
variable {P : Program} {Q : BN} {n : Nat} {E : BZ} {w : World} {l0 rest : List Oper} {ty : TypeId} {pos : String} {af : Array Edge}
theorem Aa {d:Nat} {b:Op} {v:Value} (h:Ex P n E b ty w v) (f:Nat.blt d n=true) (k:Lw P l0 Q n rest ((d,v)::E) w):Lw P l0 Q n (⟨some d,b,ty,pos,af,none⟩::rest) E w:=
 fun a e=>wpList_plain rfl fun K g=>by
  unfold Oper.wp;rw [h a e];exact g _ _ (k _ (e.put v f))
theorem Bq {d:Nat} {b:Op} {R:Value→World→Prop} (h:Xw P n E b ty w R) (f:Nat.blt d n=true) (k:∀v w',R v w' →Lw P l0 Q n rest ((d,v)::E) w'):Lw P l0 Q n (⟨some d,b,ty,pos,af,none⟩::rest) E w:=
 fun a e=>wpList_plain rfl fun K j=>by
  obtain ⟨v,w',i,g⟩:=h a e
  unfold Oper.wp;rw [i];exact j _ _ (k v w' g _ (e.put v f))
theorem Br {b:Op} {R:World→Prop} (h:Xu P n E b ty w R) (k:∀w',R w' →Lw P l0 Q n rest E w'):Lw P l0 Q n (⟨none,b,ty,pos,af,none⟩::rest) E w:=
 fun a e=>wpList_plain rfl fun K i=>by
  obtain ⟨w',g,f⟩:=h a e
  unfold Oper.wp;rw [g];exact i _ _ (k w' f _ (e.put_none _))
theorem Lw.call {d:Nat} {b:Op} {f:FuncId} {args:List Value} {R:Value→World→Prop} (h:Xc P n E b ty w f args) (i:Nat.blt d n=true) (j:AJ P f args w R)
  (k:∀v w',R v w' →Lw P l0 Q n rest ((d,v)::E) w'):Lw P l0 Q n (⟨some d,b,ty,pos,af,none⟩::rest) E w:=
 fun a g=>wpList_plain rfl fun K A=>by
  unfold Oper.wp;rw [h a g]
  exact j.2.mono fun e w' ⟨v,o,r⟩=>by subst o;exact A _ _ (k v w' r _ (g.put v i))
theorem Cm {l:List Oper} (d:Nat) {v v' :Value} (f:get E d=some v) (g:v=v') (h:Lw P l0 Q n l ((d,v')::E) w):Lw P l0 Q n l E w:=fun a b=>h a<|by
 subst g
 refine ⟨b.dfr,b.size,fun i u e=> ?_⟩
 by_cases hi:d=i
 ·subst hi;rw [CG] at e;exact b.has _ _ (f.trans e)
 ·rw [CX _ _ hi] at e;exact b.has _ _ e
theorem Lw.sub {l:List Oper} {F:BZ} (hs:MP E F) (h:Lw P l0 Q n l F w):Lw P l0 Q n l E w:=fun a b=>h a (b.sub hs)
theorem Bx {l:List Oper} (d:Nat) {g:Bool} (b:get E d=some (.bool g)) (a:g=true→Lw P l0 Q n l ((d, .bool true)::E) w) (e:g=false→Lw P l0 Q n l ((d, .bool false)::E) w):Lw P l0 Q n l E w:=by
 cases g with
 |true=>exact Cm d b rfl (a rfl)
 |false=>exact Cm d b rfl (e rfl)
theorem GS {a:Act} (e:BR n E a) {j dj:Nat} {g:Bool} (f:(DI l0 j).bind (·.dst)=some dj) (b:get E dj=some (.bool g)):yielded l0.toArray a.tmps j=some g:=by
 unfold yielded
 rw [getElem?_toArray,CO,f]
 simp [e.has _ _ b]
theorem Af {d:Option Tmp} {e:Op} {j dj:Nat} {g:Bool} (i:(DI l0 j).bind (·.dst)=some dj) (o:get E dj=some (.bool g))
  (h:Lw P l0 Q n (⟨d,e,ty,pos,af,none⟩::rest) E w):Lw P l0 Q n (⟨d,e,ty,pos,af,some (j,g)⟩::rest) E w:=fun a f=>by
 have b:=h a f
 unfold wpList at b ⊢
 rw [if_pos (by simp [Region.wanted])] at b
 rw [if_pos (by simp [Region.wanted,GS f i o])]
 exact b
theorem Ae {d:Nat} {i:Op} {j dj:Nat} {g b:Bool} (o:(DI l0 j).bind (·.dst)=some dj) (A:get E dj=some (.bool b)) (r:(g==b)=false) (f:Nat.blt d n=true)
  (h:Lw P l0 Q n rest ((d,undef)::E) w):Lw P l0 Q n (⟨some d,i,ty,pos,af,some (j,g)⟩::rest) E w:=fun a e=>by
 unfold wpList
 rw [if_neg]
 ·exact h _ (e.put _ f)
 ·simp only [Region.wanted,GS e o A]
  cases g<;>cases b<;>simp_all
section
variable {x y z : Operand} {v u : Value} {t s : TypeId}
theorem Cb (e:ev E x=some v):Ex P n E (.move x) ty w v:=fun a b _ _ _ _=>by simp [execOp,b.ev e]
theorem Cq (e:ev E x=some v):Ex P n E (.assign x) ty w v:=fun a b _ _ _ _=>by simp [execOp,b.ev e]
theorem Ex.as {a:Op} (h:Ex P n E a ty w v) (e:v=u):Ex P n E a ty w u:=e ▸ h
theorem Cy (e:ev E x=some (.bool true)) (f:ev E y=some v):Ex P n E (.pick x y z) ty w v:=fun a b _ _ _ _=>by simp [execOp,b.ev e,b.ev f,asBool]
theorem Cx (e:ev E x=some (.bool false)) (f:ev E z=some v):Ex P n E (.pick x y z) ty w v:=fun a b _ _ _ _=>by simp [execOp,b.ev e,b.ev f,asBool]
theorem Bb {b:Addr} (f:ev E x=some (.pointer (some b))):Ex P n E (.nilCheck x) ty w (.pointer (some b)):=fun a e _ _ _ _=>by simp [execOp,e.ev f]
theorem Pt {a:BinOp} {k:IntKind} {m:Int}:eqGuard a t x y (.int k m) u=pure ():=by cases a<;>rfl
section ints
variable {k : IntKind} {m q : Int}
theorem Ek {b:BinOp} {r:Value} (g:ev E x=some (.int k m)) (f:ev E y=some u) (h:(binOp b t (.int k m) u).run P w= .ok r w):Ex P n E (.binOp b t x y s) ty w r:=fun a e _ _ _ _=>by
 simp only [execOp,e.ev g,e.ev f,Pt]
 simp [h]
theorem Ex.add (b:ev E x=some (.int k m)) (a:ev E y=some (.int k q)):Ex P n E (.binOp .add t x y s) ty w (.int k (k.wrap (m+q))):=Ek b a (by simp [go_sem,Op.intArith])
theorem Ex.subt (b:ev E x=some (.int k m)) (a:ev E y=some (.int k q)):Ex P n E (.binOp .sub t x y s) ty w (.int k (k.wrap (m - q))):=Ek b a (by simp [go_sem,Op.intArith])
theorem Ex.mul (b:ev E x=some (.int k m)) (a:ev E y=some (.int k q)):Ex P n E (.binOp .mul t x y s) ty w (.int k (k.wrap (m*q))):=Ek b a (by simp [go_sem,Op.intArith])
theorem Dx (b:ev E x=some (.int .i64 m)) (a:ev E y=some (.int .i64 q)) (h: -9223372036854775808≤m+q∧m+q≤9223372036854775807):Ex P n E (.binOp .add t x y s) ty w (.int .i64 (m+q)):=by
 have:=Ex.add (P:=P) (n:=n) (w:=w) (ty:=ty) (t:=t) (s:=s) b a;rwa [IntWalk.i64_in _ h] at this
theorem Ec (b:ev E x=some (.int .i64 m)) (a:ev E y=some (.int .i64 q)) (h: -9223372036854775808≤m - q∧m - q≤9223372036854775807):Ex P n E (.binOp .sub t x y s) ty w (.int .i64 (m - q)):=by
 have:=Ex.subt (P:=P) (n:=n) (w:=w) (ty:=ty) (t:=t) (s:=s) b a;rwa [IntWalk.i64_in _ h] at this
theorem D8 (b:ev E x=some (.int .i64 m)) (a:ev E y=some (.int .i64 q)) (h: -9223372036854775808≤m*q∧m*q≤9223372036854775807):Ex P n E (.binOp .mul t x y s) ty w (.int .i64 (m*q)):=by
 have:=Ex.mul (P:=P) (n:=n) (w:=w) (ty:=ty) (t:=t) (s:=s) b a;rwa [IntWalk.i64_in _ h] at this
theorem Ez (f:ev E x=some (.int .i64 m)) (e:ev E y=some (.int .i64 q)) (a:0≤m∧m≤9223372036854775807) (b:1≤q):Ex P n E (.binOp .quo t x y s) ty w (.int .i64 (m / q)):=Ek f e (by
 have:¬q=0:=by omega
 simp [go_sem,Op.intDiv,this,IntWalk.i64_quo m q ⟨a.1,a.2,b⟩])
theorem F0 (f:ev E x=some (.int .i64 m)) (b:ev E y=some (.int .i64 q)) (e:0≤m) (a:q≠0):Ex P n E (.binOp .rem t x y s) ty w (.int .i64 (m % q)):=Ek f b (by
 simp [go_sem,Op.intDiv,a,IntWalk.rem_in m q e])
theorem Ep (b:ev E x=some (.int k m)) (a:ev E y=some (.int k q)):Ex P n E (.binOp .lss t x y s) ty w (.bool (decide (m<q))):=Ek b a (by simp [go_sem])
theorem Ej (b:ev E x=some (.int k m)) (a:ev E y=some (.int k q)):Ex P n E (.binOp .leq t x y s) ty w (.bool (decide (m≤q))):=Ek b a (by simp [go_sem])
theorem Da (b:ev E x=some (.int k m)) (a:ev E y=some (.int k q)):Ex P n E (.binOp .gtr t x y s) ty w (.bool (decide (q<m))):=Ek b a (by simp [go_sem])
theorem D9 (b:ev E x=some (.int k m)) (a:ev E y=some (.int k q)):Ex P n E (.binOp .geq t x y s) ty w (.bool (decide (q≤m))):=Ek b a (by simp [go_sem])
theorem OI (m q:Int):(m==q)=decide (m=q):=by by_cases h:m=q<;>simp [h]
theorem Cl (b:ev E x=some (.int k m)) (a:ev E y=some (.int k q)):Ex P n E (.binOp .eql t x y s) ty w (.bool (decide (m=q))):=Ek b a (by rw [binOp_eql,OI];rfl)
theorem Cn (b:ev E x=some (.int k m)) (a:ev E y=some (.int k q)):Ex P n E (.binOp .neq t x y s) ty w (.bool (!decide (m=q))):=Ek b a (by rw [binOp_neq,bne,OI];rfl)
theorem F5 {m:Int} (hs:(P.underlying s).isSome=true) (e:P.underlying t=some (.int k)) {g:IntKind} (h:ev E x=some (.int g m)):Ex P n E (.convert s t x) ty w (.int k (k.wrap m)):=fun a f _ _ _ _=>by
 obtain ⟨d,b⟩:=Option.isSome_iff_exists.mp hs
 simp [execOp,f.ev h,convert,run_underlying b,run_underlying e,Conv.intToInt]
theorem E0 {m:Int} (hs:(P.underlying s).isSome=true) (a:P.underlying t=some (.int .i64)) {b:IntKind} (e:ev E x=some (.int b m)) (h: -9223372036854775808≤m∧m≤9223372036854775807):Ex P n E (.convert s t x) ty w (.int .i64 m):=by
 have:=F5 (P:=P) (n:=n) (w:=w) (ty:=ty) hs a e;rwa [IntWalk.i64_in _ h] at this
theorem Ex.min2 (g:ev E x=some (.int k m)) (f:ev E y=some (.int k q)) {e:Array TypeId}:Ex P n E (.call {callee:= .builtin .min,args:= #[x,y],argTypes:=e}) ty w (.int k (if q<m then q else m)):=fun a b _ _ _ _=>by
 simp [execOp,resolve,invoke,builtin,b.ev g,b.ev f,Builtin.min_,Builtin.min2]
end ints
theorem LH (n:Int):IntKind.i32.wrap n=(BitVec.ofInt 32 n).toInt:=by
 rw [BitVec.toInt_ofInt,IntKind.wrap_i32,Int.bmod_def]
 omega
theorem LG (n:Int):IntKind.u8.wrap n=((BitVec.ofInt 8 n).toNat:Int):=by
 rw [BitVec.toNat_ofInt,IntKind.wrap_u8];omega
section u32
variable {p q : BitVec 32}
end u32
section b8
variable {p q : BitVec 8}
theorem SZ:((p.toNat:Int)=(q.toNat:Int))↔p=q:=by
 constructor
 ·intro h;exact BitVec.eq_of_toNat_eq (by omega)
 ·intro h;rw [h]
theorem B0 (b:ev E x=some (b8 p)) (a:ev E y=some (b8 q)):Ex P n E (.binOp .eql t x y s) ty w (.bool (decide (p=q))):=by
 have:=Cl (P:=P) (n:=n) (w:=w) (ty:=ty) (t:=t) (s:=s) b a;simp only [SZ] at this;exact this
theorem F1 (b:ev E x=some (b8 p)) (a:ev E y=some (b8 q)):Ex P n E (.binOp .neq t x y s) ty w (.bool (!decide (p=q))):=by
 have:=Cn (P:=P) (n:=n) (w:=w) (ty:=ty) (t:=t) (s:=s) b a;simp only [SZ] at this;exact this
end b8
section i32
variable {p q : BitVec 32}
theorem TY:(p.toInt=q.toInt)↔p=q:=BitVec.toInt_inj
theorem Ex.eqli32 (b:ev E x=some (i32 p)) (a:ev E y=some (i32 q)):Ex P n E (.binOp .eql t x y s) ty w (.bool (decide (p=q))):=by
 have:=Cl (P:=P) (n:=n) (w:=w) (ty:=ty) (t:=t) (s:=s) b a;simp only [TY] at this;exact this
end i32
theorem F6 {b:IntKind} {m:Int} (hs:(P.underlying s).isSome=true) (a:P.underlying t=some (.int .u8)) (e:ev E x=some (.int b m)):Ex P n E (.convert s t x) ty w (b8 (BitVec.ofInt 8 m)):=by
 have:=F5 (P:=P) (n:=n) (w:=w) (ty:=ty) hs a e;rwa [LG] at this
theorem F4 {b:IntKind} {m:Int} (hs:(P.underlying s).isSome=true) (a:P.underlying t=some (.int .i32)) (e:ev E x=some (.int b m)):Ex P n E (.convert s t x) ty w (i32 (BitVec.ofInt 32 m)):=by
 have:=F5 (P:=P) (n:=n) (w:=w) (ty:=ty) hs a e;rwa [LH] at this
theorem Em {m:Int} {t:TypeId} (e:ev E x=some (.int .i64 m)) (h: -9223372036854775807≤m∧m≤9223372036854775807):Ex P n E (.unOp .neg t x) ty w (.int .i64 (-m)):=fun a b _ _ _ _=>by
 have:IntKind.i64.wrap (-m)= -m:=IntWalk.i64_in _ (by omega)
 simp [execOp,b.ev e,Op.unary,Op.intArith,this]
theorem Co {b:Bool} {t:TypeId} (f:ev E x=some (.bool b)):Ex P n E (.unOp .not t x) ty w (.bool (!b)):=fun a e _ _ _ _=>by simp [execOp,e.ev f,Op.unary]
theorem Ex.extract {vs:List Value} {i:Nat} (e:ev E x=some (.tuple vs.toArray)) (f:vs[i]? =some v):Ex P n E (.extract x i) ty w v:=fun a b _ _ _ _=>by
 simp [execOp,b.ev e,Instr.extract,f]
theorem EH {f : FuncId} {args : Array Value} (b : ∃ a, P.funcs[f]? = some a ∧ (a.name == "runtime.NumGoroutine") = false ∧ a.body.isSome = true) : (callFunc f args).run P w = .ok (.enter f args) w := by
 obtain ⟨a,h,e,i⟩:=b
 have g:a.body.isNone=false:=by cases hb:a.body<;>simp_all
 unfold callFunc
 simp only [Sem.run_bind,program,Sem.run,Result.andThen_ok,h,e,g,Bool.false_eq_true,if_false]
 rfl
def evs (E:BZ):List Operand→Option (List Value)
 |[]=>some []
 |x::l=>match ev E x,evs E l with
  |some v,some vs=>some (v::vs)
  |_,_=>none
theorem BR.evs {a:Act} (h:BR n E a):∀{l:List Operand} {vs:List Value},evs E l=some vs→l.map a.eval=vs
 |[],vs,hl=>by simp [Dd.evs] at hl;simp [hl]
 |x::l,vs,hl=>by
  simp only [Dd.evs] at hl
  split at hl
  ·rename_i v us b e
   simp only [Option.some.injEq] at hl
   subst hl
   simp [h.ev b,BR.evs h e]
  ·simp at hl
theorem F2 {f:FuncId} {xs b:List Operand} {vs us:List Value} (j:Dd.evs E xs=some vs) (h:Dd.evs E b=some us):Ex P n E (.makeFunc (.func f) xs.toArray b.toArray) ty w (.func (.func f) vs.toArray us.toArray):=fun a e _ _ _ _=>by
 have i:xs.toArray.map a.eval=vs.toArray:=by rw [map_toArray,e.evs j]
 have g:b.toArray.map a.eval=us.toArray:=by rw [map_toArray,e.evs h]
 simp [execOp,i,g,Instr.makeFunc]
theorem Xc.mk {f : FuncId} {xs : List Operand} {vs : List Value} {h : Array TypeId} (g : ∃ e, P.funcs[f]? = some e ∧ (e.name == "runtime.NumGoroutine") = false ∧ e.body.isSome = true) (j : Dd.evs E xs = some vs) :
  Xc P n E (.call {callee:= .value (.func f),args:=xs.toArray,argTypes:=h}) ty w f vs:=fun a i _ _ _ _=>by
 have b:xs.toArray.map a.eval=vs.toArray:=by rw [map_toArray,i.evs j]
 simp [execOp,resolve,b,Act.eval,Deferred.ofValue,invoke,EH (P:=P) (w:=w) g]
theorem Xc.val {f : FuncId} {c : Operand} {p q : List Value} {xs : List Operand} {vs : List Value} {i : Array TypeId} (h : ∃ e, P.funcs[f]? = some e ∧ (e.name == "runtime.NumGoroutine") = false ∧ e.body.isSome = true)
  (j:ev E c=some (.func (.func f) p.toArray q.toArray)) (o:Dd.evs E xs=some vs):
  Xc P n E (.call {callee:= .value c,args:=xs.toArray,argTypes:=i}) ty w f (p++vs++q):=fun a g _ _ _ _=>by
 have b:xs.toArray.map a.eval=vs.toArray:=by rw [map_toArray,g.evs o]
 simp [execOp,resolve,b,g.ev j,Deferred.ofValue,invoke,EH (P:=P) (w:=w) h]
theorem An {d:Nat} {f:FuncId} {xs:List Operand} {vs:List Value} {e:Array TypeId} {R:Value→World→Prop} (g:evs E xs=some vs) (b:Nat.blt d n=true) (a:AJ P f vs w R)
  (k:∀v w',R v w' →Lw P l0 Q n rest ((d,v)::E) w'):Lw P l0 Q n (⟨some d, .call {callee:= .value (.func f),args:=xs.toArray,argTypes:=e},ty,pos,af,none⟩::rest) E w:=
 Lw.call (Xc.mk a.1 g) b a k
theorem Fj {d:Nat} {f:FuncId} {c:Operand} {p q:List Value} {xs:List Operand} {vs:List Value} {e:Array TypeId} {R:Value→World→Prop} (g:ev E c=some (.func (.func f) p.toArray q.toArray)) (h:evs E xs=some vs) (b:Nat.blt d n=true)
  (a:AJ P f (p++vs++q) w R) (k:∀v w',R v w' →Lw P l0 Q n rest ((d,v)::E) w'):Lw P l0 Q n (⟨some d, .call {callee:= .value c,args:=xs.toArray,argTypes:=e},ty,pos,af,none⟩::rest) E w:=
 Lw.call (Xc.val a.1 g h) b a k
end
end
section
variable {P : Program} {Q Q' : BN} {n : Nat} {E : BZ} {w : World} {l0 rest l : List Oper} {ty : TypeId} {pos : String} {af : Array Edge} {x : Operand} {v : Value} {d id : Nat} {c y : Code} {K : Act → World → Prop}
theorem Ad (h:(ev E x,Nat.blt d n)=(some v,true)) (k:Lw P l0 Q n rest ((d,v)::E) w):Lw P l0 Q n (⟨some d, .move x,ty,pos,af,none⟩::rest) E w:=Aa (Cb (congrArg Prod.fst h)) (congrArg Prod.snd h) k
theorem Ab (h:(ev E x,Nat.blt d n)=(some v,true)) (k:Lw P l0 Q n rest ((d,v)::E) w):Lw P l0 Q n (⟨some d, .assign x,ty,pos,af,none⟩::rest) E w:=Aa (Cq (congrArg Prod.fst h)) (congrArg Prod.snd h) k
theorem Aj (h:Cw P Q n c E w):Lw P l0 (CI (fun a w=>c.wp P Q a w) Q') n [] E w:=Be<|Av<|B8 h
theorem Ah (h:Lw P l (CI (fun a w=>y.wp P Q a w) Q) n l E w):Cw P Q n (.seq (.region id l.toArray false) y) E w:=Aq<|Bh h
theorem Ay (h:Pw n E (Q .ret) w):Lw P l0 (CI (fun a w=>Code.ret.wp P Q a w) Q') n [] E w:=Aj<|Ea h
theorem Bz (h:Pw n E (Q .ret) w):Lw P l0 (CI (fun a w=>Code.ret.wp P (CI K Q) a w) Q') n [] E w:=Aj<|Ea<|Ap h
theorem Bg (h:Lw P l (CI (fun a w=>y.wp P Q a w) Q) n l E w):Lw P l0 (CI (fun a w=>(Code.seq (.region id l.toArray false) y).wp P Q a w) Q') n [] E w:=Aj<|Ah h
theorem Bj {z:Code} (h:Lw P l (CI (fun a w=>y.wp P (CI (fun a w=>z.wp P Q a w) Q) a w) (CI (fun a w=>z.wp P Q a w) Q)) n l E w):Lw P l0 (CI (fun a w=>(Code.seq (.seq (.region id l.toArray false) y) z).wp P Q a w) Q') n [] E w:=Aj<|Aq<|Ah h
theorem B2 (h:Cw P Q n c E w):Cw P (CI (fun a w=>c.wp P Q a w) Q') n .skip E w:=Ca<|Av<|B8 h
theorem Cp (h:Lw P l (CI (fun a w=>y.wp P Q a w) Q) n l E w):Cw P (CI (fun a w=>(Code.seq (.region id l.toArray false) y).wp P Q a w) Q') n .skip E w:=B2<|Ah h
theorem Cd (h:Lw P l Q n l E w):Pw n E (CI (fun a w=>(Code.region id l.toArray false).wp P Q a w) Q' .normal) w:=Av<|B8<|Bh h
theorem Ci (h:Lw P l (CI (fun a w=>y.wp P Q a w) Q) n l E w):Pw n E (CI (fun a w=>(Code.seq (.region id l.toArray false) y).wp P Q a w) Q' .normal) w:=Av<|B8<|Ah h
theorem B1 {y:Operand} {t s:TypeId} {k:IntKind} {m q:Int} (h:(ev E x,ev E y,Nat.blt d n)=(some (.int k m),some (.int k q),true)) (a:Lw P l0 Q n rest ((d, .bool (decide (m<q)))::E) w):Lw P l0 Q n (⟨some d, .binOp .lss t x y s,ty,pos,af,none⟩::rest) E w:=Aa (Ep (congrArg (·.1) h) (congrArg (·.2.1) h)) (congrArg (·.2.2) h) a
theorem Bu {y z:Operand} (h:(ev E x,ev E y,Nat.blt d n)=(some (.bool true),some v,true)) (a:Lw P l0 Q n rest ((d,v)::E) w):Lw P l0 Q n (⟨some d, .pick x y z,ty,pos,af,none⟩::rest) E w:=Aa (Cy (congrArg (·.1) h) (congrArg (·.2.1) h)) (congrArg (·.2.2) h) a
theorem B4 {y z:Operand} (h:(ev E x,ev E z,Nat.blt d n)=(some (.bool false),some v,true)) (a:Lw P l0 Q n rest ((d,v)::E) w):Lw P l0 Q n (⟨some d, .pick x y z,ty,pos,af,none⟩::rest) E w:=Aa (Cx (congrArg (·.1) h) (congrArg (·.2.1) h)) (congrArg (·.2.2) h) a
theorem B9 {y:Operand} {t s:TypeId} {m q:Int} (h:(ev E x,ev E y,Nat.blt d n)=(some (.int .i64 m),some (.int .i64 q),true)) (b: -9223372036854775808≤m+q∧m+q≤9223372036854775807) (a:Lw P l0 Q n rest ((d, .int .i64 (m+q))::E) w):Lw P l0 Q n (⟨some d, .binOp .add t x y s,ty,pos,af,none⟩::rest) E w:=Aa (Dx (congrArg (·.1) h) (congrArg (·.2.1) h) b) (congrArg (·.2.2) h) a
end

def AN (w:World) (b:Nat) (T:TypeId) (cs:List Value):Prop:=w.heap[b]? =some (.cells cs.toArray T (0,0))
def FX (w:World) (ao:Option Addr) (ys:List Value):Prop:=∀a,ao=some a→∀j u,ys[j]? =some u→w.cell? (a.add j)=some u
structure Sl (w:World) (sz:Nat) (v:Value) (n:Nat) (xs:List Value):Prop where
 len:xs.length=n*sz
 ex:∃ao cap,v= .slice ao n cap∧n≤cap∧cap≤maxLen∧(ao=none→cap=0)∧FX w ao xs
def BW (v:Value) (j:Nat):Value:=match v with
 | .slice ao _ _=> .pointer (ao.map (·.add j))
 |_=>undef
def Us (v:Value) (n:Nat):Prop:=∃ao cap,v= .slice ao n cap∧n≤cap∧cap≤maxLen∧(ao=none→cap=0)
theorem Sl.shp {w:World} {sz:Nat} {v:Value} {n:Nat} {xs:List Value} (h:Sl w sz v n xs):Us v n:=by
 obtain ⟨_,a,cap,f,b,g,c,_⟩:=h
 exact ⟨a,cap,f,b,g,c⟩
abbrev CA {α:Type} (enc:α→Value) (w:World) (v:Value) (l:List α):Prop:=Sl w 1 v l.length (l.map enc)
theorem BL {w:World} {b:Nat} {T:TypeId} {cs:List Value} (h:AN w b T cs):b<w.heap.size:=(Array.getElem?_eq_some_iff.1 h).1
theorem SK (a:Addr) (i j:Nat):(a.add i).add j=if i+j=0 then a else {a with off:=a.off+(i+j),spot:=none}:=by
 unfold Addr.add
 by_cases hi:i=0
 ·subst hi;simp
 ·by_cases hj:j=0
  ·subst hj;simp [hi]
  ·have:¬(i+j=0):=by omega
   simp [hi,hj];omega
theorem IA (a:Addr) (i j:Nat):(a.add i).add j=a.add (i+j):=by rw [SK];rfl
theorem GP (a:Addr) (i:Nat):(a.add i).block=a.block:=by unfold Addr.add;split<;>rfl
theorem add_lit (b o i:Nat):(⟨b,o,none⟩:Addr).add i=⟨b,o+i,none⟩:=by unfold Addr.add;split<;>simp_all
theorem AN.cell {w:World} {b:Nat} {T:TypeId} {cs:List Value} (h:AN w b T cs) (o:Nat):w.cell? ⟨b,o,none⟩=cs[o]? :=by
 rw [cell_of_row w b o _ T (0,0) h];simp
theorem AN.keep {w w' :World} {b:Nat} {T:TypeId} {cs:List Value} (h:AN w b T cs) (k:w'.heap[b]? =w.heap[b]?):AN w' b T cs:=by unfold AN at*;rw [k];exact h
theorem AN.bl {w w' :World} {b B:Nat} {T:TypeId} {cs:List Value} (h:AN w b T cs) (c:Below B w w') (a:b<B):AN w' b T cs:=h.keep (c.block b a)
theorem AN.bs {w w' :World} {b:Nat} {T:TypeId} {cs:List Value} (h:AN w b T cs) (a:Below w.heap.size w w'):AN w' b T cs:=h.bl a (BL h)
theorem AN.by {w w' :World} {b:Nat} {T:TypeId} {cs:List Value} {r:Option Nat} (h:AN w b T cs) (c:w.grownBy w' r) (a:some b≠r):AN w' b T cs:=h.keep (c.block b (BL h) a)
theorem FX.keep {w w' :World} {c:Option Addr} {b:List Value} (h:FX w c b) (k:∀a,c=some a→b≠[]→w'.heap[a.block]? =w.heap[a.block]?):FX w' c b:=fun a g j u i=>by
 have f:b≠[]:=by intro m;subst m;simp at i
 have l:=h a g j u i
 have:w'.cell? (a.add j)=w.cell? (a.add j):=World.cell?_of_block (by rw [GP];exact k a g f)
 rw [this];exact l
theorem FX.lt {w:World} {a:Addr} {c:List Value} (h:FX w (some a) c) (b:c≠[]):a.block<w.heap.size:=by
 obtain ⟨u,c,rfl⟩:=exists_cons_of_ne_nil b
 have:=World.block_lt_of_cell? w (a.add 0) (h a rfl 0 u (by simp))
 rwa [GP] at this
theorem FX.bs {w w' :World} {f:Option Addr} {c:List Value} (h:FX w f c) (i:Below w.heap.size w w'):FX w' f c:=h.keep fun a g b=>by
 subst g;exact i.block _ (FX.lt h b)
theorem Sl.keep {w w' :World} {sz:Nat} {v:Value} {n:Nat} {xs:List Value} (h:Sl w sz v n xs) (k:∀b,b<w.heap.size→v.ownBlock=some b→w'.heap[b]? =w.heap[b]?):Sl w' sz v n xs:=by
 obtain ⟨m,g,cap,rfl,j,o,l,f⟩:=h
 refine ⟨m,g,cap,rfl,j,o,l,f.keep fun a i c=> ?_⟩
 subst i
 exact k _ (FX.lt f c) rfl
theorem Sl.bs {w w' :World} {sz:Nat} {v:Value} {n:Nat} {xs:List Value} (h:Sl w sz v n xs) (c:Below w.heap.size w w'):Sl w' sz v n xs:=h.keep fun b a _=>c.block b a
theorem Sl.by {w w' :World} {sz:Nat} {v:Value} {n:Nat} {xs:List Value} {r:Option Nat} (h:Sl w sz v n xs) (f:w.grownBy w' r) (c:v.ownBlock=none∨v.ownBlock≠r):Sl w' sz v n xs:=h.keep fun b a g=>f.block b a (by rcases c with h|h<;>simp_all)
theorem Sl.le {w:World} {sz:Nat} {v:Value} {n:Nat} {xs:List Value} (h:Sl w sz v n xs):n≤9223372036854775807:=by
 obtain ⟨_,b,cap,_,c,a,_⟩:=h
 unfold maxLen at a;omega
theorem Ch (w:World) (sz:Nat):Sl w sz (.slice none 0 0) 0 []:=⟨by simp,none,0,rfl,AX _,Nat.zero_le _,fun _=>rfl,fun a b=>by cases b⟩
theorem Sl.one {w:World} {sz:Nat} {v:Value} {n:Nat} {xs:List Value} (h:Sl w sz v n xs):v.cells=[v].toArray:=by
 obtain ⟨_,a,cap,rfl,_⟩:=h;rfl
theorem Sl.one' {w:World} {sz:Nat} {v:Value} {n:Nat} {xs:List Value} (h:Sl w sz v n xs):v.oneCell' =true:=by
 obtain ⟨_,a,cap,rfl,_⟩:=h;rfl
theorem AG {w:World} {base:Nat} {e:TypeId} {sz:Nat} {v:Value} {n:Nat} {xs:List Value} (h:w.ownsRow base e sz v n xs):Sl w sz v n xs:=by
 obtain ⟨k,o⟩:=h
 rcases o with ⟨rfl,rfl⟩|⟨g,cap,i,rfl,q,r,f,c,l,b⟩
 ·have:xs=[]:=eq_nil_of_length_eq_zero (by simpa using k)
  subst this;exact Ch w sz
 ·refine ⟨k,some ⟨g,0,none⟩,cap,rfl,f,c,(fun h=>by cases h),fun a m j u p=> ?_⟩
  simp only [Option.some.injEq] at m
  subst m
  exact World.ownsRow.cells ⟨k, .inr ⟨g,cap,i,rfl,q,r,f,c,l,b⟩⟩ (g:=g) rfl j u p
theorem AF {w:World} {base:Nat} {e:TypeId} {sz:Nat} {v:Value} {n:Nat} {xs:List Value} (h:w.ownsRow base e sz v n xs):∀b,v.ownBlock=some b→base≤b∧b<w.heap.size:=h.lt
theorem AH {w w' :World} {base:Nat} {e:TypeId} {sz:Nat} {v:Value} {n:Nat} {xs:List Value} (h:w.ownsRow base e sz v n xs) (a:Below w.heap.size w w'):w'.ownsRow base e sz v n xs:=
 h.kept (row:=none) ⟨a.os,a.tape,a.output,a.size,fun k b _=>a.block k b⟩ (by cases c:v.ownBlock<;>simp)
theorem _root_.Go.World.ownsRow.bs {w w' :World} {base:Nat} {e:TypeId} {sz:Nat} {v:Value} {n:Nat} {xs:List Value} (h:w.ownsRow base e sz v n xs) (a:Below w.heap.size w w'):w'.ownsRow base e sz v n xs:=AH h a
theorem _root_.Go.RowKit.Below.bs {a b c:World} (h:Below a.heap.size a b) (k:Below b.heap.size b c):Below a.heap.size a c:=h.trans (k.mono h.size)
theorem G8 {w w' :World} {r:Option Nat} (h:w.grownBy w' r) {B:Nat} (a:B≤w.heap.size) (b:∀k,r=some k→B≤k):Below B w w' :=(Below.refl B w).grown h a b
theorem BU {w w' :World} (a:Below w.heap.size w w') (r:Option Nat):w.grownBy w' r:=⟨a.os,a.tape,a.output,a.size,fun k b _=>a.block k b⟩
theorem BB {a b c:World} {r:Option Nat} (h:a.grownBy b r) (k:b.grownBy c r):a.grownBy c r:=
 ⟨k.os.trans h.os,k.tape.trans h.tape,k.output.trans h.output,Nat.le_trans h.size k.size,fun i g f=>(k.block i (Nat.lt_of_lt_of_le g h.size) f).trans (h.block i g f)⟩
theorem FQ (w:World) (r:Option Nat):w.grownBy w r:=⟨rfl,rfl,rfl,AX _,fun _ _ _=>rfl⟩
theorem AA {B:Nat} {w w' :World} (h:Below B w w'):w.heap.size≤w'.heap.size:=h.size
theorem DR (w:World) (o:Obj):Below w.heap.size w (w.alloc o):=(Below.refl _ _).alloc (AX _) o
theorem MN {B:Nat} {a b c:World} (h:Below B a b) (k:Below b.heap.size b c) (f:B≤a.heap.size):Below B a c:=h.trans (k.mono (Nat.le_trans f h.size))
theorem bt {a b c:World} (h:Below a.heap.size a b) (k:Below b.heap.size b c):Below a.heap.size a c:=MN h k (AX _)
structure FO (P:Program) (t e:TypeId) (sz:Nat):Prop where
 u:P.underlying t=some (.slice e)
 s:∀w,(sizeOf e).run P w= .ok sz w
structure He (P:Program) (e:TypeId) (z:List Value) (bytes:Nat):Prop where
 i:∃i,P.info? e=some i∧i.size=z.length∧i.bytes=bytes∧∃zv,i.zero=some zv∧zv.cells=z.toArray
section
variable {P : Program} {Q : BN} {n : Nat} {E : BZ} {w : World} {l0 rest : List Oper} {ty : TypeId} {pos : String} {af : Array Edge}
variable {x y z : Operand} {v u : Value} {t s e : TypeId} {sz : Nat}
theorem Au {k:Nat} {xs:List Value} (c:FO P t e sz) (f:ev E x=some v) (h:Sl w sz v k xs):Ex P n E (.call {callee:= .builtin .len,args:= #[x],argTypes:= #[t]}) ty w (.int .i64 (k:Int)):=fun a b _ _ _ _=>by
 obtain ⟨_,g,cap,rfl,_⟩:=h
 simp [execOp,resolve,invoke,builtin,b.ev f,Builtin.len_,run_underlying c.u,goInt]
theorem Ex.capS {b:Option Addr} {k cap:Nat} (f:FO P t e sz) (g:ev E x=some (.slice b k cap)):Ex P n E (.call {callee:= .builtin .cap,args:= #[x],argTypes:= #[t]}) ty w (.int .i64 (cap:Int)):=fun a c _ _ _ _=>by
 simp [execOp,resolve,invoke,builtin,c.ev g,Builtin.cap_,run_underlying f.u,goInt]
theorem Cu {k:IntKind} {m:Int} {c:Nat} {xs:List Value} (f:FO P t e sz) (q:ev E x=some v) (l:ev E y=some (.int k m)) (h:Sl w sz v c xs) (j:Nat) (g:m=(j:Int)) (o:j<c):
  Ex P n E (.indexAddr t x y) ty w (BW v (j*sz)):=fun a b _ _ _ _=>by
 obtain ⟨_,i,cap,rfl,B,_,r,_⟩:=h
 subst g
 cases i with
 |none=>have:=r rfl;omega
 |some ad=>
  have p:(0:Int)≤(j:Int)∧(j:Int)<(c:Int):=by omega
  have A:¬c≤j:=by omega
  simp [execOp,b.ev q,b.ev l,Instr.indexAt,asIntOf,run_underlying f.u,p,o,f.s w,BW]
theorem Ed {k:IntKind} {m:Int} {c:Nat} (f:FO P t e 1) (q:ev E x=some v) (l:ev E y=some (.int k m)) (h:Us v c) (j:Nat) (g:m=(j:Int)) (o:j<c):Ex P n E (.indexAddr t x y) ty w (BW v j):=fun a b _ _ _ _=>by
 obtain ⟨i,cap,rfl,A,_,r⟩:=h
 subst g
 cases i with
 |none=>have:=r rfl;omega
 |some ad=>
  have p:(0:Int)≤(j:Int)∧(j:Int)<(c:Int):=by omega
  simp [execOp,b.ev q,b.ev l,Instr.indexAt,asIntOf,run_underlying f.u,p,o,f.s w,BW]
theorem Ex.lenV {c:Nat} (f:FO P t e sz) (g:ev E x=some v) (h:Us v c):Ex P n E (.call {callee:= .builtin .len,args:= #[x],argTypes:= #[t]}) ty w (.int .i64 (c:Int)):=fun a b _ _ _ _=>by
 obtain ⟨i,cap,rfl,_⟩:=h
 simp [execOp,resolve,invoke,builtin,b.ev g,Builtin.len_,run_underlying f.u,goInt]
theorem E4 {c j:Nat} {xs:List Value} (i:(isAgg e).run P w= .ok false w) (p:ev E x=some (BW v j)) (h:Sl w sz v c xs) (k:xs[j]? =some u):Ex P n E (.load e x) ty w u:=fun a o _ _ _ _=>by
 obtain ⟨m,l,cap,rfl,A,_,q,g⟩:=h
 cases l with
 |none=>
  have r:=q rfl
  have b:j<xs.length:=by
   rcases Nat.lt_or_ge j xs.length with h|h
   ·exact h
   ·simp [getElem?_eq_none h] at k
  have:c=0:=by omega
  subst this;rw [m] at b;simp at b
 |some ad=>
  have b:=g ad rfl j u k
  have f:ev E x=some (.pointer (some (ad.add j))):=by simpa [BW] using p
  simp [execOp,o.ev f,Instr.loadAt,Instr.sureAddr,loadVar,i,b]
theorem Bf {α:Type} {enc:α→Value} {l:List α} {k:IntKind} {m:Int} (f:FO P t e 1) (g:ev E x=some v) (c:ev E y=some (.int k m)) (h:CA enc w v l) (j:Nat) (a:m=(j:Int)) (b:j<l.length):
  Ex P n E (.indexAddr t x y) ty w (BW v j):=by
 have:=Cu (ty:=ty) (n:=n) f g c h j a b
 rwa [Nat.mul_one] at this
theorem Bl {α:Type} [Inhabited α] {enc:α→Value} {l:List α} {j:Nat} (a:(isAgg e).run P w= .ok false w) (c:ev E x=some (BW v j)) (h:CA enc w v l) (b:j<l.length):
  Ex P n E (.load e x) ty w (enc (l.getD j default)):=E4 a c h (by simp [getElem?_eq_getElem b])
theorem Ak {b o:Nat} {T:TypeId} {cs:List Value} (c:(isAgg e).run P w= .ok false w) (j:ev E x=some (.pointer (some ⟨b,o,none⟩))) (h:AN w b T cs) (f:cs[o]? =some u):Ex P n E (.load e x) ty w u:=fun a g _ _ _ _=>by
 have i:=(h.cell o).trans f
 simp [execOp,g.ev j,Instr.loadAt,Instr.sureAddr,loadVar,c,i]
theorem Cj {b k:Nat} {T:TypeId} {cs:List Value} (c:(isAgg e).run P w= .ok true w) (hs:(sizeOf e).run P w= .ok k w) (f:cs.length=k) (m:ev E x=some (.pointer (some ⟨b,0,none⟩))) (h:AN w b T cs):Ex P n E (.load e x) ty w (.agg cs.toArray):=fun a i _ _ _ _=>by
 subst f
 have l:=run_loadCells_list (P:=P) w ⟨b,0,none⟩ cs (fun j v g=>by rw [add_lit,Nat.zero_add,h.cell];exact g)
 simp [execOp,i.ev m,Instr.loadAt,Instr.sureAddr,loadVar,c,hs,l]
theorem Ff {f:Func} {R:Value→World→Prop} {p b k:Nat} {T:TypeId} {cs:List Value} {d:TypeDesc} (l:f.results= #[.cell p e]) (i:get E p=some (.pointer (some ⟨b,0,none⟩))) (o:AN w b T cs)
  (m:P.underlying e=some d) (g:(match d with| .struct _| .array _ _=>true|_=>false)=true) (q:(P.info? e).map (·.size)=some k) (j:cs.length=k) (h:R (.agg cs.toArray) w):Pw n E (RM P f R .ret) w:=fun a c=>by
 subst j
 exact
 bodyPost_ret (v:= .agg cs.toArray) (results_cell_row l a.tmps w b T cs.toArray (0,0) d (by simp [Array.getD_eq_getD_getElem?,c.has _ _ i]) o m g (by simpa using q)) c.dfr ⟨_,rfl,h⟩
theorem Fo {b o f q:Nat} {g:Array Field} {c:Field} (k:P.underlying t=some (.struct g)) (h:g[f]? =some c) (i:(sizeOf c.type).run P w= .ok (q+1) w) (l:ev E x=some (.pointer (some ⟨b,o,none⟩))):
  Ex P n E (.fieldAddr t x f) ty w (.pointer (some ⟨b,o+c.offset,none⟩)):=fun a j _ _ _ _=>by
 simp [execOp,j.ev l,Instr.fieldAt,Instr.sureAddr,fieldPlace,run_underlying k,h,i,add_lit]
theorem Xw.alloc {b:List Value} {zv:Value} (f:(zeroValue e).run P w= .ok zv w) (c:zv.cells=b.toArray):Xw P n E (.alloc e) ty w (fun v w' =>v= .pointer (some ⟨w.heap.size,0,none⟩)∧AN w' w.heap.size e b∧Below w.heap.size w w' ∧w'.heap.size=w.heap.size+1):=fun a g=>by
 refine ⟨_,w.alloc (.cells b.toArray e),fun _ _ _ _=> ?_,rfl,heap_alloc_new w _,DR w _,by simp⟩
 simp [execOp,Instr.alloc,f,newVar,newRow,c]
theorem Xw.new {b:List Value} {a:Nat} (h:He P e b a):Xw P n E (.alloc e) ty w (fun v w' =>v= .pointer (some ⟨w.heap.size,0,none⟩)∧AN w' w.heap.size e b∧Below w.heap.size w w' ∧w'.heap.size=w.heap.size+1):=by
 obtain ⟨i,f,j,k,zv,c,g⟩:=h.i
 exact Xw.alloc (zv:=zv) (by simp [zeroValue,typeInfo,f,c]) g
theorem Xw.box {cs:List Value} (c:ev E x=some v) (b:v.cells=cs.toArray):Xw P n E (.box e x) ty w (fun v w' =>v= .pointer (some ⟨w.heap.size,0,none⟩)∧AN w' w.heap.size e cs∧Below w.heap.size w w' ∧w'.heap.size=w.heap.size+1):=fun a f=>by
 refine ⟨_,w.alloc (.cells cs.toArray e),fun _ _ _ _=> ?_,rfl,heap_alloc_new w _,DR w _,by simp⟩
 simp [execOp,f.ev c,Instr.box,newVar,newRow,b]
theorem Jb {b o:Nat} {T:TypeId} {cs:List Value} (h:AN w b T cs) (u:Value):AN (w.setCell ⟨b,o,none⟩ u) b T (cs.set o u)∧w.grownBy (w.setCell ⟨b,o,none⟩ u) (some b):=by
 refine ⟨?_,⟨rfl,rfl,rfl,by simp,fun k _ a=>heap_setCell_other w ⟨b,o,none⟩ k u (fun e=>a (by simp [e]))⟩⟩
 have:=heap_setCell_same w b o cs.toArray T u h
 unfold AN
 rw [this]
 simp
theorem C4 {b o:Nat} {T:TypeId} {cs:List Value} (k:(sizeOf e).run P w= .ok 1 w) (q:ev E x=some (.pointer (some ⟨b,o,none⟩))) (p:ev E y=some u) (c:u.oneCell' =true) (h:AN w b T cs) (m:o<cs.length):
  Xu P n E (.store e x y) ty w (fun w' =>AN w' b T (cs.set o u)∧w.grownBy w' (some b)∧w'.heap.size=w.heap.size):=fun a l=>by
 refine ⟨w.setCell ⟨b,o,none⟩ u,fun _ _ _ _=> ?_,(Jb h u).1,(Jb h u).2,by simp⟩
 have f:w.cell? ⟨b,o,none⟩=some cs[o]:=by rw [h.cell,getElem?_eq_getElem m]
 have i:w.frozen? ⟨b,o,none⟩=false:=by simp [World.frozen?,show w.heap[b]? =_ from h]
 have j:u.cells= #[u]:=by cases u<;>first|rfl|simp [Value.oneCell'] at c
 have g:=run_store P w ⟨b,o,none⟩ u .plain c
 simp only [f,i] at g
 simp [execOp,l.ev q,l.ev p,Instr.storeAt,Instr.sureAddr,storeVar,k,j,storeCells,add_lit,g]
theorem Cz {b k:Nat} {T:TypeId} {c cs:List Value} (hs:(P.info? e).map (·.size)=some k) (i:cs.length=k) (o:ev E x=some (.pointer (some ⟨b,0,none⟩))) (m:ev E y=some (.agg cs.toArray)) (g:cs.all (·.oneCell')=true) (h:AN w b T c) (l:c.length=k):
  Xu P n E (.store e x y) ty w (fun w' =>AN w' b T cs∧w.grownBy w' (some b)∧w'.heap.size=w.heap.size):=fun a j=>by
 subst i
 have f:=run_storeVar_row (P:=P) w b T e c.toArray cs.toArray h (by simpa using hs) (by simpa using l) (by simpa using g)
 refine ⟨w.setRow b cs.toArray,fun _ _ _ _=> ?_,setRow_heap w b _ _ _ _ h,⟨rfl,rfl,rfl,by simp [World.setRow],fun k _ i=>setRow_other w b k _ (fun e=>i (by simp [e]))⟩,by simp [World.setRow]⟩
 simp [execOp,j.ev o,j.ev m,Instr.storeAt,Instr.sureAddr,f]
theorem E1 {base c j:Nat} {T:TypeId} {xs:List Value} (p:(sizeOf e).run P w= .ok 1 w) (H:ev E x=some (BW v j)) (D:ev E y=some u) (f:u.oneCell' =true) (h:w.ownsRow base T sz v c xs) (r:j<xs.length):
  Xu P n E (.store e x y) ty w (fun w' =>w'.ownsRow base T sz v c (xs.set j u)∧w.grownBy w' v.ownBlock∧w'.heap.size=w.heap.size):=fun a A=>by
 rcases h.2 with ⟨rfl,rfl⟩|⟨g,cap,C,rfl,I,J,F,B,G,q⟩
 ·have:=h.1;simp at this;subst this;simp at r
 ·have k:=World.ownsRow.stored h j u
  refine ⟨w.setCell ⟨g,j,none⟩ u,fun _ _ _ _=> ?_,k.1,k.2,by simp⟩
  have m:ev E x=some (.pointer (some ⟨g,j,none⟩)):=by simpa [BW,add_lit] using H
  have i:w.cell? ⟨g,j,none⟩=some xs[j]:=by
   rw [World.ownsRow.cellAt h j (by rw [← h.1];exact r),getElem?_eq_getElem r]
  have o:=World.ownsRow.frozenAt h j
  have l:u.cells= #[u]:=by cases u<;>first|rfl|simp [Value.oneCell'] at f
  have b:=run_store P w ⟨g,j,none⟩ u .plain f
  simp only [i,o] at b
  simp [execOp,A.ev m,A.ev D,Instr.storeAt,Instr.sureAddr,storeVar,p,l,storeCells,add_lit,b]
theorem Xw.make {l c : Nat} {zs : List Value} {bytes : Nat} (hu : FO P t e sz) (hi : He P e zs bytes) (hzl : zs.length = sz) (hx : ev E x = some (.int .i64 (l : Int))) (hy : ev E y = some (.int .i64 (c : Int))) (hlc : l ≤ c) (hb : bytes * c ≤ 281474976710656) (hm : c ≤ 9223372036854775807) :
    Xw P n E (.makeSlice t x y) ty w (fun v w' =>w'.ownsRow w.heap.size e sz v l ((replicate l zs).flatten)∧v= .slice (some ⟨w.heap.size,0,none⟩) l c∧Below w.heap.size w w' ∧w'.heap.size=w.heap.size+1):=fun a ha=>by
  subst hzl
  obtain ⟨i,h1,h2,h3,zv,h4,h5⟩:=hi.i
  subst h3
  have hrun:=run_make (P:=P) w t e i zv hu.u h1 h4 .i64 .i64 l c (by omega) (by omega) (by have:=hb;omega) (by omega)
  simp only [Int.toNat_natCast] at hrun
  refine ⟨_,w.alloc (.cells (madeCells zv.cells (c*i.size)) e),fun _ _ _ _=>by simp [execOp,ha.ev hx,ha.ev hy,hrun], ?_,rfl,DR w _,by simp⟩
  refine ⟨by simp, .inr ⟨w.heap.size,c,_,rfl,AX _,heap_alloc_new w _,hlc,by unfold maxLen;omega,by rw [size_madeCells,h2], ?_⟩⟩
  rw [h5,h2]
  apply ext_getElem?
  intro k
  by_cases hk:k<l*zs.length
  · have hk2:k<c*zs.length:=Nat.lt_of_lt_of_le hk (Nat.mul_le_mul_right _ hlc)
    have hz : 0 < zs.length := by rcases Nat.eq_zero_or_pos zs.length with h | h; · rw [h] at hk; simp at hk
                                  · exact h
    have hf:((replicate l zs).flatten)[k]? =zs[k % zs.length]? :=by
      clear hk2 hrun hb hm hlc hx hy
      induction l generalizing k with
      |zero=>simp at hk
      |succ l ih=>
        rw [replicate_succ,flatten_cons,getElem?_append]
        by_cases hlt:k<zs.length
        · simp [hlt,Nat.mod_eq_of_lt hlt]
        · simp only [hlt,if_false]
          rw [ih (k - zs.length) (by rw [Nat.succ_mul] at hk;omega)]
          rw [← Nat.mod_eq_sub_mod (by omega)]
    rw [hf]
    simp only [getElem?_take,hk,if_true]
    simp [madeCells,hk2,Nat.mod_lt k hz]
  · have:((replicate l zs).flatten).length=l*zs.length:=by simp
    rw [getElem?_eq_none (l:=(replicate l zs).flatten) (by rw [this];omega)]
    simp [getElem?_take,hk]
def Im:Nat→List (Nat×Operand)→Option (List Operand)
 |_,[]=>some []
 |k,p::r=>match Nat.beq p.1 k,Im (k+1) r with
  |true,some l=>some (p.2::l)
  |_,_=>none
def I3:Nat→List Value→List (Nat×Value)
 |_,[]=>[]
 |k,v::l=>(k,v)::I3 (k+1) l
theorem Jd {a:Act} (b:BR n E a):∀(ps:List (Nat×Operand)) (k:Nat) (xs:List Operand) (vs:List Value),Im k ps=some xs→evs E xs=some vs→ps.map (fun p=>(p.1,a.eval p.2))=I3 k vs
 |[],k,xs,vs,h,hx=>by
  simp only [Im,Option.some.injEq] at h
  subst h
  simp only [evs,Option.some.injEq] at hx
  subst hx;rfl
 |p::r,k,xs,vs,h,hx=>by
  simp only [Im] at h
  split at h
  ·rename_i l i c
   simp only [Option.some.injEq] at h
   subst h
   simp only [evs] at hx
   split at hx
   ·rename_i v us g f
    simp only [Option.some.injEq] at hx
    subst hx
    have:=Nat.eq_of_beq_eq_true i
    simp [I3,this,b.ev g,Jd b r (k+1) l us c f]
   ·simp at hx
  ·simp at h
theorem KT:∀(vs:List Value) (k:Nat) (a:Array Value),a.size=k+vs.length→vs.all (·.oneCell')=true→
  Instr.fill (fun i=>some (i*1,1)) a (I3 k vs)=some ((a.toList.take k++vs).toArray)
 |[],k,a,h,_=>by
  have:a.toList.take k=a.toList:=take_of_length_le (by simp at h ⊢;omega)
  simp [I3,Instr.fill,this]
 |v::vs,k,a,h,h1=>by
  simp only [all_cons,Bool.and_eq_true] at h1
  have p:v.cells= #[v]:=by cases v<;>first|rfl|simp [Value.oneCell'] at h1
  have g:k<a.size:=by simp at h;omega
  have r:¬(k+1>a.size):=by omega
  have b:=KT vs (k+1) (a.setIfInBounds k v) (by simp at h ⊢;omega) h1.2
  simp only [I3,Instr.fill,p,Nat.mul_one]
  rw [if_neg (by simp;omega)]
  have q:(#[v].zipIdx.foldl (fun cs (c,j)=>cs.setIfInBounds (k+j) c) a)=a.setIfInBounds k v:=by simp [Array.zipIdx]
  simp only [q]
  simp only [Nat.mul_one] at b
  rw [b]
  congr 2
  apply ext_getElem?
  intro j
  simp only [Array.toList_setIfInBounds,getElem?_append,length_take,length_set,Array.length_toList,getElem?_take,getElem?_set]
  by_cases hj:j<k
  ·have l:j<min (k+1) a.size:=by omega
   have m:j<min k a.size:=by omega
   have o:j<k+1:=by omega
   have f:¬k=j:=by omega
   simp [hj,l,m,o,f]
  ·by_cases hj2:j=k
   ·subst hj2;simp [g,show min j a.size=j by omega,show min (j+1) a.size=j+1 by omega]
   ·simp [show ¬j<k by omega,show ¬j<k+1 by omega,show min k a.size=k by omega,show min (k+1) a.size=k+1 by omega,show j - k=(j - (k+1))+1 by omega]
theorem C2 {ps:List (Nat×Operand)} {xs:List Operand} {vs:List Value} {F:Value} {c k:Nat} (m:FO P t e 1) (C:He P e [F] c) (r:Im 0 ps=some xs) (D:evs E xs=some vs) (l:vs.length=k) (g:vs.all (·.oneCell')=true) (h:Nat.ble k 16777216=true):
  Xw P n E (.buildSlice t k ps.toArray) ty w (fun v w' =>w'.ownsRow w.heap.size e 1 v k vs∧v= .slice (some ⟨w.heap.size,0,none⟩) k k∧Below w.heap.size w w' ∧w'.heap.size=w.heap.size+1):=fun a G=>by
 obtain ⟨i,p,H,J,zv,o,I⟩:=C.i
 have f:¬(k*1>2 ^ 24):=by have:=Nat.le_of_ble_eq_true h;omega
 refine ⟨.slice (some ⟨w.heap.size,0,none⟩) k k,w.alloc (.cells vs.toArray e),fun _ _ _ _=> ?_,⟨by simpa using l, .inr ⟨w.heap.size,k,vs.toArray,rfl,AX _,heap_alloc_new w _,AX _,by have:=Nat.le_of_ble_eq_true h;unfold maxLen;omega,by simpa using l, ?_⟩⟩,rfl,DR w _,by simp⟩
 ·have j:(ps.toArray.map fun (i,x)=>(i,a.eval x)).toList=I3 0 vs:=by
   rw [← Jd G ps 0 xs vs r D];simp
  have A:∀(b:Array Value),b.size=k→Instr.fill (fun i=>some (i*1,1)) b (I3 0 vs)=some vs.toArray:=fun b K=>by
   rw [KT vs 0 b (by omega) g];simp
  have q:(zeroValue e).run P w= .ok zv w:=by simp [zeroValue,typeInfo,p,o]
  have hs:=m.s w
  simp only [execOp,Instr.buildSlice,Sem.run_bind,run_underlying m.u,Result.andThen_ok,hs,Sem.run_ite,if_neg f,Sem.run_pure,j]
  by_cases h0:k*1=0
  ·have:vs=[]:=eq_nil_of_length_eq_zero (by omega)
   subst this
   obtain rfl:k=0:=by simpa using l.symm
   have B:Array.range 0= #[]:=rfl
   simp [I3,Instr.fill,newRow,B]
  ·simp only [if_neg h0,q,Result.andThen_ok]
   rw [A _ (by simp)]
   simp [newRow]
 ·rw [take_of_length_le (by simp [l])]
end
section
variable {P : Program} {Q : BN} {n : Nat} {E : BZ} {w : World} {l0 rest : List Oper} {ty t : TypeId} {pos : String} {af : Array Edge} {x : Operand} {d : Nat}
theorem Ck {b o f:Nat} {c:Array Field} {a:Field} (i:P.underlying t=some (.struct c)) (h:(c[f]?,ev E x)=(some a,some (.pointer (some ⟨b,o,none⟩)))) (g:(sizeOf a.type).run P w= .ok (0+1) w):Ex P n E (.fieldAddr t x f) ty w (.pointer (some ⟨b,o+a.offset,none⟩)):=Fo (q:=0) i (congrArg Prod.fst h) g (congrArg Prod.snd h)
theorem A0 {b o f:Nat} {c:Array Field} {a:Field} (i:P.underlying t=some (.struct c)) (h:(c[f]?,ev E x,Nat.blt d n)=(some a,some (.pointer (some ⟨b,o,none⟩)),true)) (g:(sizeOf a.type).run P w= .ok (0+1) w) (k:Lw P l0 Q n rest ((d, .pointer (some ⟨b,o+a.offset,none⟩))::E) w):Lw P l0 Q n (⟨some d, .fieldAddr t x f,ty,pos,af,none⟩::rest) E w:=Aa (Fo (q:=0) i (congrArg (·.1) h) g (congrArg (·.2.1) h)) (congrArg (·.2.2) h) k
end

section
variable {P : Program} {ops : Array Oper} {md : Region.Mode} {C : World → Prop}
def Ia (P:Program) (md:Region.Mode) (ops:Array Oper) (C:World→Prop) (n:Nat) (L:Array Bool→Act→Prop):Nat→Array Bool→Act→Prop
 |0,listed,a=>L listed a
 |f+1,listed,a=>
  Region.ready md ops listed≠[]∧∀i ∈ Region.ready md ops listed,i<n∧qOp P ops C i (Ia P md ops C n L f (listed.setIfInBounds i true)) a
theorem Hk {n g:Nat} {L:Array Bool→Act→Prop} {Q' :Exit→Act→World→Prop} (l:∀b a w,C w→L b a→wpAny P md ops Q' g b a w):
  ∀(f:Nat) (b:Array Bool) (a:Act) (w:World),C w→Ia P md ops C n L f b a→wpAny P md ops Q' (f+g) b a w
 |0,b,a,w,hw,h=>by rw [Nat.zero_add];exact l _ _ _ hw h
 |f+1,b,a,w,hw,h=>by
  rw [show f+1+g=(f+g)+1 by omega]
  exact ⟨fun p=>absurd p h.1,fun i q=>wpOp_of_qOp hw (fun o w' k m=>Hk l f _ o w' k m) (h.2 i q).2⟩
theorem K1 {n i:Nat} {M:Oper} {v:Value} {L:Array Bool→Act→Prop} (X:ops[i]? =some M) (B:∀(j:Nat) (o:Oper) cs b,ops[j]? =some o→o.op≠ .select cs b)
  (hs:Region.sinkB md ops n=true) (hc:Region.chainB md ops n=true) (Z:n<ops.size) (R:i<n)
  (G:∀g a,L g a→∀j ∈ Region.ready md ops g,n≤j):
  ∀(f:Nat) (g:Array Bool) (a:Act),HeadInv md ops n g→
   (∀j J,ops[j]? =some J→j≠i→g.getD j true=false→(∀e ∈ J.after,Region.binds md e=true→e.on≠i)→M.apart ops J=true)→
   i ∈ Region.ready md ops g→YieldsIn P ops C M v a→
   Ia P md ops C n L f (g.setIfInBounds i true) (a.put M.dst v)→Ia P md ops C n L (f+1) g a:=by
 intro f
 induction f with
 |zero=>
  intro g a q _ D T H
  have l:=(mem_ready.1 D).1
  refine ⟨fun h=>(by rw [h] at D;cases D),fun j I=> ?_⟩
  have r:j<n:=by
   rcases Nat.lt_or_ge j n with h|h
   ·exact h
   ·exact absurd I (tail_waits hs hc Z q _ i rfl R l j h)
  refine ⟨r, ?_⟩
  by_cases hji:j=i
  ·subst hji;exact T.qOp X H
  ·have:=G _ _ H j (ready_mono I hji)
   omega
 |succ f ih=>
  intro g a q m D T H
  have l:=(mem_ready.1 D).1
  refine ⟨fun h=>(by rw [h] at D;cases D),fun j I=> ?_⟩
  have r:j<n:=by
   rcases Nat.lt_or_ge j n with h|h
   ·exact h
   ·exact absurd I (tail_waits hs hc Z q _ i rfl R l j h)
  refine ⟨r, ?_⟩
  by_cases hji:j=i
  ·subst hji;exact T.qOp X H
  ·have S:=(H.2 j (ready_mono I hji)).2
   obtain ⟨A,J,F,hall⟩:=mem_ready.1 I
   have N:∀e ∈ J.after,Region.binds md e=true→e.on≠i:=fun e he hb W=>by
    have S:=hall e he hb
    rw [W,getD_both l] at S
    cases S
   have h2:=qOp_put F (m j J F hji A N) (fun cs b=>B i M cs b X) (fun cs b=>B j J cs b F) T S
   have p:∀k ok,ops[k]? =some ok→k≠i→(g.setIfInBounds j true).getD k true=false→
     (∀e ∈ ok.after,Region.binds md e=true→e.on≠i)→M.apart ops ok=true:=fun k ok hk V l U=>by
    refine m k ok hk V ?_ U
    by_cases hjk:j=k
    ·subst hjk;exact A
    ·rw [getD_set_ne true hjk] at l;exact l
   refine qOp_mono (fun a' Y=>ih (g.setIfInBounds j true) a' (q.set I r) p (ready_mono D (Ne.symm hji)) Y.1 ?_) h2
   rw [Array.setIfInBounds_comm _ _ hji]
   exact Y.2
theorem Ja {n g:Nat} {D:Act→Prop} (m:Region.noSelect ops=true) (hs:Region.sinkB md ops n=true) (H:Region.chainB md ops n=true) (G:n<ops.size):
  ∀(l:List Oper) (k:Nat) (b:Array Bool) (a:Act),(∀j,j<l.length→l[j]? =ops[k+j]?)→k+l.length=n→HeadInv md ops n b→
  Region.lexHead md ops g l.length k b=true→wpQuiet P ops C D l a→
  Ia P md ops C n (fun f F=>Region.seqB md ops g n f=true∧D F) l.length b a
 |[],k,b,a,_,hk,_,hB,h=>by
  have:k=n:=by simpa using hk
  subst this
  exact ⟨by simpa [Region.lexHead] using hB,h⟩
 |o::l,k,b,a,hl,hk,inv,hB,h=>by
  have r:ops[k]? =some o:=by simpa using (hl 0 (by simp)).symm
  simp only [length_cons,Region.lexHead,Bool.and_eq_true] at hB
  obtain ⟨⟨L,I⟩,B⟩:=hB
  have p:k<n:=by simp only [length_cons] at hk;omega
  have q:k ∈ Region.ready md ops b:=by simpa using L
  have A:qOp P ops C k (wpQuiet P ops C D l) a:=by unfold qOp;simp only [r];exact h
  obtain ⟨v,J,M⟩:=yieldsIn_of_qOp r A
  exact K1 r (Region.noSelect_spec m) hs H G p (fun f F N=>seqB_ready N.1) l.length b a inv (Region.free_spec r I) q J
   (Ja m hs H G l (k+1) _ _ (fun j R=>by have:=hl (j+1) (by simp;omega);simpa [Nat.add_assoc,Nat.add_comm 1 j] using this) (by simp only [length_cons] at hk;omega) (inv.set q p) B M)
theorem Hj {M:Nat} {Q:Exit→Act→World→Prop} {a:Act} {w:World} {l:List Oper} (n:Nat) (R:P.follows .mixedOrders=true) (I:Region.lexTailB .any l.toArray n=true) (J:C {w with drawn:=w.drawn+1})
  (h:wpQuiet P l.toArray C (fun r=>∀w',C w' →wpList P l.toArray Q (l.drop n) r w') (l.take n) a):(Code.region M l.toArray true).wp P Q a w:=by
 simp only [Region.lexTailB,Bool.and_eq_true,decide_eq_true_eq] at I
 obtain ⟨⟨⟨⟨o,F⟩,hs⟩,S⟩,m⟩:=I
 have N:n<l.length:=by simpa using F
 have b:(l.take n).length=n:=by simp;omega
 have p:(l.drop n).length=l.toArray.size - n:=by simp
 have k:HeadInv .any l.toArray n (Array.replicate l.toArray.size false):=
  ⟨by simp,fun j T _ D=>(by rw [getD_replicate_false] at D;cases D),fun t _ L=>getD_in (by simpa using L) (getD_replicate_false _ _)⟩
 have H:=Ja (P:=P) (C:=C) (md:= .any) (g:=l.toArray.size - n) o hs S F (l.take n) 0 _ a (fun j G=>by
  have A:j<n:=by rw [b] at G;exact G
  simp [A]) (by simpa using b) k (by rw [b];exact m) h
 refine wp_region_any R ?_
 have:=Hk (Q' :=Q) (g:=l.toArray.size - n) (fun f r w' q B=>by
  have:=wpAny_of_seq (md:= .any) (Q' :=Q) (l.drop n) n f r w' (fun j=>by simp [getElem?_drop]) (by rw [p];exact B.1) (B.2 w' q)
  rwa [p] at this) _ _ _ _ J H
 rw [b,show n+(l.toArray.size - n)=l.toArray.size by omega] at this
 exact this
end
section
variable {P : Program} {ops : Array Oper} {md : Region.Mode} {C : World → Prop}
end
def BC (Q:BN):Prop:=∀c a w o v,Q (.panic c) (Act.put a o v) w→Q (.panic c) a w
theorem C9 {P:Program} {a:Func} {R:Value→World→Prop}:BC (RM P a R):=fun _ _ _ _ _ h=>by
 obtain ⟨_,v,b,_⟩:=h;cases b
theorem B5 {K:Act→World→Prop} {Q:BN} (h:BC Q):BC (CI K Q):=fun c a w o v b=>h c a w o v b
theorem Ce {b:Nat} {Q:BN} (h:BC Q):BC (IC b Q):=fun c a w o v f=>h c a w o v f
def Qw (P:Program) (l0:List Oper) (C:World→Prop) (K:Act→Prop) (n:Nat) (l:List Oper) (E:BZ):Prop:=∀a,BR n E a→wpQuiet P l0.toArray C K l a
def Aw (P:Program) (l0:List Oper) (Q:BN) (n fuel:Nat) (listed:Array Bool) (E:BZ) (w:World):Prop:=∀a,BR n E a→wpAny P .any l0.toArray Q fuel listed a w
section
variable {P : Program} {Q : BN} {n : Nat} {E : BZ} {w : World} {l0 rest : List Oper} {ty : TypeId} {pos : String} {af : Array Edge} {C : World → Prop} {K : Act → Prop}
theorem FS (w:World):Below w.heap.size w {w with drawn:=w.drawn+1}:=⟨rfl,rfl,rfl,AX _,fun _ _=>rfl⟩
theorem C8 {b:Nat} {l:List Oper} (f:P.follows .mixedOrders=true) (m:Region.lexB .any l.toArray=true) (h:Qw P l (Below w.heap.size w) (fun k=>∀w',Below w.heap.size w w' →Q .normal k w') n l E):
  Cw P Q n (.region b l.toArray true) E w:=fun a g=>wp_region_quiet (C:=Below w.heap.size w) f m (FS w) (by simpa using h a g)
theorem Cw.tail {b:Nat} {l:List Oper} (k:Nat) (f:P.follows .mixedOrders=true) (o:Region.lexTailB .any l.toArray k=true)
  (h:Qw P l (Below w.heap.size w) (fun m=>∀w',Below w.heap.size w w' →wpList P l.toArray Q (l.drop k) m w') n (l.take k) E):Cw P Q n (.region b l.toArray true) E w:=fun a g=>
 Hj (C:=Below w.heap.size w) k f o (FS w) (h a g)
theorem C1 (h:∀w',C w' →Pw n E (Q .normal) w'):Qw P l0 C (fun g=>∀w',C w' →Q .normal g w') n [] E:=fun a f=>wpQuiet_nil fun w' b=>h w' b a f
theorem Qw.done {l:List Oper} (h:∀w',C w' →Lw P l0 Q n l E w'):Qw P l0 C (fun g=>∀w',C w' →wpList P l0.toArray Q l g w') n [] E:=fun a f=>wpQuiet_nil fun w' b=>h w' b a f
theorem Ai {d:Nat} {b:Op} {v:Value} (h:∀w,C w→Ex P n E b ty w v) (g:Nat.blt d n=true) (k:Qw P l0 C K n rest ((d,v)::E)):Qw P l0 C K n (⟨some d,b,ty,pos,af,none⟩::rest) E:=fun a f=>by
 refine wpQuiet_step fun o m=> ?_
 rw [if_pos (by simp [Region.wanted])]
 refine ⟨v,fun w l=> ?_,m _ (k _ (f.put v g))⟩
 unfold Oper.quietAt
 rw [h w l a f]
 exact ⟨rfl,rfl⟩
theorem C3 {d:Nat} {f:FuncId} {xs:List Operand} {vs:List Value} {o:Array TypeId} {v:Value} (B:evs E xs=some vs) (l:Nat.blt d n=true) (g:∀w,C w→AJ P f vs w (fun r w' =>r=v∧C w'))
  (k:Qw P l0 C K n rest ((d,v)::E)):Qw P l0 C K n (⟨some d, .call {callee:= .value (.func f),args:=xs.toArray,argTypes:=o},ty,pos,af,none⟩::rest) E:=fun a h=>by
 refine wpQuiet_step fun D p=> ?_
 rw [if_pos (by simp [Region.wanted])]
 refine ⟨v,fun w b=> ?_,p _ (k _ (h.put v l))⟩
 unfold Oper.quietAt
 rw [Xc.mk (g w b).1 B a h]
 exact ⟨rfl,(g w b).2.mono fun e w' ⟨u,m,q,A⟩=>by subst m;subst q;exact ⟨rfl,A⟩⟩
theorem Ey {l:List Oper} (d:Nat) {v v' :Value} (g:get E d=some v) (k:v=v') (h:Qw P l0 C K n l ((d,v')::E)):Qw P l0 C K n l E:=fun a b=>h a<|by
 subst k
 refine ⟨b.dfr,b.size,fun i u f=> ?_⟩
 by_cases hi:d=i
 ·subst hi;rw [CG] at f;exact b.has _ _ (g.trans f)
 ·rw [CX _ _ hi] at f;exact b.has _ _ f
theorem Di {l:List Oper} (d:Nat) {g:Bool} (b:get E d=some (.bool g)) (a:g=true→Qw P l0 C K n l ((d, .bool true)::E)) (f:g=false→Qw P l0 C K n l ((d, .bool false)::E)):Qw P l0 C K n l E:=by
 cases g with
 |true=>exact Ey d b rfl (a rfl)
 |false=>exact Ey d b rfl (f rfl)
theorem Az {d:Option Tmp} {f:Op} {j dj:Nat} {g:Bool} (l:(DI l0 j).bind (·.dst)=some dj) (m:get E dj=some (.bool g))
  (h:Qw P l0 C K n (⟨d,f,ty,pos,af,none⟩::rest) E):Qw P l0 C K n (⟨d,f,ty,pos,af,some (j,g)⟩::rest) E:=fun a k=>by
 have b:=h a k
 unfold wpQuiet at b ⊢
 rw [if_pos (by simp [Region.wanted])] at b
 rw [if_pos (by simp [Region.wanted,GS k l m])]
 exact b
theorem As {d:Nat} {l:Op} {j dj:Nat} {g b:Bool} (m:(DI l0 j).bind (·.dst)=some dj) (p:get E dj=some (.bool b)) (o:(g==b)=false) (k:Nat.blt d n=true)
  (h:Qw P l0 C K n rest ((d,undef)::E)):Qw P l0 C K n (⟨some d,l,ty,pos,af,some (j,g)⟩::rest) E:=fun a f=>by
 unfold wpQuiet
 rw [if_neg]
 ·exact h _ (f.put _ k)
 ·simp only [Region.wanted,GS f m p]
  cases g<;>cases b<;>simp_all
theorem Cw.any {b:Nat} {l:List Oper} (f:P.follows .mixedOrders=true) (h:∀w',Below w.heap.size w w' →w'.heap.size=w.heap.size→Aw P l Q n l.length (Array.replicate l.length false) E w'):Cw P Q n (.region b l.toArray true) E w:=fun a g=>
 wp_region_any f (by simpa using h _ (FS w) rfl a g)
theorem Aw.take {i d f:Nat} {g:Op} {v:Value} {b:Array Bool} (r:BC Q) (A:DI l0 i=some ⟨some d,g,ty,pos,af,none⟩) (hs:Region.noSelect l0.toArray=true) (o:Region.free .any l0.toArray b i=true)
  (q:(Region.ready .any l0.toArray b).contains i=true) (h:∀w,Ex P n E g ty w v) (m:Nat.blt d n=true) (k:Aw P l0 Q n f (b.setIfInBounds i true) ((d,v)::E) w):Aw P l0 Q n (f+1) b E w:=fun a l=>
 wpAny_take (by rw [getElem?_toArray,CO];exact A) hs o q (fun c B w' p=>r _ _ _ _ _ p) (.inl ⟨by simp [Region.wanted],fun w' =>h w' a l (some d) pos af none⟩) (k _ (l.put v m))
theorem Aw.all {f:Nat} {b:Array Bool} (g:List Nat) (m:Region.ready .any l0.toArray b=g) (l:g≠[])
  (h:∀i ∈ g,∀o,DI l0 i=some o→Pw n E (fun a w=>wpOp P l0.toArray Q i (fun A w' =>wpAny P .any l0.toArray Q f (b.setIfInBounds i true) A w') a w) w):Aw P l0 Q n (f+1) b E w:=fun a r=>
 wpAny_all m l fun i p=>by
  have k:i<l0.length:=by
   have:i ∈ Region.ready .any l0.toArray b:=m ▸ p
   obtain ⟨_,o,q,_⟩:=mem_ready.1 this
   have:=(Array.getElem?_eq_some_iff.1 q).1
   simpa using this
  exact h i p l0[i] (by rw [← CO,getElem?_eq_getElem k]) a r
theorem Aw.done {f:Nat} {b:Array Bool} (k:Region.ready .any l0.toArray b=[]) (h:Pw n E (Q .normal) w):Aw P l0 Q n f b E w:=fun a g=>wpAny_done k (h a g) f
theorem Pw.one {i f:Nat} {o:Oper} {b:Array Bool} (p:DI l0 i=some o) (h:Lw P l0 (CI (fun g w' =>wpAny P .any l0.toArray Q f (b.setIfInBounds i true) g w') Q) n [o] E w):
  Pw n E (fun a w=>wpOp P l0.toArray Q i (fun g w' =>wpAny P .any l0.toArray Q f (b.setIfInBounds i true) g w') a w) w:=fun a q=>by
 have k:=h a q
 have m:l0.toArray[i]? =some o:=by rw [getElem?_toArray,CO];exact p
 unfold wpList at k
 unfold wpOp
 simp only [m]
 have A:wpList P l0.toArray (CI (fun g w' =>wpAny P .any l0.toArray Q f (b.setIfInBounds i true) g w') Q) []=fun g w' =>wpAny P .any l0.toArray Q f (b.setIfInBounds i true) g w' :=by
  funext g w';rfl
 rw [A] at k
 split at k
 ·rename_i l
  rw [if_pos l]
  refine k.imp (fun h=> ?_) (fun h=>h)
  unfold Oper.wp at*
  generalize (execOp a.eval o).run P w=r at*
  cases r with
  |ok nx w' =>cases nx<;>exact h
  |halt x w' =>cases x<;>exact h
 ·rename_i l
  rw [if_neg l];exact k
theorem Aw.only {i b:Nat} {o:Oper} {a:Array Bool} (m:Region.ready .any l0.toArray a=[i]) (g:DI l0 i=some o)
  (h:Lw P l0 (CI (fun l w' =>wpAny P .any l0.toArray Q b (a.setIfInBounds i true) l w') Q) n [o] E w):Aw P l0 Q n (b+1) a E w:=
 Aw.all [i] m (by simp) fun j k p f=>by
  obtain rfl:j=i:=by simpa using k
  obtain rfl:p=o:=Option.some.inj (f.symm.trans g)
  exact Pw.one g h
theorem Aw.back {f:Nat} {b:Array Bool} {k:List Oper} (h:Aw P l0 Q n f b E w):Lw P k (CI (fun l w' =>wpAny P .any l0.toArray Q f b l w') Q) n [] E w:=fun a g=>wpList_nil (h a g)
theorem EI {α:Type} {enc:α→Value} (h:∀x,(enc x).oneCell' =true) (l:List α):(l.map enc).all (·.oneCell')=true:=by simp [h]
def Twn {α:Type} (w:World) (base:Nat) (T:TypeId) (enc:α→Value) (mark:Value) (v:Value) (l:List α):Prop:=
 ∃b cap,v= .slice (some ⟨b,0,none⟩) l.length cap∧w.ownsRow base T 1 (.slice (some ⟨b,0,none⟩) (l.length+1) cap) (l.length+1) (l.map enc++[mark])
theorem KE {b cap k m base:Nat} {T:TypeId} {xs r:List Value} (h:w.ownsRow base T 1 (.slice (some ⟨b,0,none⟩) (k+m) cap) (k+m) (xs++r)) (q:xs.length=k):w.ownsRow base T 1 (.slice (some ⟨b,0,none⟩) k cap) k xs:=by
 obtain ⟨I,B⟩:=h
 rcases B with ⟨F,_⟩|⟨g,p,f,A,G,H,D,l,o,a⟩
 ·cases F
 ·cases A
  refine ⟨by simpa using q, .inr ⟨b,cap,f,rfl,G,H,by omega,l,o, ?_⟩⟩
  have:=cngA (take k) a
  rw [take_take,Nat.min_eq_left (by omega)] at this
  simp only [Nat.mul_one] at this ⊢
  rw [this,← q,take_left]
theorem Twn.sl {α:Type} {base:Nat} {T:TypeId} {enc:α→Value} {a v:Value} {l:List α} (h:Twn w base T enc a v l):CA enc w v l:=by
 obtain ⟨b,cap,rfl,f⟩:=h
 exact AG (KE f (by simp))
theorem Twn.bs {α:Type} {w' :World} {base:Nat} {T:TypeId} {enc:α→Value} {a v:Value} {l:List α} (h:Twn w base T enc a v l) (g:Below w.heap.size w w'):Twn w' base T enc a v l:=by
 obtain ⟨b,cap,rfl,f⟩:=h
 exact ⟨b,cap,rfl,AH f g⟩
variable {x y z : Operand} {v u : Value} {t s e : TypeId} {sz base : Nat}
theorem L9 {P:Program} {w w' :World} {base:Nat} {t ty e:TypeId} {i:TypeInfo} {z:Value} {size o:Nat} (G:P.underlying t=some (.slice e)) (H:P.info? e=some i) (N:i.zero=some z)
  (p:i.size=size) (J:i.bytes=o) (V:0<size) {v v' :Value} {n:Nat} {xs:List Value} (l:w.ownsRow base e size v n xs)
  {a:Addr} {m c:Nat} {b:List Value} (D:b.length=m*size) (h:∀j u,b[j]? =some u→w.cell? (a.add j)=some u) (U:∀u ∈ b,u.oneCell' =true)
  (I:n+m≤maxLen) (k:(n+m)*o≤140737488355328) (f:(Builtin.append_ #[t,t] ty #[v, .slice (some a) m c]).run P w= .ok v' w'):
  v'.ownBlock=v.ownBlock∨v'.ownBlock=some w.heap.size:=by
 subst p
 subst J
 have F:n+m≤9223372036854775807:=by simp only [maxLen] at I;omega
 rcases l.2 with ⟨rfl,rfl⟩|⟨g,cap,A,rfl,W,T,X,R,M,L⟩
 ·by_cases hm:m=0
  ·subst hm
   obtain rfl:b=[]:=eq_nil_of_length_eq_zero (by simpa using D)
   have r:(Builtin.append_ #[t,t] ty #[.slice none 0 0, .slice (some a) 0 c]).run P w= .ok (.slice none 0 0) w:=by
    simp [Builtin.append_,run_underlying G,sizeOf,typeInfo,H,Builtin.lenOf,Builtin.firstCells,loadCells,loadCellsFrom]
   rw [r] at f
   cases f
   exact .inl rfl
  ·have r:=run_append_nil (P:=P) w t ty e i z G H N a m c b D h (by omega) (by omega) (by have S:=k;simp only [Nat.zero_add] at S;omega)
   rw [r] at f
   cases f
   exact .inr rfl
 ·by_cases hroom:n+m≤cap
  ·have B:n*i.size+b.length≤A.size:=by rw [D,M,← Nat.add_mul];exact Nat.mul_le_mul_right _ hroom
   have r:=run_append_room (P:=P) w t ty e i G H g n cap A T a m c b D h U hroom B
   rw [r] at f
   cases f
   exact .inl rfl
  ·have q:∀j u,xs[j]? =some u→w.cell? ((⟨g,0,none⟩:Addr).add j)=some u:=l.cells (g:=g) rfl
   have r:=run_append_grow (P:=P) w t ty e i z G H N ⟨g,0,none⟩ n cap xs l.1 q a m c b D h (by omega) (by omega) (growslice_fits (by omega) k)
   rw [r] at f
   cases f
   exact .inr rfl
theorem C5 {k m:Nat} {xs b:List Value} {g:Nat} {r:List Value} (B:FO P t e sz) (hi:He P e r g) (L:r.length=sz) (V:0<sz) (Y:ev E x=some v) (W:ev E y=some u)
  (f:w.ownsRow base e sz v k xs) (F:Sl w sz u m b) (D:b.all (·.oneCell')=true) (o:(k+m)*g≤140737488355328) (hm:k+m≤9223372036854775807) (h:base≤w.heap.size):
  Xw P n E (.call {callee:= .builtin .append,args:= #[x,y],argTypes:= #[t,t]}) ty w (fun v' w' =>w'.ownsRow base e sz v' (k+m) (xs++b)∧Below base w w' ∧w.grownBy w' v.ownBlock∧(v'.ownBlock=v.ownBlock∨v'.ownBlock=some w.heap.size)):=fun a H=>by
 subst L
 have p:∀w',w.grownBy w' v.ownBlock→Below base w w' :=fun w' hg=>G8 hg h fun k hk=>(AF f k hk).1
 obtain ⟨i,I,S,X,zv,U,h5⟩:=hi.i
 obtain ⟨M,ao,cap,rfl,hc1,hc2,R,A⟩:=F
 have N:zv.cells.size=r.length:=by rw [h5];simp
 cases ao with
 |none=>
  have Z:=R rfl
  have J:m=0:=by omega
  subst J
  obtain rfl:b=[]:=eq_nil_of_length_eq_zero (by simpa using M)
  subst Z
  have G:=run_append_owned_none (P:=P) w base t ty e i r.length B.u I v k xs f
  refine ⟨v,w,fun _ _ _ _=>by simp [execOp,resolve,invoke,builtin,H.ev Y,H.ev W,G],by simpa using f,p _ (FQ _ _),FQ _ _, .inl rfl⟩
 |some ad=>
  have q:k+m≤maxLen:=by unfold maxLen;omega
  have l:∀u ∈ b,u.oneCell' =true:=fun u B=>List.all_eq_true.1 D u B
  obtain ⟨v',w',G,g1,T,g3⟩:=run_append_own (P:=P) w base t ty e i zv r.length g B.u I U S X N V v k xs f ad m cap b M (A ad rfl) l q o h
  exact ⟨v',w',fun _ _ _ _=>by simp [execOp,resolve,invoke,builtin,H.ev Y,H.ev W,G],g1,p _ T,T,L9 B.u I U S X V f M (A ad rfl) l q o G⟩
theorem Dl {k m:Nat} {xs b:List Value} {f:Nat} {r:List Value} (H:FO P t e sz) (J:He P e r f) (q:r.length=sz) (F:0<sz) (L:ev E x=some v) (G:ev E y=some u)
  (h:w.ownsRow base e sz v k xs) (p:Sl w sz u m b) (o:b.all (·.oneCell')=true) (l:(k+m)*f≤140737488355328) (M:k+m≤9223372036854775807) (g:base≤w.heap.size):
  Xw P n E (.call {callee:= .builtin .append,args:= #[x,y],argTypes:= #[t,t]}) ty w (fun v' w' =>w'.ownsRow base e sz v' (k+m) (xs++b)∧Below base w w' ∧w.grownBy w' v.ownBlock):=fun a N=>by
 obtain ⟨v',w',D,A,I,B,_⟩:=C5 H J q F L G h p o l M g a N
 exact ⟨v',w',D,A,I,B⟩
def ID (v u:Value):Prop:=∀b,v.ownBlock=some b→u.ownBlock≠some b
theorem ID.symm {v u:Value} (h:ID v u):ID u v:=fun b a f=>h b f a
theorem ID.keep {w w' :World} {base:Nat} {e:TypeId} {sz k:Nat} {v u:Value} {xs:List Value} (h:ID v u) (g:w.ownsRow base e sz u k xs) (f:w.grownBy w' v.ownBlock):w'.ownsRow base e sz u k xs:=
 g.kept f (by
  cases hu:u.ownBlock with
  |none=>exact .inl rfl
  |some b=>exact .inr fun a=>h b a.symm hu)
theorem ID.grow {w:World} {base:Nat} {e:TypeId} {sz k:Nat} {v v' u:Value} {xs:List Value} (h:ID v u) (l:w.ownsRow base e sz u k xs) (a:v'.ownBlock=v.ownBlock∨v'.ownBlock=some w.heap.size):ID v' u:=fun b f g=>by
 rcases a with a|a
 ·exact h b (a ▸ f) g
 ·have:=(AF l b g).2
  rw [a] at f
  cases f
  omega
theorem AJ.q {f:FuncId} {args:List Value} {a:World} (h:AJ P f args a (fun r w' =>r=v∧Below a.heap.size a w')) (g:Below w.heap.size w a):AJ P f args a (fun r w' =>r=v∧Below w.heap.size w w'):=
 h.mono fun _ _ b=>⟨b.1,MN g b.2 (AX _)⟩
def cut (v:Value) (sz i j:Nat):Value:=match v with
 | .slice ao _ cap=> .slice (if cap=i then ao else ao.map (·.add (i*sz))) (j - i) (cap - i)
 |_=>undef
theorem Sl.cut {c i j:Nat} {xs:List Value} (h:Sl w sz v c xs) (q:i≤j) (o:j≤c):Sl w sz (cut v sz i j) (j - i) ((xs.drop (i*sz)).take ((j - i)*sz)):=by
 obtain ⟨m,l,cap,rfl,H,G,A,p⟩:=h
 refine ⟨?_,_,cap - i,rfl,by omega,by omega,fun D=> ?_,fun a f k u b=> ?_⟩
 ·have F:j*sz=i*sz+(j - i)*sz:=by rw [← Nat.add_mul];congr 1;omega
  have I:j*sz≤c*sz:=Nat.mul_le_mul_right _ o
  rw [length_take,length_drop,m];omega
 ·split at D
  ·omega
  ·have:=A (by cases l<;>simp_all);omega
 ·have g:k<(j - i)*sz:=by
   rw [getElem?_take] at b
   split at b
   ·assumption
   ·cases b
  rw [getElem?_take,if_pos g,getElem?_drop] at b
  split at f
  ·rename_i B
   have r:(j - i)=0:=by omega
   rw [r] at g;simp at g
  ·cases l with
   |none=>simp at f
   |some ad=>
    simp only [Option.map_some,Option.some.injEq] at f
    subst f
    rw [IA]
    exact p ad rfl _ _ b
theorem CA.cut {α:Type} {enc:α→Value} {l:List α} {i j:Nat} (h:CA enc w v l) (a:i≤j) (b:j≤l.length):CA enc w (Dd.cut v 1 i j) ((l.drop i).take (j - i)):=by
 have:=Sl.cut h a b
 have e:((l.drop i).take (j - i)).length=j - i:=by simp;omega
 unfold CA
 rw [e]
 simpa [map_take,map_drop] using this
theorem CA.take {α:Type} {enc:α→Value} {l:List α} {j:Nat} (h:CA enc w v l) (a:j≤l.length):CA enc w (Dd.cut v 1 0 j) (l.take j):=by
 simpa using CA.cut h (Nat.zero_le j) a
theorem CA.drop {α:Type} {enc:α→Value} {l:List α} {i:Nat} (h:CA enc w v l) (a:i≤l.length):CA enc w (Dd.cut v 1 i l.length) (l.drop i):=by
 have:=CA.cut h a (AX _)
 rwa [take_of_length_le (by simp)] at this
section
variable {k1 k2 : IntKind} {c i j : Nat} {xs : List Value} {y2 : Operand}
theorem Gv (b:FO P t e sz) (p:ev E x=some v) (o:ev E y2=some (.int k2 (j:Int))) (h:Us v c) (r:j≤c):Ex P n E (.slice t x none (some y2) none) ty w (cut v sz 0 j):=fun a g _ _ _ _=>by
 obtain ⟨l,cap,rfl,A,q,B⟩:=h
 have f:P.underlying t=some (.slice (P.elem t)):=by rw [Program.elem,b.u]
 have m:P.elem t=e:=by rw [Program.elem,b.u]
 have k:=run_slice_h (P:=P) w t l c cap f k2 (j:Int) (by omega) (by omega)
 simp only [Int.toNat_natCast,m,b.s w,Result.andThen_ok] at k
 simp [execOp,g.ev p,g.ev o,Instr.sliceAt,run_underlying b.u,k,sliced,cut]
theorem Gl (f:FO P t e sz) (g:ev E x=some v) (b:ev E y2=some (.int k2 (j:Int))) (h:Sl w sz v c xs) (a:j≤c):Ex P n E (.slice t x none (some y2) none) ty w (cut v sz 0 j):=Gv f g b h.shp a
theorem Gj {b cap:Nat} (f:FO P t e sz) (o:ev E x=some (.slice (some ⟨b,0,none⟩) c cap)) (m:ev E y2=some (.int k2 (j:Int))) (p:j≤cap):Ex P n E (.slice t x none (some y2) none) ty w (.slice (some ⟨b,0,none⟩) j cap):=fun a h _ _ _ _=>by
 have g:P.underlying t=some (.slice (P.elem t)):=by rw [Program.elem,f.u]
 have l:P.elem t=e:=by rw [Program.elem,f.u]
 have k:=run_slice_h (P:=P) w t (some ⟨b,0,none⟩) c cap g k2 (j:Int) (by omega) (by omega)
 simp only [Int.toNat_natCast,l,f.s w,Result.andThen_ok] at k
 simp [execOp,h.ev o,h.ev m,Instr.sliceAt,run_underlying f.u,k,sliced,add_lit]
theorem F3 (b:FO P t e sz) (p:ev E x=some v) (o:ev E y=some (.int k1 (i:Int))) (h:Us v c) (B:i≤c):Ex P n E (.slice t x (some y) none none) ty w (cut v sz i c):=fun a g _ _ _ _=>by
 obtain ⟨l,cap,rfl,r,q,A⟩:=h
 have f:P.underlying t=some (.slice (P.elem t)):=by rw [Program.elem,b.u]
 have m:P.elem t=e:=by rw [Program.elem,b.u]
 have k:=run_slice_l (P:=P) w t l c cap f k1 (i:Int) (by omega) (by omega)
 simp only [Int.toNat_natCast,m,b.s w,Result.andThen_ok] at k
 simp [execOp,g.ev p,g.ev o,Instr.sliceAt,run_underlying b.u,k,sliced,cut]
theorem Fp (b:FO P t e sz) (g:ev E x=some v) (a:ev E y=some (.int k1 (i:Int))) (h:Sl w sz v c xs) (f:i≤c):Ex P n E (.slice t x (some y) none none) ty w (cut v sz i c):=F3 b g a h.shp f
end
end
section
variable {P : Program} {Q : BN} {n : Nat} {E : BZ} {l0 rest : List Oper} {ty : TypeId} {pos : String} {af : Array Edge} {x : Operand} {v : Value} {d : Nat} {C : World → Prop} {K : Act → Prop}
theorem Bt (h:(ev E x,Nat.blt d n)=(some v,true)) (k:Qw P l0 C K n rest ((d,v)::E)):Qw P l0 C K n (⟨some d, .move x,ty,pos,af,none⟩::rest) E:=Ai (fun _ _=>Cb (congrArg Prod.fst h)) (congrArg Prod.snd h) k
theorem D7 (h:(ev E x,Nat.blt d n)=(some v,true)) (k:Qw P l0 C K n rest ((d,v)::E)):Qw P l0 C K n (⟨some d, .assign x,ty,pos,af,none⟩::rest) E:=Ai (fun _ _=>Cq (congrArg Prod.fst h)) (congrArg Prod.snd h) k
end

def LF (P:Program) (f:FuncId) (args:List Value) (w:World) (pv:Value) (R:Value→World→Prop) (K:World→Prop):Prop:=
 (∃ fn, P.funcs[f]? = some fn ∧ (fn.name == "runtime.NumGoroutine") = false ∧ fn.body.isSome = true) ∧ Calls P f args.toArray w (fun e w' => (∃ v, e = .returned v ∧ R v w') ∨ (e = .panicked [{ v := pv, recovered := false }] ∧ K w'))
def Ot (P:Program) (fn:Func) (pv:Value) (R:Value→World→Prop) (K:World→Prop):BN:=bodyPost P fn (fun e w' =>(∃v,e= .returned v∧R v w')∨(e= .panicked [{v:=pv,recovered:=false}]∧K w'))
section
variable {P : Program} {Q : BN} {n : Nat} {E : BZ} {w : World} {l0 rest : List Oper} {ty : TypeId} {pos : String} {af : Array Edge} {x : Operand} {pv : Value}
theorem LF.mono {f:FuncId} {args:List Value} {R c:Value→World→Prop} {K d:World→Prop} (h:LF P f args w pv R K) (g:∀v w',R v w' →c v w') (e:∀w',K w' →d w'):LF P f args w pv c d:=
 ⟨h.1,h.2.mono fun _ _ q=>q.imp (fun ⟨v,b,a⟩=>⟨v,b,g _ _ a⟩) (fun ⟨b,a⟩=>⟨b,e _ a⟩)⟩
theorem E3 {f : FuncId} {b : Func} {c : Code} {args : List Value} {R : Value → World → Prop} {K : World → Prop} (g : P.funcs[f]? = some b) (a : (b.name == "runtime.NumGoroutine") = false) (j : b.body = some c)
  (m:b.ntmps=n) (l:Nat.ble args.length n=true) (h:Cw P (Ot P b pv R K) n c (params 0 args) w):LF P f args w pv R K:=by
 refine ⟨⟨b,g,a,by simp [j]⟩,calls_of_wp g j (h _ ⟨rfl, ?_,fun i v k=> ?_⟩)⟩
 ·have:args.length≤n:=Nat.le_of_ble_eq_true l
  simp [m];omega
 ·have e:=(EO args 0 i v k).2
  simp only [Nat.sub_zero] at e
  have d:i<args.length:=by
   rcases Nat.lt_or_ge i args.length with h|h
   ·exact h
   ·simp [getElem?_eq_none h] at e
  rw [Array.getElem?_append]
  simp only [size_toArray,d,if_true,getElem?_toArray]
  exact e
theorem Pw.ret1q {c:Func} {R:Value→World→Prop} {K:World→Prop} {t:Nat} {v:Value} (e:c.results= #[.tmp t]) (d:get E t=some v) (h:R v w):Pw n E (Ot P c pv R K .ret) w:=fun a b=>
 bodyPost_ret (v:=v) (by rw [results_tmp e];simp [Array.getD_eq_getD_getElem?,b.has _ _ d]) b.dfr (.inl ⟨v,rfl,h⟩)
theorem Pw.ret0q {a:Func} {R:Value→World→Prop} {K:World→Prop} (c:a.results= #[]) (h:R (.tuple #[]) w):Pw n E (Ot P a pv R K .ret) w:=fun _ b=>
 bodyPost_ret (v:= .tuple #[]) (by rw [results_none c]) b.dfr (.inl ⟨_,rfl,h⟩)
theorem Gq {a:Func} {R:Value→World→Prop} {K:World→Prop} (c:a.results= #[]) (h:R (.tuple #[]) w):Pw n E (Ot P a pv R K .normal) w:=fun _ b=>
 bodyPost_end (v:= .tuple #[]) (by rw [results_none c]) b.dfr (.inl ⟨_,rfl,h⟩)
theorem Du {b:Func} {R:Value→World→Prop} {K:World→Prop} (h:K w):Pw n E (Ot P b pv R K (.panic [{v:=pv,recovered:=false}])) w:=fun _ a=>⟨a.dfr, .inr ⟨rfl,h⟩⟩
theorem Gs {b:Func} {R:Value→World→Prop} {K:World→Prop}:BC (Ot P b pv R K):=fun _ a _ o v h=>by
 cases o with
 |none=>exact h
 |some d=>exact h
theorem Dq {K:Act→World→Prop} {c:List PanicEntry} (h:Pw n E (Q (.panic c)) w):Pw n E (CI K Q (.panic c)) w:=h
theorem Pw.blkP {a:Nat} {c:List PanicEntry} (h:Pw n E (Q (.panic c)) w):Pw n E (IC a Q (.panic c)) w:=h
theorem Lw.callQ {d:Nat} {i:Op} {f:FuncId} {vs:List Value} {R:Value→World→Prop} {K:World→Prop} (h:Xc P n E i ty w f vs) (j:Nat.blt d n=true) (l:LF P f vs w pv R K)
  (m:∀w',K w' →Pw n E (Q (.panic [{v:=pv,recovered:=false}])) w') (k:∀v w',R v w' →Lw P l0 Q n rest ((d,v)::E) w'):Lw P l0 Q n (⟨some d,i,ty,pos,af,none⟩::rest) E w:=
 fun a c=>wpList_plain rfl fun o g=>by
  unfold Oper.wp
  rw [h a c]
  refine l.2.mono fun e w' q=> ?_
  rcases q with ⟨v,rfl,b⟩|⟨rfl,b⟩
  ·exact g _ _ (k v w' b _ (c.put v j))
  ·exact m w' b a c
theorem D1 {d:Nat} {f:FuncId} {xs:List Operand} {vs:List Value} {c:Array TypeId} {R:Value→World→Prop} {K:World→Prop} (g:evs E xs=some vs) (b:Nat.blt d n=true) (a:LF P f vs w pv R K)
  (e:∀w',K w' →Pw n E (Q (.panic [{v:=pv,recovered:=false}])) w') (k:∀v w',R v w' →Lw P l0 Q n rest ((d,v)::E) w'):Lw P l0 Q n (⟨some d, .call {callee:= .value (.func f),args:=xs.toArray,argTypes:=c},ty,pos,af,none⟩::rest) E w:=
 Lw.callQ (Xc.mk a.1 g) b a e k
theorem Eu {T:TypeId} {d:Array Field} {v:Value} (c:P.underlying T=some (.struct d)) (e:ev E x=some v):Ex P n E (.makeInterface T x) ty w (.iface T v):=fun a b _ _ _ _=>by
 simp [execOp,b.ev e,Instr.makeInterface,run_underlying c]
theorem E2 {d:Option Nat} {T:TypeId} {v:Value} (c:ev E x=some (.iface T v)) (h:Pw n E (Q (.panic [{v:= .iface T v,recovered:=false}])) w):Lw P l0 Q n (⟨d, .panic x,ty,pos,af,none⟩::rest) E w:=
 fun a b=>wpList_plain rfl fun f _=>by
  unfold Oper.wp
  have e:(execOp a.eval ⟨d, .panic x,ty,pos,af,none⟩).run P w= .halt (.panic (.iface T v)) w:=by simp [execOp,b.ev c,Instr.panic]
  rw [e]
  exact h a b
end
end Go.Dd

namespace Go.Proofs.YtblbopcaflaldaaGreatDoor
open Go Go.Dd List Go.Proofs.Tryz
set_option maxRecDepth 100000
theorem mixed:Tryz.prog.follows .mixedOrders=true:=by kernel_rfl
theorem K2:Tryz.prog.underlying 3=some (.int .i64):=underlying3
theorem PL:(Tryz.prog.underlying 3).isSome=true:=by rw [K2];rfl
theorem AI (w:World):(isAgg 3).run prog w= .ok false w:=isAgg3 w
theorem AV (w:World):(sizeOf 3).run prog w= .ok 1 w:=sizeOf3 w
theorem DT:He prog 3 [.int .i64 0] 8:=⟨⟨_,(show Tryz.prog.info? 3=some Tryz.t3 by kernel_rfl),rfl,rfl,_,rfl,rfl⟩⟩
theorem UY:Tryz.prog.underlying 4=some (.bool):=underlying4
theorem Uz (w:World):(sizeOf 4).run prog w= .ok 1 w:=sizeOf4 w
theorem Va:He prog 4 [.bool false] 1:=⟨⟨_,(show Tryz.prog.info? 4=some Tryz.t4 by kernel_rfl),rfl,rfl,_,rfl,rfl⟩⟩
theorem RS:Tryz.prog.underlying 5=some (.int .u8):=underlying5
theorem UX:(Tryz.prog.underlying 5).isSome=true:=by rw [RS];rfl
theorem UK (w:World):(isAgg 5).run prog w= .ok false w:=isAgg5 w
theorem Tm (w:World):(sizeOf 5).run prog w= .ok 1 w:=sizeOf5 w
theorem UG:He prog 5 [.int .u8 0] 1:=⟨⟨_,(show Tryz.prog.info? 5=some Tryz.t5 by kernel_rfl),rfl,rfl,_,rfl,rfl⟩⟩
theorem FC:Tryz.prog.underlying 9=some (.string):=underlying9
theorem EB (w:World):(isAgg 9).run prog w= .ok false w:=isAgg9 w
theorem Ic (w:World):(sizeOf 9).run prog w= .ok 1 w:=sizeOf9 w
theorem HU:He prog 9 [.string ⟨#[]⟩] 16:=⟨⟨_,(show Tryz.prog.info? 9=some Tryz.t9 by kernel_rfl),rfl,rfl,_,rfl,rfl⟩⟩
theorem SN:Tryz.prog.underlying 21=some (.int .i32):=underlying21
theorem Tb (w:World):(isAgg 21).run prog w= .ok false w:=isAgg21 w
theorem U0 (w:World):(sizeOf 21).run prog w= .ok 1 w:=sizeOf21 w
theorem SQ:He prog 21 [.int .i32 0] 4:=⟨⟨_,(show Tryz.prog.info? 21=some Tryz.t21 by kernel_rfl),rfl,rfl,_,rfl,rfl⟩⟩
theorem BA:FO prog 22 79 5:=⟨underlying22,sizeOf79⟩
theorem Uw:Tryz.prog.underlying 22=some (.slice 79):=underlying22
theorem CS (w:World):(isAgg 22).run prog w= .ok false w:=isAgg22 w
theorem BY (w:World):(sizeOf 22).run prog w= .ok 1 w:=sizeOf22 w
theorem DW (w:World):(isAgg 24).run prog w= .ok true w:=isAgg24 w
theorem DV (w:World):(sizeOf 24).run prog w= .ok 1 w:=sizeOf24 w
theorem Jh:He prog 24 [.slice none 0 0] 24:=⟨⟨_,(show Tryz.prog.info? 24=some Tryz.t24 by kernel_rfl),rfl,rfl,_,rfl,rfl⟩⟩
theorem HM:FO prog 25 75 2:=⟨underlying25,sizeOf75⟩
theorem I9 (w:World):(isAgg 25).run prog w= .ok false w:=isAgg25 w
theorem Hp (w:World):(sizeOf 25).run prog w= .ok 1 w:=sizeOf25 w
theorem Hq:FO prog 28 5 1:=⟨underlying28,sizeOf5⟩
theorem I8 (w:World):(isAgg 28).run prog w= .ok false w:=isAgg28 w
theorem Ho (w:World):(sizeOf 28).run prog w= .ok 1 w:=sizeOf28 w
theorem JG:FO prog 39 179 3:=⟨underlying39,sizeOf179⟩
theorem Ky (w:World):(isAgg 39).run prog w= .ok false w:=isAgg39 w
theorem JB (w:World):(sizeOf 39).run prog w= .ok 1 w:=sizeOf39 w
theorem Ig:FO prog 40 182 3:=⟨underlying40,sizeOf182⟩
theorem Jo (w:World):(isAgg 40).run prog w= .ok false w:=isAgg40 w
theorem HK (w:World):(sizeOf 40).run prog w= .ok 1 w:=sizeOf40 w
theorem JF:FO prog 41 185 3:=⟨underlying41,sizeOf185⟩
theorem Kx (w:World):(isAgg 41).run prog w= .ok false w:=isAgg41 w
theorem JA (w:World):(sizeOf 41).run prog w= .ok 1 w:=sizeOf41 w
theorem Qt:FO prog 42 188 3:=⟨underlying42,sizeOf188⟩
theorem RF (w:World):(isAgg 42).run prog w= .ok false w:=isAgg42 w
theorem Qh (w:World):(sizeOf 42).run prog w= .ok 1 w:=sizeOf42 w
theorem Qs:FO prog 43 191 3:=⟨underlying43,sizeOf191⟩
theorem RE (w:World):(isAgg 43).run prog w= .ok false w:=isAgg43 w
theorem Qg (w:World):(sizeOf 43).run prog w= .ok 1 w:=sizeOf43 w
theorem JE:FO prog 44 194 3:=⟨underlying44,sizeOf194⟩
theorem Kw (w:World):(isAgg 44).run prog w= .ok false w:=isAgg44 w
theorem J9 (w:World):(sizeOf 44).run prog w= .ok 1 w:=sizeOf44 w
theorem Ie:FO prog 45 197 3:=⟨underlying45,sizeOf197⟩
theorem Jn (w:World):(isAgg 45).run prog w= .ok false w:=isAgg45 w
theorem HJ (w:World):(sizeOf 45).run prog w= .ok 1 w:=sizeOf45 w
theorem Qr:FO prog 46 201 3:=⟨underlying46,sizeOf201⟩
theorem RC (w:World):(isAgg 46).run prog w= .ok false w:=isAgg46 w
theorem Qf (w:World):(sizeOf 46).run prog w= .ok 1 w:=sizeOf46 w
theorem Qq:FO prog 47 208 3:=⟨underlying47,sizeOf208⟩
theorem RB (w:World):(isAgg 47).run prog w= .ok false w:=isAgg47 w
theorem Qe (w:World):(sizeOf 47).run prog w= .ok 1 w:=sizeOf47 w
theorem Qp:FO prog 48 214 3:=⟨underlying48,sizeOf214⟩
theorem RA (w:World):(isAgg 48).run prog w= .ok false w:=isAgg48 w
theorem Qd (w:World):(sizeOf 48).run prog w= .ok 1 w:=sizeOf48 w
theorem Qo:FO prog 49 220 3:=⟨underlying49,sizeOf220⟩
theorem R9 (w:World):(isAgg 49).run prog w= .ok false w:=isAgg49 w
theorem Qc (w:World):(sizeOf 49).run prog w= .ok 1 w:=sizeOf49 w
theorem Qn:FO prog 50 226 3:=⟨underlying50,sizeOf226⟩
theorem R8 (w:World):(isAgg 50).run prog w= .ok false w:=isAgg50 w
theorem Qb (w:World):(sizeOf 50).run prog w= .ok 1 w:=sizeOf50 w
theorem Qm:FO prog 51 232 3:=⟨underlying51,sizeOf232⟩
theorem R7 (w:World):(isAgg 51).run prog w= .ok false w:=isAgg51 w
theorem Qa (w:World):(sizeOf 51).run prog w= .ok 1 w:=sizeOf51 w
theorem Ql:FO prog 52 237 3:=⟨underlying52,sizeOf237⟩
theorem R6 (w:World):(isAgg 52).run prog w= .ok false w:=isAgg52 w
theorem PZ (w:World):(sizeOf 52).run prog w= .ok 1 w:=sizeOf52 w
theorem Qk:FO prog 53 240 3:=⟨underlying53,sizeOf240⟩
theorem R5 (w:World):(isAgg 53).run prog w= .ok false w:=isAgg53 w
theorem PY (w:World):(sizeOf 53).run prog w= .ok 1 w:=sizeOf53 w
theorem UF:He prog 55 [.int .i64 0, .slice none 0 0, .slice none 0 0, .slice none 0 0, .slice none 0 0, .slice none 0 0, .slice none 0 0, .slice none 0 0, .slice none 0 0, .slice none 0 0, .slice none 0 0, .slice none 0 0, .slice none 0 0, .slice none 0 0, .slice none 0 0, .slice none 0 0] 368:=⟨⟨_,(show Tryz.prog.info? 55=some Tryz.t55 by kernel_rfl),rfl,rfl,_,rfl,rfl⟩⟩
theorem AD:FO prog 70 3 1:=⟨underlying70,sizeOf3⟩
theorem PO:Tryz.prog.underlying 70=some (.slice 3):=underlying70
theorem AK (w:World):(isAgg 70).run prog w= .ok false w:=isAgg70 w
theorem AU (w:World):(sizeOf 70).run prog w= .ok 1 w:=sizeOf70 w
theorem Jg:He prog 70 [.slice none 0 0] 24:=⟨⟨_,(show Tryz.prog.info? 70=some Tryz.t70 by kernel_rfl),rfl,rfl,_,rfl,rfl⟩⟩
theorem HL:FO prog 73 21 1:=⟨underlying73,sizeOf21⟩
theorem I7 (w:World):(isAgg 73).run prog w= .ok false w:=isAgg73 w
theorem Hn (w:World):(sizeOf 73).run prog w= .ok 1 w:=sizeOf73 w
theorem Ta (w:World):(isAgg 75).run prog w= .ok true w:=isAgg75 w
theorem SO (w:World):(sizeOf 75).run prog w= .ok 2 w:=sizeOf75 w
theorem QZ:He prog 75 [.slice none 0 0, .slice none 0 0] 48:=⟨⟨_,(show Tryz.prog.info? 75=some Tryz.t75 by kernel_rfl),rfl,rfl,_,rfl,rfl⟩⟩
theorem CJ:Tryz.prog.underlying 77=some (.int .u8):=underlying77
theorem DG (w:World):(isAgg 77).run prog w= .ok false w:=isAgg77 w
theorem DA (w:World):(sizeOf 77).run prog w= .ok 1 w:=sizeOf77 w
theorem CY (w:World):(isAgg 79).run prog w= .ok true w:=isAgg79 w
theorem CW (w:World):(sizeOf 79).run prog w= .ok 5 w:=sizeOf79 w
theorem EA:He prog 79 [.int .u8 0, .slice none 0 0, .slice none 0 0, .int .i64 0, .int .i64 0] 72:=⟨⟨_,(show Tryz.prog.info? 79=some Tryz.t79 by kernel_rfl),rfl,rfl,_,rfl,rfl⟩⟩
theorem TV:He prog 106 [] 0:=⟨⟨_,(show Tryz.prog.info? 106=some Tryz.t106 by kernel_rfl),rfl,rfl,_,rfl,rfl⟩⟩
theorem TU:He prog 121 [.pointer none, .slice none 0 0] 32:=⟨⟨_,(show Tryz.prog.info? 121=some Tryz.t121 by kernel_rfl),rfl,rfl,_,rfl,rfl⟩⟩
theorem RI (w:World):(isAgg 122).run prog w= .ok false w:=isAgg122 w
theorem Tq (w:World):(sizeOf 122).run prog w= .ok 1 w:=sizeOf122 w
theorem TT:He prog 122 [.map none] 8:=⟨⟨_,(show Tryz.prog.info? 122=some Tryz.t122 by kernel_rfl),rfl,rfl,_,rfl,rfl⟩⟩
theorem RH (w:World):(isAgg 125).run prog w= .ok true w:=isAgg125 w
theorem Qi (w:World):(sizeOf 125).run prog w= .ok 5 w:=sizeOf125 w
theorem NC:He prog 125 [.string ⟨#[]⟩, .int .i64 0, .int .i64 0, .string ⟨#[]⟩, .string ⟨#[]⟩] 64:=⟨⟨_,(show Tryz.prog.info? 125=some Tryz.t125 by kernel_rfl),rfl,rfl,_,rfl,rfl⟩⟩
theorem AS:FO prog 126 9 1:=⟨underlying126,sizeOf9⟩
theorem H4 (w:World):(isAgg 126).run prog w= .ok false w:=isAgg126 w
theorem FD (w:World):(sizeOf 126).run prog w= .ok 1 w:=sizeOf126 w
theorem RG (w:World):(isAgg 135).run prog w= .ok false w:=isAgg135 w
theorem Tp (w:World):(sizeOf 135).run prog w= .ok 1 w:=sizeOf135 w
theorem TS:He prog 135 [.map none] 8:=⟨⟨_,(show Tryz.prog.info? 135=some Tryz.t135 by kernel_rfl),rfl,rfl,_,rfl,rfl⟩⟩
theorem Uh (w:World):(isAgg 137).run prog w= .ok false w:=isAgg137 w
theorem To (w:World):(sizeOf 137).run prog w= .ok 1 w:=sizeOf137 w
theorem TR:He prog 137 [.pointer none] 8:=⟨⟨_,(show Tryz.prog.info? 137=some Tryz.t137 by kernel_rfl),rfl,rfl,_,rfl,rfl⟩⟩
theorem AQ:FO prog 149 70 1:=⟨underlying149,sizeOf70⟩
theorem Oo (w:World):(isAgg 149).run prog w= .ok false w:=isAgg149 w
theorem JC (w:World):(sizeOf 149).run prog w= .ok 1 w:=sizeOf149 w
theorem On (w:World):(isAgg 179).run prog w= .ok true w:=isAgg179 w
theorem Ni (w:World):(sizeOf 179).run prog w= .ok 3 w:=sizeOf179 w
theorem NB:He prog 179 [.slice none 0 0, .slice none 0 0, .int .i64 0] 56:=⟨⟨_,(show Tryz.prog.info? 179=some Tryz.t179 by kernel_rfl),rfl,rfl,_,rfl,rfl⟩⟩
theorem Om (w:World):(isAgg 182).run prog w= .ok true w:=isAgg182 w
theorem Nh (w:World):(sizeOf 182).run prog w= .ok 3 w:=sizeOf182 w
theorem Kf:He prog 182 [.slice none 0 0, .slice none 0 0, .int .i64 0] 56:=⟨⟨_,(show Tryz.prog.info? 182=some Tryz.t182 by kernel_rfl),rfl,rfl,_,rfl,rfl⟩⟩
theorem Ol (w:World):(isAgg 185).run prog w= .ok true w:=isAgg185 w
theorem Ng (w:World):(sizeOf 185).run prog w= .ok 3 w:=sizeOf185 w
theorem NA:He prog 185 [.slice none 0 0, .slice none 0 0, .int .i64 0] 56:=⟨⟨_,(show Tryz.prog.info? 185=some Tryz.t185 by kernel_rfl),rfl,rfl,_,rfl,rfl⟩⟩
theorem Oj (w:World):(isAgg 194).run prog w= .ok true w:=isAgg194 w
theorem Nf (w:World):(sizeOf 194).run prog w= .ok 3 w:=sizeOf194 w
theorem N9:He prog 194 [.slice none 0 0, .slice none 0 0, .int .i64 0] 56:=⟨⟨_,(show Tryz.prog.info? 194=some Tryz.t194 by kernel_rfl),rfl,rfl,_,rfl,rfl⟩⟩
theorem Oi (w:World):(isAgg 197).run prog w= .ok true w:=isAgg197 w
theorem Nb (w:World):(sizeOf 197).run prog w= .ok 3 w:=sizeOf197 w
theorem Ke:He prog 197 [.slice none 0 0, .slice none 0 0, .int .i64 0] 56:=⟨⟨_,(show Tryz.prog.info? 197=some Tryz.t197 by kernel_rfl),rfl,rfl,_,rfl,rfl⟩⟩
theorem Ug (w:World):(isAgg 273).run prog w= .ok true w:=isAgg273 w
theorem Tn (w:World):(sizeOf 273).run prog w= .ok 1 w:=sizeOf273 w
theorem TQ:He prog 273 [.slice none 0 0] 24:=⟨⟨_,(show Tryz.prog.info? 273=some Tryz.t273 by kernel_rfl),rfl,rfl,_,rfl,rfl⟩⟩
theorem EV (w:World):(isAgg 275).run prog w= .ok true w:=isAgg275 w
theorem EN (w:World):(sizeOf 275).run prog w= .ok 6 w:=sizeOf275 w
theorem Hx:He prog 275 [.int .i64 0, .int .i64 0, .int .i64 0, .int .i64 0, .int .i64 0, .int .i64 0] 48:=⟨⟨_,(show Tryz.prog.info? 275=some Tryz.t275 by kernel_rfl),rfl,rfl,_,rfl,rfl⟩⟩
theorem PP:Tryz.prog.underlying 318=some (.int .u64):=underlying318
theorem MY:(Tryz.prog.underlying 318).isSome=true:=by rw [PP];rfl
end Go.Proofs.YtblbopcaflaldaaGreatDoor

namespace Go.Dd.Shapes
def prod:List Int→Int
 |[]=>1
 |x::s=>x*prod s
def tim (n:Int):List Int→Int
 |[]=>n
 |x::l=>if x<1∨64<x then 0 else if 4096<n*x then 0 else tim (n*x) l
def size (s:List Int):Int:=if s.length<1∨4<s.length then 0 else tim 1 s
def good (s:List Int):Prop:=∀x ∈ s,1≤x∧x≤64
def ok (s:List Int):Bool:=decide (0<size s)
def Vj:List Int→List Int→Bool
 |[],[]=>true
 |x::s,a::t=>decide (0≤a) && decide (a<x) && Vj s t
 |_,_=>false
def idx:List Int→List Int→Int
 |_::s,a::t=>a*prod s+idx s t
 |_,_=>0
def LZ:List Int→Int→List Int
 |[],_=>[]
 |x::s,i=>(i / prod s % x)::LZ s i
def index (s t:List Int):Int×Int:=if ok s && Vj s t then (idx s t,0) else (0,1)
theorem good_cons {x:Int} {s:List Int}:good (x::s)↔(1≤x∧x≤64)∧good s:=by simp [good]
theorem good_append {s t:List Int}:good (s++t)↔good s∧good t:=by
 simp only [good,List.mem_append]
 exact ⟨fun h=>⟨fun x a=>h x (.inl a),fun x a=>h x (.inr a)⟩,fun h x a=>a.elim (h.1 x) (h.2 x)⟩
theorem P3 {s:List Int} (h:good s) (k:Nat):good (s.drop k):=fun x a=>h x (List.mem_of_mem_drop a)
theorem prod_append (s t:List Int):prod (s++t)=prod s*prod t:=by
 induction s with
 |nil=>simp [prod]
 |cons x s ih=>simp [prod,ih,Int.mul_assoc]
theorem prod_pos:∀{s:List Int},good s→1≤prod s
 |[],_=>by simp [prod]
 |x::s,h=>by
  have a:=(good_cons.1 h).1
  have b:=prod_pos (good_cons.1 h).2
  have:=Int.mul_le_mul a.1 b (by omega) (by omega)
  simpa [prod] using this
theorem Le:∀(s:List Int) (n:Int),1≤n→n≤4096→(good s∧n*prod s≤4096∧tim n s=n*prod s)∨(¬(good s∧n*prod s≤4096)∧tim n s=0)
 |[],n,h1,h2=> .inl ⟨by simp [good],by simpa [prod] using h2,by simp [tim,prod]⟩
 |x::s,n,h1,h2=>by
  by_cases hx:x<1∨64<x
  ·exact .inr ⟨fun h=>by have:=(good_cons.1 h.1).1;omega,by simp [tim,hx]⟩
  ·have b:1≤x:=by omega
   have a:1≤n*x:=by have:=Int.mul_le_mul h1 b (by omega) (by omega);simpa using this
   by_cases h4:4096<n*x
   ·refine .inr ⟨fun h=> ?_,by simp [tim,hx,h4]⟩
    have d:=prod_pos (good_cons.1 h.1).2
    have i:=Int.mul_le_mul (Int.le_refl (n*x)) d (by omega) (by omega)
    have c:=h.2
    simp only [prod,← Int.mul_assoc] at c
    omega
   ·have f:tim n (x::s)=tim (n*x) s:=by simp [tim,hx,h4]
    have e:n*prod (x::s)=n*x*prod s:=by simp [prod,Int.mul_assoc]
    rw [f,e]
    rcases Le s (n*x) a (by omega) with ⟨g,l,t⟩|⟨g,t⟩
    ·exact .inl ⟨good_cons.2 ⟨by omega,g⟩,l,t⟩
    ·exact .inr ⟨fun h=>g ⟨(good_cons.1 h.1).2,h.2⟩,t⟩
theorem RY (s:List Int):0≤tim 1 s∧tim 1 s≤4096:=by
 rcases Le s 1 (by omega) (by omega) with ⟨g,l,t⟩|⟨g,t⟩
 ·have:=prod_pos g;omega
 ·omega
theorem size_le (s:List Int):0≤size s∧size s≤4096:=by
 unfold size
 split
 ·omega
 ·exact RY s
theorem ok_iff (s:List Int):ok s=true↔(1≤s.length∧s.length≤4)∧good s∧prod s≤4096:=by
 unfold ok size
 rw [decide_eq_true_iff]
 split
 ·omega
 ·rcases Le s 1 (by omega) (by omega) with ⟨g,l,t⟩|⟨g,t⟩
  ·have:=prod_pos g
   simp only [Int.one_mul] at l t
   rw [t];exact ⟨fun _=>⟨by omega,g,l⟩,fun _=>by omega⟩
  ·simp only [Int.one_mul] at g
   rw [t];exact ⟨fun h=>by omega,fun h=>absurd h.2 g⟩
theorem size_ok {s:List Int} (h:ok s=true):size s=prod s:=by
 have a:=(ok_iff s).1 h
 unfold size
 rw [if_neg (by omega)]
 rcases Le s 1 (by omega) (by omega) with ⟨g,l,t⟩|⟨g,t⟩
 ·simpa using t
 ·exact absurd ⟨a.2.1,by simpa using a.2.2⟩ g
theorem size_no {s:List Int} (h:ok s=false):size s=0:=by
 have:=size_le s
 unfold ok at h
 have:=AB h
 omega
theorem ok_prod {s:List Int} (h:ok s=true) (k:Nat):1≤prod (s.drop k)∧prod (s.drop k)≤4096:=by
 obtain ⟨_,g,l⟩:=(ok_iff s).1 h
 have a:=prod_pos (P3 g k)
 refine ⟨a, ?_⟩
 have d:prod s=prod (s.take k)*prod (s.drop k):=by rw [← prod_append,List.take_append_drop]
 have b:=prod_pos (s:=s.take k) fun x c=>g x (List.mem_of_mem_take c)
 have:=Int.mul_le_mul b (Int.le_refl (prod (s.drop k))) (by omega) (by omega)
 omega
theorem prod_drop {s:List Int} {k:Nat} (h:k<s.length):prod (s.drop k)=s.getD k default*prod (s.drop (k+1)):=by
 rw [List.drop_eq_getElem_cons h];simp [prod,h]
end Go.Dd.Shapes

namespace Go.Proofs.YtblbopcaflaldaaGreatDoor
open Go Go.Dd Go.RowKit List Go.Proofs.Tryz
set_option maxRecDepth 100000
theorem PU {l:List Int} {i:Nat} {n:Int} (h:i<l.length):Shapes.tim n (l.drop i)=(if l.getD i default<1∨64<l.getD i default then 0 else if 4096<n*l.getD i default then 0 else Shapes.tim (n*l.getD i default) (l.drop (i+1))):=by
 rw [drop_eq_getElem_cons h];simp [Shapes.tim,h]
theorem RX (v:Value) (l:List Int) (w:World) (m:CA (Value.int .i64) w v l):AJ prog 223 [v] w (fun r w' =>r= .int .i64 (Shapes.tim 1 l)∧Below w.heap.size w w'):=by
 have o:=m.le
 refine Bd (n:=25) func223 O<|Ah<|Ab O<|Bg<|Ab O<|Bj<|Ad O<|Aa (Au AD O ‹_›) O ?_
 refine Ad O<|Aj<|Ar ?_
 refine Bo (S:=(Nat×Int)) (fun s=>[(3, .int .i64 s.2),(6,v),(7, .int .i64 (l.length:Int)),(8, .int .i64 (s.1:Int))]) (fun s w' =>s.1≤l.length∧(1≤s.2∧s.2≤4096)∧Shapes.tim s.2 (l.drop s.1)=Shapes.tim 1 l∧w' =w) (fun s=>l.length - s.1) ((0,1)) ⟨rfl,rfl,rfl,rfl,trivial⟩ ?_ ?_
 ·exact ⟨by simp,by simp,by simp,rfl⟩
 rintro ⟨i,n⟩ q ⟨p,k,a,rfl⟩
 dsimp only at p k a ⊢
 refine Ah<|B1 O<|Aj<|Aq<|Ao O ?_ ?_
 ·intro h
  have b:i<l.length:=by simp at h;omega
  rw [PU b] at a
  refine B2<|Aq<|Ar<|Ah<|Aa (Bf AD O O ‹_› _ O (by omega)) O ?_
  refine Aa (Bl (AI _) O ‹_› (by omega)) O ?_
  refine Ab O<|Bj<|Ad O<|B1 O<|Ad O ?_
  generalize l.getD i default=x at a ⊢
  refine Bx 14 O ?_ ?_
  ·intro g
   have e:=AC g
   refine Ae (dj:=14) O O O O<|Ae (dj:=14) O O O O<|Bu O<|Aj<|B3 O<|Ah<|Ab O<|Bz<|Ba<|Ap<|Ap<|Ba<|Ap<|Ax O O ?_
   refine ⟨?_,Below.refl _ _⟩
   rw [← a,if_pos (.inl e)]
  intro g
  have e:=AB g
  refine Af (dj:=14) O O<|Ad O<|Af (dj:=14) O O<|Aa (Da O O) O<|B4 O<|Aj<|Ao O ?_ ?_
  ·intro f
   have d:=AC f
   refine Ah<|Ab O<|Bz<|Ba<|Ap<|Ap<|Ba<|Ap<|Ax O O ?_
   refine ⟨?_,Below.refl _ _⟩
   rw [← a,if_pos (.inr d)]
  intro f
  have d:=AB f
  have t:n*1≤n*x∧n*x≤4096*64:=⟨Int.mul_le_mul_of_nonneg_left (by omega) (by omega),Int.mul_le_mul k.2 (by omega) (by omega) (by omega)⟩
  rw [if_neg (by omega)] at a
  refine Cp<|Ad O<|Ad O<|Aa (D8 O O (by omega)) O<|Ab O<|Bg<|Ad O<|Aa (Da O O) O<|Aj<|Ao O ?_ ?_
  ·intro j
   have c:=AC j
   refine Ah<|Ab O<|Ay<|Ba<|Ap<|Ap<|Ba<|Ap<|Ax O O ?_
   refine ⟨?_,Below.refl _ _⟩
   rw [← a,if_pos c]
  intro j
  have c:=AB j
  rw [if_neg c] at a
  refine Ca<|Bi<|Cd<|B9 O (by omega)<|Ad O<|Be ?_
  exact Av (Bw ((i+1,n*x)) ⟨rfl,rfl,rfl,rfl,trivial⟩ (⟨b,⟨by omega,by omega⟩,a,rfl⟩) (by simp only;omega))
 ·intro h
  have b:i=l.length:=by simp at h;omega
  subst b
  refine Bn<|Al<|Al<|Bc<|Ci<|Ad O<|Ab O<|Ay<|Ax O O ?_
  refine ⟨?_,Below.refl _ _⟩
  rw [← a,drop_length];rfl
theorem Nk (v:Value) (l:List Int) (w:World) (e:CA (Value.int .i64) w v l):AJ prog 138 [v] w (fun r w' =>r= .int .i64 (Shapes.size l)∧Below w.heap.size w w'):=by
 refine Bd (n:=13) func138 O<|Ah<|Ab O<|Bj<|Ad O<|Aa (Au AD O ‹_›) O ?_
 refine B1 O<|Ad O ?_
 refine Bx 6 O ?_ ?_
 ·intro c
  have d:=AC c
  exact Ae (dj:=6) rfl rfl rfl rfl<|Ae (dj:=6) rfl rfl rfl rfl<|Ae (dj:=6) rfl rfl rfl rfl<|Bu rfl<|Aj<|B3 rfl<|Ah<|Ab rfl<|Bz<|Ax rfl rfl<|⟨by rw [Shapes.size,if_pos (by omega)],Below.refl _ _⟩
 intro c
 have d:=AB c
 refine Af (dj:=6) O O<|Ad O<|Af (dj:=6) O O<|Aa (Au AD O ‹_›) O ?_
 refine Af (dj:=6) O O<|Aa (Da O O) O<|B4 O<|Aj<|Ao O ?_ ?_
 ·intro b
  have a:=AC b
  exact Ah<|Ab rfl<|Bz<|Ax rfl rfl<|⟨by rw [Shapes.size,if_pos (by omega)],Below.refl _ _⟩
 intro b
 have a:=AB b
 refine Cp<|Ad O<|An O O (RX v l w e) ?_
 rintro _ g ⟨rfl,f⟩
 exact Ab rfl<|Ay<|Ax rfl rfl<|⟨by rw [Shapes.size,if_neg (by omega)],f⟩
theorem G9 (v:Value) (l:List Int) (w:World) (a:CA (Value.int .i64) w v l):AJ prog 137 [v] w (fun r w' =>r= .bool (Shapes.ok l)∧Below w.heap.size w w'):=by
 refine Bd (n:=6) func137 O<|Ah<|Ab O<|Bg<|Ad O<|An O O (Nk v l w a) ?_
 rintro _ c ⟨rfl,b⟩
 exact Aa (Da rfl rfl) rfl<|Ab rfl<|Ay<|Ax rfl rfl<|⟨rfl,b⟩
def Tf (W w' :World) (x:Value) (l:List Int):Prop:=∃b,W.heap.size≤b∧w'.ownsRow b 3 1 x l.length (l.map (Value.int .i64))∧(x= .slice none 0 0∨x= .slice (some ⟨b,0,none⟩) l.length l.length)
theorem Tf.sl {W w' :World} {x:Value} {l:List Int} (h:Tf W w' x l):CA (Value.int .i64) w' x l:=by
 obtain ⟨b,_,h,_⟩:=h
 exact AG h
end Go.Proofs.YtblbopcaflaldaaGreatDoor

namespace Go.Dd
open Go Go.RowKit
open List hiding get
section
variable {P : Program} {n : Nat} {E : BZ} {w : World} {ty t e : TypeId} {x y z : Operand} {v u : Value} {sz : Nat}
def pev (E:BZ):List (Nat×Operand)→Option (List (Nat×Value))
 |[]=>some []
 |(i,x)::l=>match ev E x,pev E l with
  |some v,some vs=>some ((i,v)::vs)
  |_,_=>none
theorem BR.pev {a:Act} (h:BR n E a):∀{l:List (Nat×Operand)} {vs:List (Nat×Value)},pev E l=some vs→l.map (fun p=>(p.1,a.eval p.2))=vs
 |[],vs,hp=>by simp only [Dd.pev,Option.some.injEq] at hp;subst hp;rfl
 |(i,x)::l,vs,hp=>by
  simp only [Dd.pev] at hp
  split at hp
  ·rename_i v f b c
   simp only [Option.some.injEq] at hp
   subst hp
   rw [map_cons,h.pev c,h.ev b]
  ·cases hp
theorem Cc {ps:List (Nat×Operand)} {vs:List (Nat×Value)} {cs:List Value} (c:pev E ps=some vs) (h:P.built t vs=some cs.toArray):Ex P n E (.build t ps.toArray) ty w (.agg cs.toArray):=fun a f _ _ _ _=>by
 have b:ps.toArray.map (fun (i,x)=>(i,a.eval x))=vs.toArray:=by rw [map_toArray,← f.pev c]
 have g:=run_build (P:=P) w t vs.toArray cs.toArray (by simpa using h)
 simp only [execOp,b,Sem.run_bind,g,Result.andThen_ok]
 rfl
theorem Gc {ps:List (Nat×Operand)} {vs:List (Nat×Value)} {cs j:List Value} {c k:Nat} (o:FO P t e sz) (D:He P e j c) (A:pev E ps=some vs) (l:0<sz) (H:0<k) (C:k*sz≤16777216)
  (B:Instr.fill (fun i=>some (i*sz,sz)) ((Array.range (k*sz)).map (j.toArray[· % j.toArray.size]!)) vs=some cs.toArray) (b:cs.length=k*sz):
  Xw P n E (.buildSlice t k ps.toArray) ty w (fun v w' =>w'.ownsRow w.heap.size e sz v k cs∧v= .slice (some ⟨w.heap.size,0,none⟩) k k∧Below w.heap.size w w' ∧w'.heap.size=w.heap.size+1):=fun a F=>by
 obtain ⟨i,q,G,I,zv,p,r⟩:=D.i
 have g:ps.toArray.map (fun (i,x)=>(i,a.eval x))=vs.toArray:=by rw [map_toArray,← F.pev A]
 have f:¬(k*sz>2 ^ 24):=by omega
 have m:k*1≤k*sz:=Nat.mul_le_mul_left k l
 have s:(zeroValue e).run P w= .ok zv w:=by simp [zeroValue,typeInfo,q,p]
 have h:¬(k*sz=0):=by omega
 refine ⟨.slice (some ⟨w.heap.size,0,none⟩) k k,w.alloc (.cells cs.toArray e),fun _ _ _ _=> ?_,⟨b, .inr ⟨w.heap.size,k,cs.toArray,rfl,AX _,heap_alloc_new w _,AX _,by unfold maxLen;omega,by simpa using b, ?_⟩⟩,rfl,DR w _,by simp⟩
 ·simp only [execOp,Instr.buildSlice,Sem.run_bind,run_underlying o.u,Result.andThen_ok,o.s w,Sem.run_ite,if_neg f,Sem.run_pure,g,if_neg h,s,r,B]
  simp [newRow]
 ·rw [take_of_length_le (by simp [b])]
theorem Ik (d:Nat) (a:Option Addr) (c cap:Nat) (b:P.underlying t=some (.slice e)):(Op.equalIn (d+1) t (.slice a c cap) (.slice none 0 0)).run P w= .ok a.isNone w:=by
 cases a<;>simp [Op.equalIn,run_underlying b]
theorem Ex.nilS {f h:TypeId} {b:Option Addr} {c cap:Nat} (k:P.underlying f=some (.slice e)) (o:ev E x=some (.slice b c cap)) (i:ev E y=some (.slice none 0 0)):Ex P n E (.binOp .eql f x y h) ty w (.bool b.isNone):=fun a g _ _ _ _=>by
 have m:eqGuard .eql f x y (.slice b c cap) (.slice none 0 0)=pure ():=rfl
 have l:binOp .eql f (.slice b c cap) (.slice none 0 0)=(do pure (.bool (← Op.equal f (.slice b c cap) (.slice none 0 0)))):=rfl
 have j:=Ik (P:=P) (w:=w) 9999 b c cap k
 simp [execOp,g.ev o,g.ev i,m,l,Op.equal,Op.maxDepth,j]
def clip (v:Value):Value:=match v with
 | .slice ao k _=> .slice ao k k
 |_=>undef
theorem Sl.clip {c:Nat} {xs:List Value} (h:Sl w sz v c xs):Sl w sz (clip v) c xs:=by
 obtain ⟨b,a,cap,rfl,k,j,g,f⟩:=h
 exact ⟨b,a,c,rfl,AX _,by omega,fun i=>by have:=g i;omega,f⟩
theorem Gm {c:Nat} {m:Operand} {j k:IntKind} (f:FO P t e sz) (q:ev E x=some v) (p:ev E y=some (.int j (c:Int))) (r:ev E m=some (.int k (c:Int))) (h:Us v c):Ex P n E (.slice t x none (some y) (some m)) ty w (clip v):=fun a g _ _ _ _=>by
 obtain ⟨b,cap,rfl,B,A,C⟩:=h
 have i:P.underlying t=some (.slice (P.elem t)):=by rw [Program.elem,f.u]
 have o:P.elem t=e:=by rw [Program.elem,f.u]
 have l:=run_slice_hm (P:=P) w t b c cap i j k (c:Int) (c:Int) (by omega) (by omega) (by omega)
 simp only [Int.toNat_natCast,o,f.s w,Result.andThen_ok] at l
 have s:(if c=0 then b else b.map (·.add (0*sz)))=b:=by
  split
  ·rfl
  ·cases b<;>simp [Addr.add]
 simp [execOp,g.ev q,g.ev p,g.ev r,Instr.sliceAt,run_underlying f.u,l,sliced,Dd.clip]
 cases b<;>simp [Addr.add]
theorem C6 {c k o:Nat} {xs cs:List Value} (f:(isAgg e).run P w= .ok true w) (hs:(sizeOf e).run P w= .ok k w) (F:ev E x=some (BW v o)) (h:Sl w sz v c xs) (r:cs.length=k) (g:0<k) (b:∀i,i<k→∃q,cs[i]? =some q∧xs[o+i]? =some q):Ex P n E (.load e x) ty w (.agg cs.toArray):=fun a H _ _ _ _=>by
  subst r
  obtain ⟨_,s,cap,rfl,J,I,D,A⟩:=h
  cases s with
  |none=>
    have:=D rfl
    obtain ⟨q,_,m⟩:=b 0 g
    have p:=(List.getElem?_eq_some_iff.1 m).1
    have : xs.length = 0 := by subst this; obtain rfl : c = 0 := by omega
                               simp_all
    omega
  |some ad=>
    have C:=run_loadCells_list (P:=P) w (ad.add o) cs (fun j u l=>by
      have G:j<cs.length:=(List.getElem?_eq_some_iff.1 l).1
      obtain ⟨q,B,m⟩:=b j G
      rw [B] at l
      cases l
      rw [IA]
      exact A ad rfl _ _ m)
    simp [execOp,H.ev F,BW,Instr.loadAt,Instr.sureAddr,loadVar,f,hs,C]
theorem Dj {o f q:Nat} {g:Array Field} {b:Field} (m:P.underlying t=some (.struct g)) (h:g[f]? =some b) (i:(sizeOf b.type).run P w= .ok (q+1) w) (p:ev E x=some (BW v o)) (j:∃ad c k,v= .slice (some ad) c k):
  Ex P n E (.fieldAddr t x f) ty w (BW v (o+b.offset)):=fun a l _ _ _ _=>by
 obtain ⟨ad,c,k,rfl⟩:=j
 simp [execOp,l.ev p,BW,Instr.fieldAt,Instr.sureAddr,fieldPlace,run_underlying m,h,i,IA]
theorem K6 {f:Func} {p q:Tmp} {a:TypeId} (h:f.results= #[.cell p a, .tmp q]) (tmps:Array Value) (w:World) (g:Nat) (c:TypeId) (cs:Array Value) (i:Nat×Nat) (d:TypeDesc)
  (k:tmps.getD p undef= .pointer (some ⟨g,0,none⟩)) (m:w.heap[g]? =some (.cells cs c i))
  (l:P.underlying a=some d) (j:(match d with| .struct _| .array _ _=>true|_=>false)=true) (o:(P.info? a).map (·.size)=some cs.size):
  (results f tmps).run P w= .ok (.tuple #[.agg cs,tmps.getD q undef]) w:=by
 have b:tmps[p]?.getD undef= .pointer (some ⟨g,0,none⟩):=by simpa using k
 simp [results,h,b,asAddr,run_loadVar_row w g c a cs i d m l j o]
theorem Dk {f:Func} {R:Value→World→Prop} {p q b k:Nat} {T:TypeId} {cs:List Value} {d:TypeDesc} (m:f.results= #[.cell p e, .tmp q]) (i:get E p=some (.pointer (some ⟨b,0,none⟩))) (l:get E q=some u) (r:AN w b T cs)
  (o:P.underlying e=some d) (g:(match d with| .struct _| .array _ _=>true|_=>false)=true) (s:(P.info? e).map (·.size)=some k) (j:cs.length=k) (h:R (.tuple #[.agg cs.toArray,u]) w):Pw n E (RM P f R .ret) w:=fun a c=>by
 subst j
 have:=K6 m a.tmps w b T cs.toArray (0,0) d (by simp [Array.getD_eq_getD_getElem?,c.has _ _ i]) r o g (by simpa using s)
 rw [show a.tmps.getD q undef=u by simp [Array.getD_eq_getD_getElem?,c.has _ _ l]] at this
 exact bodyPost_ret this c.dfr ⟨_,rfl,h⟩
def Vm (n:Nat) (F:BZ) (I:World→Prop):BN:=fun x a w=>x= .normal∧BR n F a∧I w
theorem Cw.mid {c:Code} {F:BZ} {I:World→Prop} {K:Act→World→Prop} {Q:BN} (h:Cw P (Vm n F I) n c E w) (k:∀w',I w' →Pw n F K w'):Cw P (CI K Q) n c E w:=fun a g=>
 Code.wp_mono (fun x i w' b=>by
  obtain ⟨rfl,f,j⟩:=b
  exact k w' j i f) (h a g)
theorem Pw.mid {F:BZ} {I:World→Prop} (hs:MP E F) (b:I w):Pw n E (Vm n F I .normal) w:=fun _ a=>⟨rfl,a.sub hs,b⟩
end
section
variable {P : Program} {Q : BN} {n : Nat} {E : BZ} {w : World} {l0 rest : List Oper} {ty t : TypeId} {pos : String} {af : Array Edge} {d : Nat}
theorem Lw.z2 {ps:List (Nat×Operand)} (h:(pev E ps,Nat.blt d n)=(some [],true)) (k:Lw P l0 Q n rest ((d, .agg ([.slice none 0 0, .slice none 0 0]:List Value).toArray)::E) w) (a:P.built t []=some ([.slice none 0 0, .slice none 0 0]:List Value).toArray:=by kernel_rfl):Lw P l0 Q n (⟨some d, .build t ps.toArray,ty,pos,af,none⟩::rest) E w:=Aa (Cc (congrArg Prod.fst h) a) (congrArg Prod.snd h) k
end
end Go.Dd

namespace Go.Dd
open Go Go.RowKit
open List hiding get set
section
variable {P : Program} {Q : BN} {n : Nat} {E : BZ} {w : World} {l0 rest : List Oper} {ty ty2 e : TypeId} {pos pos2 : String} {af af2 : Array Edge} {x y : Operand} {v u : Value}
theorem Cv {d k a:Nat} {cs c:List Value} (hi:He P e c a) (hs:(P.info? e).map (·.size)=some k) (m:cs.length=k) (F:c.length=k) (j:Nat.blt d n=true) (q:∀v,ev ((d,v)::E) y=some (.agg cs.toArray)) (b:cs.all (·.oneCell')=true)
  (h:∀A w',A=w.heap.size→AN w' A e cs→Below w.heap.size w w' →w'.heap.size=w.heap.size+1→Lw P l0 Q n rest ((d, .pointer (some ⟨A,0,none⟩))::E) w'):
  Lw P l0 Q n (⟨some d, .alloc e,ty,pos,af,none⟩::⟨none, .store e (.tmp d) y,ty2,pos2,af2,none⟩::rest) E w:=by
 refine Bq (Xw.new hi) j fun v G ⟨p,r,g,o⟩=> ?_
 subst p
 refine Br (Cz (cs:=cs) hs m (CG _ _ _) (q _) b r F) fun D ⟨t,B,z⟩=> ?_
 exact h _ D rfl t (g.grown B (AA g) (by rintro _ ⟨⟩;exact AX _)) (by omega)
theorem Lw.boxed1 {d a:Nat} {z:Value} (hi:He P e [z] a) (hs:∀w,(sizeOf e).run P w= .ok 1 w) (g:Nat.blt d n=true) (m:∀v,ev ((d,v)::E) y=some u) (b:u.oneCell' =true)
  (h:∀A w',A=w.heap.size→AN w' A e [u]→Below w.heap.size w w' →w'.heap.size=w.heap.size+1→Lw P l0 Q n rest ((d, .pointer (some ⟨A,0,none⟩))::E) w'):
  Lw P l0 Q n (⟨some d, .alloc e,ty,pos,af,none⟩::⟨none, .store e (.tmp d) y,ty2,pos2,af2,none⟩::rest) E w:=by
 refine Bq (Xw.new hi) g fun v B ⟨k,q,c,j⟩=> ?_
 subst k
 refine Br (C4 (u:=u) (hs _) (CG _ _ _) (m _) b q (by simp)) fun r ⟨o,t,p⟩=> ?_
 exact h _ r rfl o (c.grown t (AA c) (by rintro _ ⟨⟩;exact AX _)) (by omega)
theorem Dg {d a:Nat} {c:List Value} (hi:He P e c a) (g:Nat.blt d n=true)
  (h:∀A w',A=w.heap.size→AN w' A e c→Below w.heap.size w w' →w'.heap.size=w.heap.size+1→Lw P l0 Q n rest ((d, .pointer (some ⟨A,0,none⟩))::E) w'):
  Lw P l0 Q n (⟨some d, .alloc e,ty,pos,af,none⟩::rest) E w:=by
 refine Bq (Xw.new hi) g fun v j ⟨k,m,o,b⟩=> ?_
 subst k
 exact h _ j rfl m o b
theorem C0 {d:Nat} {cs:List Value} (m:ev E x=some v) (k:v.cells=cs.toArray) (b:Nat.blt d n=true)
  (h:∀A w',A=w.heap.size→AN w' A e cs→Below w.heap.size w w' →w'.heap.size=w.heap.size+1→Lw P l0 Q n rest ((d, .pointer (some ⟨A,0,none⟩))::E) w'):
  Lw P l0 Q n (⟨some d, .box e x,ty,pos,af,none⟩::rest) E w:=by
 refine Bq (Xw.box m k) b fun v c ⟨g,j,o,a⟩=> ?_
 subst g
 exact h _ c rfl j o a
end
theorem BD {α:Type} {w:World} {B:Nat} {e:TypeId} {k:Nat} {v:Value} {enc:α→Value} {l:List α} (h:w.ownsRow B e 1 v k (l.map enc)):CA enc w v l:=by
 have:k=l.length:=by have:=h.1;simpa using this.symm
 subst this
 exact AG h
theorem DN {w:World} {B b:Nat} {e:TypeId} {sz k:Nat} {v:Value} {xs:List Value} (h:w.ownsRow B e sz v k xs) (m:b≤B):w.ownsRow b e sz v k xs:=
 ⟨h.1,by
  rcases h.2 with h|⟨g,cap,a,j,d,c⟩
  ·exact .inl h
  ·exact .inr ⟨g,cap,a,j,Nat.le_trans m d,c⟩⟩
theorem EF {a b c:World} {r q:Option Nat} (h:a.grownBy b r) (k:b.grownBy c q) (d:∀n,q=some n→a.heap.size≤n):a.grownBy c r:=
 ⟨k.os.trans h.os,k.tape.trans h.tape,k.output.trans h.output,Nat.le_trans h.size k.size,fun i hi g=>(k.block i (Nat.lt_of_lt_of_le hi h.size) (fun e=>by have:=d i e.symm;omega)).trans (h.block i hi g)⟩
theorem Sl.blk {w:World} {sz:Nat} {v:Value} {n:Nat} {xs:List Value} (h:Sl w sz v n xs) (c:xs≠[]):∀b,v.ownBlock=some b→b<w.heap.size:=by
 obtain ⟨o,g,cap,rfl,k,p,m,j⟩:=h
 intro b d
 cases g with
 |none=>cases d
 |some a=>
  have:=FX.lt j c
  simp only [Value.ownBlock,Option.some.injEq] at d
  omega
theorem CL {w w' :World} {base:Nat} {e:TypeId} {sz:Nat} {v:Value} {n:Nat} {xs:List Value} (h:w.ownsRow base e sz v n xs) (k:∀b,v.ownBlock=some b→w'.heap[b]? =w.heap[b]?):w'.ownsRow base e sz v n xs:=by
 obtain ⟨d,c⟩:=h
 rcases c with c|⟨b,cap,a,rfl,j,m,g⟩
 ·exact ⟨d, .inl c⟩
 ·exact ⟨d, .inr ⟨b,cap,a,rfl,j,(k b rfl).trans m,g⟩⟩
def AT (w:World) (base:Nat) (e:TypeId) (sz:Nat) (v:Value) (n:Nat) (xs:List Value):Prop:=
 w.ownsRow base e sz v n xs∨∃g cur,v= .slice (some ⟨g,0,none⟩) n n∧base≤g∧AN w g e cur∧n*sz≤cur.length∧n≤maxLen∧xs=cur.take (n*sz)
namespace AT
variable {w w' : World} {base : Nat} {e : TypeId} {sz : Nat} {v : Value} {n : Nat} {xs : List Value}
theorem len (h:AT w base e sz v n xs):xs.length=n*sz:=by
 rcases h with h|⟨g,a,_,_,_,b,_,rfl⟩
 ·exact h.1
 ·rw [length_take];omega
theorem sl (h:AT w base e sz v n xs):Sl w sz v n xs:=by
 have d:=h.len
 rcases h with h|⟨g,c,rfl,_,o,p,k,rfl⟩
 ·exact AG h
 ·refine ⟨d,some ⟨g,0,none⟩,n,rfl,AX _,k,(fun h=>by cases h),fun a m j u b=> ?_⟩
  cases m
  rw [add_lit,Nat.zero_add,o.cell]
  rw [getElem?_take] at b
  split at b
  ·exact b
  ·cases b
theorem lt (h:AT w base e sz v n xs):∀b,v.ownBlock=some b→base≤b∧b<w.heap.size:=by
 rcases h with h|⟨g,a,rfl,c,d,_⟩
 ·exact AF h
 ·intro b e;cases e;exact ⟨c,BL d⟩
theorem heap (h:AT w base e sz v n xs) (k:∀b,v.ownBlock=some b→w'.heap[b]? =w.heap[b]?):AT w' base e sz v n xs:=by
 rcases h with h|⟨g,a,rfl,d,j,c⟩
 ·exact .inl (CL h k)
 ·exact .inr ⟨g,a,rfl,d,j.keep (k g rfl),c⟩
theorem bs (h:AT w base e sz v n xs) (a:Below w.heap.size w w'):AT w' base e sz v n xs:=h.heap fun b e=>a.block b (h.lt b e).2
theorem by' (h:AT w base e sz v n xs) {r:Option Nat} (hg:w.grownBy w' r) (hne:v.ownBlock=none∨v.ownBlock≠r):AT w' base e sz v n xs:=
  h.heap fun b e => hg.block b (h.lt b e).2 (by rcases hne with h | h; · rw [h] at e; cases e
                                                · rw [← e];exact h)
theorem mono (h:AT w base e sz v n xs) {B:Nat} (j:B≤base):AT w B e sz v n xs:=by
 rcases h with ⟨b,c⟩|⟨g,a,rfl,d,b⟩
 ·refine .inl ⟨b, ?_⟩
  rcases c with h|⟨g,cap,a,d,b,c⟩
  ·exact .inl h
  ·exact .inr ⟨g,cap,a,d,Nat.le_trans j b,c⟩
 ·exact .inr ⟨g,a,rfl,Nat.le_trans j d,b⟩
theorem clip (h:w.ownsRow base e sz v n xs):AT w base e sz (Dd.clip v) n xs:=by
 obtain ⟨k,j⟩:=h
 rcases j with ⟨rfl,rfl⟩|⟨g,cap,b,rfl,o,p,a,c,d,m⟩
 ·exact .inl ⟨k, .inl ⟨rfl,rfl⟩⟩
 ·refine .inr ⟨g,b.toList,rfl,o,p, ?_,Nat.le_trans a c,m.symm⟩
  rw [Array.length_toList,d]
  exact Nat.mul_le_mul_right _ a
theorem slT {α:Type} {enc:α→Value} {l:List α} (h:AT w base e 1 v n (l.map enc)):CA enc w v l:=by
 have:n=l.length:=by have:=h.len;simpa using this.symm
 subst this
 exact h.sl
end AT
structure RJ {α:Type} (enc:α→Value) (w:World) (E:TypeId) (lo hi:Nat) (v:Value) (l:List α):Prop where
 own:w.ownsRow lo E 1 v l.length (l.map enc)
 blk:∀b,v.ownBlock=some b→lo≤b∧b<hi
namespace RJ
variable {α : Type} {enc : α → Value} {w w' : World} {E : TypeId} {lo hi : Nat} {v : Value} {l : List α}
theorem sl (h:RJ enc w E lo hi v l):CA enc w v l:=BD h.own
theorem bs (h:RJ enc w E lo hi v l) (a:Below w.heap.size w w'):RJ enc w' E lo hi v l:=⟨AH h.own a,h.blk⟩
theorem keep (h:RJ enc w E lo hi v l) {r:Option Nat} (a:w.grownBy w' r) (c:∀b,r=some b→b<lo∨hi≤b):RJ enc w' E lo hi v l:=
 ⟨h.own.kept a (by
  cases hv:v.ownBlock with
  |none=>exact .inl rfl
  |some b=>exact .inr fun e=>by have:=c b e.symm;have:=h.blk b hv;omega),h.blk⟩
theorem set (h:RJ enc w E lo hi v l) {i:Nat} {a:α} (b:w'.ownsRow lo E 1 v l.length ((l.map enc).set i (enc a))):RJ enc w' E lo hi v (l.set i a):=
 ⟨by rw [length_set,map_set];exact b,h.blk⟩
theorem below (h:RJ enc w E lo hi v l) {c:World} (d:Below lo c w) (a:lo≤c.heap.size) (j:w.grownBy w' v.ownBlock):Below lo c w' :=d.grown j (Nat.le_trans a d.size) (fun b g=>(h.blk b g).1)
end RJ
structure IY (w:World) (T I E:TypeId) (lo hi A:Nat) (x y:Value) (s:List Int) (l:List (BitVec 32)):Prop where
 box:AN w A T [x,y]
 row:AT w lo I 1 x s.length (s.map (Value.int .i64))
 lst:RJ i32 w E lo hi y l
 bA:lo≤A∧A<hi
 bx:∀b,x.ownBlock=some b→lo≤b∧b<hi∧b≠A
 yA:y.ownBlock≠some A
 yx:∀b,y.ownBlock=some b→x.ownBlock≠some b
namespace IY
variable {w w' : World} {T I E : TypeId} {lo hi A : Nat} {x y : Value} {s : List Int} {l : List (BitVec 32)}
theorem bs (h:IY w T I E lo hi A x y s l) (a:Below w.heap.size w w'):IY w' T I E lo hi A x y s l:=⟨h.box.bs a,h.row.bs a,h.lst.bs a,h.bA,h.bx,h.yA,h.yx⟩
theorem keep (h:IY w T I E lo hi A x y s l) {r:Option Nat} (a:w.grownBy w' r) (c:∀b,r=some b→b<lo∨hi≤b):IY w' T I E lo hi A x y s l:=
  ⟨h.box.by a (fun e=>by have:=c A e.symm;have:=h.bA;omega),
   h.row.heap fun b d=>a.block b (h.row.lt b d).2 fun e=>by
    have:=c b e.symm
    have:=h.bx b d
    omega,
   h.lst.keep a c,h.bA,h.bx,h.yA,h.yx⟩
theorem set (h:IY w T I E lo hi A x y s l) {i:Nat} {a:BitVec 32} (c:w.grownBy w' y.ownBlock) (g:w'.ownsRow lo E 1 y l.length ((l.map i32).set i (i32 a))):IY w' T I E lo hi A x y s (l.set i a):=
  ⟨h.box.by c (fun e=>h.yA e.symm),
   h.row.heap fun b d=>c.block b (h.row.lt b d).2 fun e=>h.yx b e.symm d,
   h.lst.set g,h.bA,h.bx,h.yA,h.yx⟩
theorem sh (h:IY w T I E lo hi A x y s l):CA (Value.int .i64) w x s:=h.row.slT
theorem below (h:IY w T I E lo hi A x y s l) {b:World} (c:Below lo b w) (a:lo≤b.heap.size) (d:w.grownBy w' y.ownBlock):Below lo b w' :=h.lst.below c a d
theorem other (h:IY w T I E lo hi A x y s l) {a c:Nat} (g:hi≤a∨c≤lo):∀b,y.ownBlock=some b→b<a∨c≤b:=fun b d=>by
 have:=h.lst.blk b d;omega
theorem st (h:IY w T I E lo hi A x y s l) {P:Program} {n:Nat} {d:BZ} {e ty:TypeId} {p q:Operand} {j:Nat} {a:BitVec 32} (c:(sizeOf e).run P w= .ok 1 w) (k:ev d p=some (BW y j)) (m:ev d q=some (i32 a)) (o:j<l.length):
  Xu P n d (.store e p q) ty w (fun w' =>IY w' T I E lo hi A x y s (l.set j a)∧w.grownBy w' y.ownBlock∧w'.heap.size=w.heap.size):=fun z b=>by
 obtain ⟨w',B,r,g,t⟩:=E1 (P:=P) (ty:=ty) c k m rfl h.lst.own (by simpa using o) z b
 exact ⟨w',B,h.set g r,g,t⟩
end IY
section
variable {α : Type} {f l : List α} {i : Nat}
end
section
variable {P : Program} {Q : BN} {n : Nat} {E : BZ} {w : World} {l0 rest : List Oper} {ty : TypeId} {pos : String} {af : Array Edge} {C : World → Prop} {K : Act → Prop}
theorem MU {a:Act} (c:BR n E a) {j dj:Nat} (d:(DI l0 j).bind (·.dst)=some dj) (b:get E dj=some undef):yielded l0.toArray a.tmps j=none:=by
 unfold yielded
 rw [getElem?_toArray,CO,d]
 simp [c.has _ _ b,undef]
theorem De {d:Nat} {k:Op} {j dj:Nat} {g:Bool} (m:(DI l0 j).bind (·.dst)=some dj) (o:get E dj=some undef) (c:Nat.blt d n=true)
  (h:Lw P l0 Q n rest ((d,undef)::E) w):Lw P l0 Q n (⟨some d,k,ty,pos,af,some (j,g)⟩::rest) E w:=fun a b=>by
 unfold wpList
 rw [if_neg]
 ·exact h _ (b.put _ c)
 ·simp [Region.wanted,MU b m o]
end
end Go.Dd

namespace Go.Proofs.YtblbopcaflaldaaGreatDoor
open Go Go.Dd Go.RowKit List Go.Proofs.Tryz
set_option maxRecDepth 100000
def Vf (w:World) (v:Value) (s:List Int) (l:List (BitVec 32)):Prop:=∃x y,v= .agg #[x,y]∧CA (Value.int .i64) w x s∧CA i32 w y l
theorem Vf.bs {w w' :World} {v:Value} {s:List Int} {l:List (BitVec 32)} (h:Vf w v s l) (a:Below w.heap.size w w'):Vf w' v s l:=by
 obtain ⟨x,y,e,c,b⟩:=h
 exact ⟨x,y,e,c.bs a,b.bs a⟩
def Uy (s:List Int) (l:List (BitVec 32)):Bool:=Shapes.ok s && decide ((l.length:Int)=Shapes.size s)
theorem Jk (u v:Value) (a b:List Int) (w:World) (q:CA (Value.int .i64) w u a) (z:CA (Value.int .i64) w v b):AJ prog 143 [u,v] w (fun r w' =>r= .bool (decide (a=b))∧Below w.heap.size w w'):=by
 have A:=q.le
 refine Bd (n:=26) func143 O<|Ah<|Ab O<|Bj<|Ad O<|Aa (Au AD O ‹_›) O ?_
 refine Ad O<|Aa (Au AD O ‹_›) O ?_
 refine Aa (Cn O O) O<|Aj<|Ao O ?_ ?_
 ·intro h
  have m:a≠b:=fun e=>by subst e;simp at h
  exact Ah<|Ab rfl<|Bz<|Ax rfl rfl<|⟨by rw [decide_eq_false m],Below.refl _ _⟩
 intro h
 have y:a.length=b.length:=by simp at h;omega
 refine B2<|Aq<|Ah<|Ad O<|Aa (Au AD O ‹_›) O ?_
 refine Ad O<|Aj<|Ar ?_
 refine Bo (S:=Nat) (fun i=>[(0,u),(1,v),(12, .int .i64 (a.length:Int)),(13, .int .i64 (i:Int))]) (fun i w' =>i≤a.length∧a.take i=b.take i∧Below w.heap.size w w') (fun i=>a.length - i) (0) ⟨rfl,rfl,rfl,rfl,trivial⟩ ?_ ?_
 ·exact ⟨by omega,by simp,Below.refl _ _⟩
 rintro i j ⟨B,o,f⟩
 have s:=q.bs f
 have t:=z.bs f
 refine Ah<|B1 O<|Aj<|Aq<|Ao O ?_ ?_
 ·intro h
  have c:i<a.length:=by simp at h;omega
  have k:i<b.length:=by omega
  refine B2<|Aq<|Ar<|Ah<|Ad O<|Ab O<|Aj<|Aq<|C8 mixed (by kernel_rfl)<|Bt O<|Bt O<|Ai (fun j d=>Bf AD O O (Sl.bs ‹_› d) _ O (by omega)) O ?_
  refine Ai (fun j d=>Bl (AI _) O (Sl.bs ‹_› d) (by omega)) O ?_
  refine Bt O<|Bt O<|Ai (fun j d=>Bf AD O O (Sl.bs ‹_› d) _ O (by omega)) O ?_
  refine Ai (fun j d=>Bl (AI _) O (Sl.bs ‹_› d) (by omega)) O ?_
  refine Ai (fun j d=>Cn O O) O ?_
  refine C1 (fun C d=> ?_)
  refine Av<|B8 ?_
  have l:=bt f d
  refine Ao O ?_ ?_
  ·intro g
   have p:a.getD i default≠b.getD i default:=by simpa using g
   exact Ah<|Ab rfl<|Ay<|Ba<|Ap<|Ap<|Ba<|Ap<|Ax rfl rfl<|⟨by rw [decide_eq_false (fun e=>p (by rw [e]))],l⟩
  ·intro g
   have p:a.getD i default=b.getD i default:=by simpa using g
   have x:a[i]=b[i]:=by simpa [c,k] using p
   refine Ca<|Bi<|Cd<|B9 O (by omega)<|Ad O<|Be ?_
   exact Av (Bw (i+1) ⟨rfl,rfl,rfl,rfl,trivial⟩ (⟨c,by rw [take_succ_eq_append_getElem c,take_succ_eq_append_getElem k,o,x],l⟩) (by omega))
 ·intro h
  have c:i=a.length:=by simp at h;omega
  subst c
  refine Bn<|Al<|Al<|Bc<|Ci<|Ab O<|Ay<|Ax O O ?_
  exact ⟨by rw [decide_eq_true (by rw [take_length,y,take_length] at o;exact o)],f⟩
theorem L6 (u:Value) (a:List Int) (w:World) (g:CA (Value.int .i64) w u a) (s:a.length≤4194304):AJ prog 155 [u] w (fun r w' =>w'.ownsRow w.heap.size 3 1 r a.length (a.map (Value.int .i64))∧Below w.heap.size w w'):=by
 obtain ⟨j,d,cap,rfl,m,k,i,l⟩:=g
 have g:CA (Value.int .i64) w (.slice d a.length cap) a:=⟨j,d,cap,rfl,m,k,i,l⟩
 refine Bd (n:=8) func155 O<|Ah<|Ab O<|Bj<|Ad O<|Aa (Ex.nilS PO O O) O<|Aj<|Ao O ?_ ?_
 ·intro h
  obtain rfl:d=none:=by cases d<;>simp_all
  obtain rfl:a=[]:=eq_nil_of_length_eq_zero (by have:=i rfl;omega)
  exact Ah<|Ab rfl<|Bz<|Ax rfl rfl<|⟨⟨rfl, .inl ⟨rfl,rfl⟩⟩,Below.refl _ _⟩
 intro h
 refine Cp<|Bq (C2 (vs:=[]) AD DT O O O O O) O ?_
 rintro q o ⟨e, -,b, -⟩
 refine Ad O<|Bq (Dl (base:=w.heap.size) AD DT O (by decide) O O e (g.bs b) (EI (fun _=>rfl) _) (by omega) (by omega) b.size) O ?_
 rintro p t ⟨c,f, -⟩
 rw [Nat.zero_add,nil_append] at c
 exact Ab rfl<|Ay<|Ax rfl rfl<|⟨c,b.trans f⟩
theorem Rv (u:Value) (a:List Int) (w:World) (b:CA (Value.int .i64) w u a):AJ prog 136 [u] w (fun r w' =>r=clip u∧Below w.heap.size w w'):=by
 refine Bd (n:=9) func136 O<|Ah<|Ab O<|Bg<|Ad O<|Ad O<|Aa (Au AD O ‹_›) O ?_
 refine Ad O<|Aa (Au AD O ‹_›) O ?_
 exact Aa (Gm AD rfl rfl rfl b.shp) rfl<|Ab rfl<|Ay<|Ax rfl rfl<|⟨rfl,Below.refl _ _⟩
structure IB (W w:World) (x y:Value) (s:List Int) (l:List (BitVec 32)):Prop where
 row:AT w W.heap.size 3 1 x s.length (s.map (Value.int .i64))
 own:w.ownsRow W.heap.size 21 1 y l.length (l.map i32)
 apart:ID y x
theorem IB.sh {W w:World} {x y:Value} {s:List Int} {l:List (BitVec 32)} (h:IB W w x y s l):CA (Value.int .i64) w x s:=h.row.slT
theorem IB.bs {W w w' :World} {x y:Value} {s:List Int} {l:List (BitVec 32)} (h:IB W w x y s l) (a:Below w.heap.size w w'):IB W w' x y s l:=⟨h.row.bs a,AH h.own a,h.apart⟩
structure T4 where
 x:Value
 y:Value
 s:List Int
 l:List (BitVec 32)
def T4.at (t:T4) (w:World):Prop:=CA (Value.int .i64) w t.x t.s∧CA i32 w t.y t.l
theorem T4.at.bs {t:T4} {w w' :World} (h:t.at w) (a:Below w.heap.size w w'):t.at w' :=⟨h.1.bs a,h.2.bs a⟩
def T4.ok (t:T4):Bool:=Uy t.s t.l
def cellsOf:List T4→List Value
 |[]=>[]
 |t::ts=>t.x::t.y::cellsOf ts
end Go.Proofs.YtblbopcaflaldaaGreatDoor

namespace Go.Dd
open Go Go.RowKit List
def FE (S:List Nat) (L:Array Bool):Array Bool:=((List.range L.size).map fun i=>L.getD i true|| !S.contains i).toArray
def Li:List Nat→Array Bool→Array Bool
 |[],L=>L
 |i::S,L=>Li S (L.setIfInBounds i true)
theorem G5 (S:List Nat) (L:Array Bool):(FE S L).size=L.size:=by simp [FE]
theorem EE {S:List Nat} {L:Array Bool} {i:Nat} (d:Bool) (h:i<L.size):(FE S L).getD i d=(L.getD i true|| !S.contains i):=by
 simp [FE,h]
theorem KC:∀(S:List Nat) (L:Array Bool),(Li S L).size=L.size
 |[],_=>rfl
 |i::S,L=>by simp [Li,KC S]
theorem GT (L:Array Bool) (i j:Nat) (d:Bool) (h:j<L.size):(L.setIfInBounds i true).getD j d=(L.getD j d||i==j):=by
 by_cases hij:i=j
 ·subst hij;simp [h]
 ·simp [Array.getElem?_setIfInBounds_ne hij,hij]
theorem LY {d:Bool}:∀(S:List Nat) (L:Array Bool) (j:Nat),j<L.size→(Li S L).getD j d=(L.getD j d||S.contains j)
 |[],L,j,_=>by simp [Li]
 |i::S,L,j,h=>by
  rw [Li,LY S _ j (by simpa using h),GT L i j d h,contains_cons,Bool.or_assoc]
  have e:(i==j)=(j==i):=by rw [Bool.eq_iff_iff];simp only [beq_iff_eq];exact eq_comm
  rw [e]
theorem KY {A B:Array Bool} (hs:A.size=B.size) (h:∀i,i<A.size→A.getD i true=B.getD i true):A=B:=by
 apply Array.ext hs
 intro i a b
 have:=h i a
 simpa [a,b] using this
section
variable {P : Program} {ops : Array Oper} {Q : BN} {T : Act → World → Prop}
theorem OM {i:Nat} {a:Act} {w:World} {K e:Act→World→Prop} (h:wpOp P ops (CI T Q) i K a w) (f:∀a w,K a w→e a w):wpOp P ops Q i e a w:=by
 refine wpOp_mono f ?_
 unfold wpOp at*
 split
 ·rename_i c;simp only [c] at h;exact h
 ·rename_i o c
  simp only [c] at h
  split
  ·rename_i b
   simp only [b,if_true] at h
   refine h.imp (fun h=> ?_) (fun h=>h)
   unfold Oper.wp at*
   generalize (execOp a.eval o).run P w=r at*
   cases r with
   |ok nx w' =>cases nx<;>exact h
   |halt x w' =>cases x<;>exact h
  ·rename_i b;simp only [b] at h;exact h
def L3 (ops:Array Oper) (S:List Nat) (L:Array Bool) (i:Nat):Bool:=match ops[i]? with
 |some o=>o.after.all fun e=> !Region.binds .any e||((L.getD e.on false||S.contains e.on) && decide (e.on<i))
 |none=>false
def M3 (ops:Array Oper) (S:List Nat) (L:Array Bool) (t:Nat):Bool:=match ops[t]? with
 |some o=>o.after.any fun e=>Region.binds .any e && (!L.getD e.on false && !S.contains e.on)
 |none=>true
def Se (ops:Array Oper) (S:List Nat) (b:Nat) (L:Array Bool):Bool:=
 decide (L.size=ops.size) && decide S.Nodup && S.all (fun i=>decide (i<ops.size) && !L.getD i true && L3 ops S L i && (List.range ops.size).any fun j=>decide (i<j) && (S.contains j||j==b) && Region.waitsFor .any ops j i) &&
 !S.contains b && (List.range ops.size).all fun t=>L.getD t true||S.contains t||t==b||M3 ops S L t
structure Uj (ops:Array Oper) (S:List Nat) (L0 L:Array Bool):Prop where
 size:L.size=ops.size
 ge:∀i,L0.getD i false=true→L.getD i false=true
 only:∀i,L.getD i false=true→L0.getD i false=true∨S.contains i=true
 closed:∀j o,S.contains j=true→ops[j]? =some o→L.getD j false=true→∀e ∈ o.after,Region.binds .any e=true→L.getD e.on false=true
theorem DS {L:Array Bool} {i:Nat} (a:i<L.size):L.getD i true=L.getD i false:=by simp [a]
theorem Qv {S:List Nat} {b:Nat} {L0:Array Bool} {g:Nat} (hB:Se ops S b L0=true) (k:∀a w,T a w→wpAny P .any ops Q g (Li S L0) a w):
  ∀(f:Nat) (L:Array Bool) (a:Act) (w:World),Uj ops S L0 L→(S.filter fun i=> !L.getD i true).length=f→
   wpAny P .any ops (CI T Q) f (FE S L) a w→wpAny P .any ops Q (f+g) L a w:=by
 simp only [Se,Bool.and_eq_true,decide_eq_true_eq,all_eq_true,mem_range,any_eq_true,Bool.or_eq_true,Bool.not_eq_true'] at hB
 obtain ⟨⟨⟨⟨hsz,I⟩,hS⟩,hbS⟩,J⟩:=hB
 intro f
 induction f with
 |zero=>
  intro L a w c hc h
  have hall:∀i ∈ S,L.getD i true=true:=fun i m=>by
   have s:=eq_nil_of_length_eq_zero hc
   rw [filter_eq_nil_iff] at s
   simpa using s i m
  have:L=Li S L0:=by
   refine KY (by rw [KC,c.size,hsz]) fun i m=> ?_
   have hi0:i<L0.size:=by rw [hsz,← c.size];exact m
   rw [LY _ _ _ hi0,DS m,DS hi0]
   cases s:L.getD i false with
   |true=>
    rcases c.only i s with p|p
    ·rw [p];rfl
    ·rw [p,Bool.or_true]
   |false=>
    cases p:L0.getD i false with
    |true=>rw [c.ge i p] at s;cases s
    |false=>
     cases M:S.contains i with
     |false=>rfl
     |true=>
      have:=hall i (by simpa using M)
      rw [DS m,s] at this
      cases this
  rw [Nat.zero_add,this]
  exact k a w h.2
 |succ f ih=>
  intro L a w c hc h
  -- the ready ones are the same
  have K:∀i,i ∈ Region.ready .any ops L↔i ∈ Region.ready .any ops (FE S L):=by
   intro i
   rw [mem_ready,mem_ready]
   constructor
   ·rintro ⟨p,o,z,M⟩
    have m:i<ops.size:=(Array.getElem?_eq_some_iff.1 z).1
    have G:i<L.size:=by rw [c.size];exact m
    have D:S.contains i=true:=by
     refine Classical.byContradiction fun hn=> ?_
     have hn:S.contains i=false:=by simpa using hn
     rcases J i m with ((H|H)|H)|H
     ·have y:L0.getD i false=true:=by rw [← DS (by omega)];exact H
      have:=c.ge i y
      rw [← DS G,p] at this;cases this
     ·rw [hn] at H;cases H
     ·-- the barrier waits
      have H:i=b:=by simpa using H
      have key:∀d j,ops.size - j=d→S.contains j=true→L.getD j true=false→False:=by
       intro d
       induction d using Nat.strongRecOn with
       |_ d ihd=>
        intro j U l q
        obtain ⟨⟨⟨X,_⟩,_⟩,t,ht,⟨hjt,R⟩,hw⟩:=hS j (by simpa using l)
        obtain ⟨ot,Y,e,B,hbn,hon⟩:=Region.waitsFor_spec hw
        rcases R with R|htb
        ·cases hl:L.getD t true with
         |false=>exact ihd (ops.size - t) (by omega) t rfl R hl
         |true=>
          have htL:t<L.size:=by rw [c.size];exact ht
          have r:=c.closed t ot R Y (by rw [← DS htL];exact hl) e B hbn
          rw [hon,← DS (by rw [c.size];exact X),q] at r
          cases r
        ·have htb:t=b:=by simpa using htb
         have:ot=o:=by rw [htb,← H] at Y;exact Option.some.inj (Y.symm.trans z)
         subst this
         have r:=M e B hbn
         rw [hon,← DS (by rw [c.size];exact X),q] at r
         cases r
      have hex:∃j ∈ S,L.getD j true=false:=by
       have F:(S.filter fun i=> !L.getD i true)≠[]:=fun s=>by rw [s] at hc;cases hc
       obtain ⟨j,l⟩:=exists_mem_of_ne_nil _ F
       rw [mem_filter] at l
       exact ⟨j,l.1,by simpa using l.2⟩
      obtain ⟨j,l,q⟩:=hex
      exact key _ j rfl (by simpa using l) q
     ·simp only [M3,z] at H
      obtain ⟨e,B,A⟩:=Array.any_eq_true'.1 H
      simp only [Bool.and_eq_true,Bool.not_eq_true'] at A
      have y:=M e B A.1
      rcases c.only _ y with r|r
      ·rw [A.2.1] at r;cases r
      ·rw [A.2.2] at r;cases r
    refine ⟨by rw [EE _ G,p,D];rfl,o,z,fun e B A=> ?_⟩
    have y:=M e B A
    have u:e.on<L.size:=by
     rcases Nat.lt_or_ge e.on L.size with h|h
     ·exact h
     ·simp [Array.getElem?_eq_none h] at y
    rw [EE _ u,DS u,y];rfl
   ·rintro ⟨p,o,z,M⟩
    have m:i<ops.size:=(Array.getElem?_eq_some_iff.1 z).1
    have G:i<L.size:=by rw [c.size];exact m
    rw [EE _ G,Bool.or_eq_false_iff] at p
    have D:S.contains i=true:=by simpa using p.2
    refine ⟨p.1,o,z,fun e B A=> ?_⟩
    have y:=M e B A
    have u:e.on<L.size:=by
     rcases Nat.lt_or_ge e.on L.size with h|h
     ·exact h
     ·simp [Array.getElem?_eq_none (show (FE S L).size≤e.on by rw [G5];exact h)] at y
    rw [EE _ u,DS u,Bool.or_eq_true] at y
    rcases y with y|y
    ·exact y
    ·have U:=(hS i (by simpa using D)).1.2
     simp only [L3,z] at U
     have r:=Array.all_eq_true_iff_forall_mem.1 U e B
     simp only [A,Bool.not_true,Bool.false_or,Bool.and_eq_true,Bool.or_eq_true] at r
     rcases r.1 with h6|h6
     ·exact c.ge _ h6
     ·rw [h6] at y;cases y
  have W:Region.ready .any ops L=Region.ready .any ops (FE S L):=by
   unfold Region.ready
   refine filter_congr fun i m=> ?_
   have p:=K i
   unfold Region.ready at p
   rw [mem_filter,mem_filter] at p
   have M:=List.mem_range.1 m
   simp only [m,true_and] at p
   exact Bool.eq_iff_iff.2 p
  -- one of them is there
  have F:Region.ready .any ops L≠[]:=by
   have hex:∃j ∈ S,L.getD j true=false:=by
    have F:(S.filter fun i=> !L.getD i true)≠[]:=fun s=>by rw [s] at hc;cases hc
    obtain ⟨j,l⟩:=exists_mem_of_ne_nil _ F
    rw [mem_filter] at l
    exact ⟨j,l.1,by simpa using l.2⟩
   have key:∀j,j ∈ S→L.getD j true=false→∃i,i ∈ Region.ready .any ops L:=by
    intro j
    induction j using Nat.strongRecOn with
    |_ j ihj=>
     intro l q
     obtain ⟨⟨⟨X,_⟩,U⟩,_⟩:=hS j l
     cases z:ops[j]? with
     |none=>simp [L3,z] at U
     |some o=>
      simp only [L3,z] at U
      by_cases hall:∀e ∈ o.after,Region.binds .any e=true→L.getD e.on false=true
      ·exact ⟨j,mem_ready.2 ⟨q,o,z,hall⟩⟩
      ·simp only [Classical.not_forall] at hall
       obtain ⟨e,B,A,hnl⟩:=hall
       have r:=Array.all_eq_true_iff_forall_mem.1 U e B
       simp only [A,Bool.not_true,Bool.false_or,Bool.and_eq_true,Bool.or_eq_true,decide_eq_true_eq] at r
       rcases r.1 with h6|h6
       ·exact absurd (c.ge _ h6) hnl
       ·have u:e.on<L.size:=by rw [c.size];omega
        exact ihj e.on r.2 (by simpa using h6) (by rw [DS u];simpa using hnl)
   obtain ⟨j,l,q⟩:=hex
   obtain ⟨i,m⟩:=key j l q
   intro s;rw [s] at m;cases m
  rw [show f+1+g=(f+g)+1 by omega]
  refine ⟨fun s=>absurd s F,fun i m=> ?_⟩
  have Z:=(K i).1 m
  refine OM (h.2 i Z) fun a' w' h' => ?_
  obtain ⟨q,o,z,hdeps⟩:=mem_ready.1 m
  have his:i<ops.size:=(Array.getElem?_eq_some_iff.1 z).1
  have G:i<L.size:=by rw [c.size];exact his
  have D:S.contains i=true:=by
   have:=(mem_ready.1 Z).1
   rw [EE _ G,Bool.or_eq_false_iff] at this
   simpa using this.2
  have hoth:FE S (L.setIfInBounds i true)=(FE S L).setIfInBounds i true:=by
   refine KY (by simp [G5]) fun j l=> ?_
   have N:j<L.size:=by simpa [G5] using l
   rw [EE _ (by simpa using N),GT L i j true N,GT (FE S L) i j true (by rw [G5];exact N),EE _ N,Bool.or_assoc,Bool.or_assoc,Bool.or_comm (i==j)]
  refine ih (L.setIfInBounds i true) a' w' ⟨by simpa using c.size,fun j l=>getD_set_true (c.ge j l),fun j l=> ?_,fun j oj hjS hoj l e B A=> ?_⟩ ?_ (by rw [hoth];exact h')
  ·by_cases hij:i=j
   ·subst hij;exact .inr D
   ·rw [getD_set_ne false hij] at l;exact c.only j l
  ·by_cases hij:i=j
   ·subst hij
    have:oj=o:=Option.some.inj (hoj.symm.trans z)
    subst this
    exact getD_set_true (hdeps e B A)
   ·rw [getD_set_ne false hij] at l
    exact getD_set_true (c.closed j oj hjS hoj l e B A)
  ·have V:i ∈ S:=by simpa using D
   have hsz' :∀j ∈ S,j<L.size:=fun j l=>by rw [c.size];exact (hS j l).1.1.1
   clear h h' W K F m Z k ih hS J
   have gen:∀(S:List Nat),S.Nodup→i ∈ S→(∀j ∈ S,j<L.size)→(S.filter fun j=> !(L.setIfInBounds i true).getD j true).length+1=(S.filter fun j=> !L.getD j true).length:=by
    intro S
    induction S with
    |nil=>intro _ h;cases h
    |cons x S ihS=>
     intro I m hlt
     rw [nodup_cons] at I
     have hx:=hlt x (by simp)
     by_cases hxi:x=i
     ·subst hxi
      have p:∀j ∈ S,(!(L.setIfInBounds x true).getD j true)= !L.getD j true:=fun j l=>by
       rw [getD_set_ne true (by rintro rfl;exact I.1 l)]
      have M:(!(L.setIfInBounds x true).getD x true)=false:=by rw [GT _ _ _ _ hx];simp
      rw [filter_cons,filter_cons,M,filter_congr p]
      have H:(!L.getD x true)=true:=by rw [q];rfl
      rw [H]
      simp
     ·have hi' :i ∈ S:=by
       rcases List.mem_cons.1 m with h|h
       ·exact absurd h.symm hxi
       ·exact h
      have p:=ihS I.2 hi' fun j l=>hlt j (by simp [l])
      rw [filter_cons,filter_cons,getD_set_ne true (Ne.symm hxi)]
      cases hl:L.getD x true with
      |true=>simp only [Bool.not_true,Bool.false_eq_true,if_false];exact p
      |false=>simp only [Bool.not_false,if_true,length_cons];omega
   have:=gen S I V hsz'
   omega
end
section
variable {P : Program} {Q : BN} {n : Nat} {E : BZ} {w : World} {l0 : List Oper}
theorem Fw {St:Type} {f g:Nat} {c:Array Bool} (S:List Nat) (b:Nat) (t:St→BZ) (I:St→World→Prop) (y:Se l0.toArray S b c=true) (m:S.length+g=f)
  (h:Aw P l0 (CI (fun q w' =>∃s,BR n (t s) q∧I s w') Q) n S.length (FE S c) E w)
  (k:∀s w',I s w' →Aw P l0 Q n g (Li S c) (t s) w'):Aw P l0 Q n f c E w:=fun a B=>by
 subst m
 have e:=y
 simp only [Se,Bool.and_eq_true,decide_eq_true_eq,all_eq_true] at e
 obtain ⟨⟨⟨⟨l,_⟩,u⟩,_⟩,_⟩:=e
 refine Qv y (fun q w' ⟨s,m,r⟩=>k s w' r q m) S.length c a w ⟨l,fun _ h=>h,fun _ h=> .inl h,fun j o D z A=> ?_⟩ ?_ (h a B)
 ·have p:=u j (by simpa using D)
  have x:c.getD j true=false:=by simpa using p.1.1.2
  rw [DS (by rw [l];exact (Array.getElem?_eq_some_iff.1 z).1),A] at x
  cases x
 ·congr 1
  rw [filter_eq_self]
  intro i r
  exact (u i r).1.1.2
theorem Fu {St:Type} {a:St→BZ} {I:St→World→Prop} (s:St) (b:MP E (a s)) (c:I s w):Pw n E (fun f w' =>∃s,BR n (a s) f∧I s w') w:=fun _ e=>⟨s,e.sub b,c⟩
end
section
variable {P : Program} {ops : Array Oper} {Q : BN} {C : World → Prop}
def FB (P:Program) (ops:Array Oper) (Q:BN) (C:World→Prop):Nat→Array Bool→Act→World→Prop
 |0,listed,a,w=>Region.ready .any ops listed=[]∧Q .normal a w
 |fuel+1,listed,a,w=>
  (Region.ready .any ops listed=[]→Q .normal a w)∧
  ∀i ∈ Region.ready .any ops listed,wpOp P ops Q i (fun a' w' =>C w' ∧FB P ops Q C fuel (listed.setIfInBounds i true) a' w') a w
theorem J4:∀(fuel:Nat) (listed:Array Bool) (a:Act) (w:World),FB P ops Q C fuel listed a w→wpAny P .any ops Q fuel listed a w
 |0,_,_,_,h=>h
 |fuel+1,_,_,_,h=>⟨h.1,fun i b=>wpOp_mono (fun _ _ c=>J4 fuel _ _ _ c.2) (h.2 i b)⟩
def EC (P:Program) (ops:Array Oper) (C:World→Prop) (o:Oper) (v:Value) (a:Act):Prop:=
 (Region.wanted o (yielded ops a.tmps)=true∧∀w,C w→(execOp a.eval o).run P w= .ok (.value v) w)∨
 (Region.wanted o (yielded ops a.tmps)=false∧v=undef)
theorem EC.of_same {o:Oper} {v:Value} {a b:Act} (f:EC P ops C o v a) (e:execOp b.eval o=execOp a.eval o)
  (c:Region.wanted o (yielded ops b.tmps)=Region.wanted o (yielded ops a.tmps)):EC P ops C o v b:=by
 unfold EC at*
 rw [e,c]
 exact f
theorem EC.wpOp {i:Nat} {o:Oper} {v:Value} {a:Act} (g:ops[i]? =some o) (f:EC P ops C o v a)
  {K:Act→World→Prop} {w:World} (c:C w) (h:K (a.put o.dst v) w):wpOp P ops Q i K a w:=by
 unfold Go.wpOp
 simp only [g]
 rcases f with ⟨b,e⟩|⟨b,rfl⟩
 ·simp only [b,if_true,Oper.wp,e w c,Oper.upon];exact .inl h
 ·simp only [b,Bool.false_eq_true,if_false];exact h
theorem ON {j:Nat} {g l:Oper} {v:Value} (I:ops[j]? =some l) (y:g.apart ops l=true)
  (B:∀cs b,g.op≠ .select cs b) (t:∀cs b,l.op≠ .select cs b)
  (F:∀c a w,Q (.panic c) (a.put g.dst v) w→Q (.panic c) a w) {K:Act→World→Prop} {a:Act} {w:World}
  (m:EC P ops C g v a) (h:wpOp P ops Q j K (a.put g.dst v) w):
  wpOp P ops Q j (fun G w' =>EC P ops C g v G∧K (G.put g.dst v) w') a w:=by
 obtain ⟨z,q,H⟩:=Oper.apart_spec y
 have keep:∀(a:Act),EC P ops C g v a→∀u,EC P ops C g v (a.put l.dst u):=fun a m u=>
  m.of_same (execOp_put g B a l.dst u H) (wanted_put g a l.dst u H)
 have o:∀d,EC P ops C g v {a with defers:=d::a.defers}:=fun d=>m.of_same rfl rfl
 unfold wpOp at*
 simp only [I] at*
 rw [wanted_put l a g.dst v z] at h
 split
 ·rename_i A
  simp only [A,if_true] at h
  rcases h with h|⟨k,p⟩
  case inr=>exact .inr ⟨by unfold Oper.asks at*;rw [execOp_put l t a g.dst v z] at k;exact k,p⟩
  refine .inl ?_
  unfold Oper.wp at*
  rw [execOp_put l t a g.dst v z] at h
  generalize (execOp a.eval l).run P w=r at*
  cases r with
  |ok n w' =>
   cases n<;>simp only [Oper.upon] at h ⊢
   case value u=>exact ⟨keep a m u,by rw [← Act.put_comm a v u q];exact h⟩
   case skip=>exact ⟨keep a m _,by rw [← Act.put_comm a v undef q];exact h⟩
   case defer d=>
    refine ⟨keep _ (o d) _, ?_⟩
    rw [← Act.put_comm _ v undef q,← Act.put_defers]
    exact h
   case enter f args=>
    refine Calls.mono h fun e D s=> ?_
    cases e with
    |returned u=>exact ⟨keep a m u,by rw [← Act.put_comm a v u q];exact s⟩
    |panicked c=>exact F _ _ _ s
    |outgrown=>exact s
   case row row args=>exact Rows.mono h fun u D s=>⟨keep a m u,by rw [← Act.put_comm a v u q];exact s⟩
  |halt x w' =>
   cases x<;>simp only [Oper.upon] at h ⊢
   case panic u=>exact F _ _ _ h
 ·rename_i A
  simp only [A] at h
  exact ⟨keep a m _,by rw [← Act.put_comm a v undef q];exact h⟩
theorem La {i:Nat} {q:Oper} {v:Value} (J:ops[i]? =some q) (m:∀(j:Nat) (o:Oper) cs b,ops[j]? =some o→o.op≠ .select cs b)
  (N:∀c a w,Q (.panic c) (a.put q.dst v) w→Q (.panic c) a w):
  ∀(fuel:Nat) (listed:Array Bool) (a:Act) (w:World),C w→
   (∀j t,ops[j]? =some t→j≠i→listed.getD j true=false→(∀e ∈ t.after,Region.binds .any e=true→e.on≠i)→q.apart ops t=true)→
   i ∈ Region.ready .any ops listed→EC P ops C q v a→
   FB P ops Q C fuel (listed.setIfInBounds i true) (a.put q.dst v) w→FB P ops Q C (fuel+1) listed a w:=by
 intro fuel
 induction fuel with
 |zero=>
  intro listed a w u _ s z H
  refine ⟨fun h=>(by rw [h] at s;cases s),fun j B=> ?_⟩
  by_cases hji:j=i
  ·subst hji;exact z.wpOp J u ⟨u,H⟩
  ·have:=ready_mono B hji
   rw [H.1] at this
   cases this
 |succ fuel ih=>
  intro listed a w u f s z H
  refine ⟨fun h=>(by rw [h] at s;cases s),fun j B=> ?_⟩
  by_cases hji:j=i
  ·subst hji;exact z.wpOp J u ⟨u,H⟩
  ·have r:=H.2 j (ready_mono B hji)
   obtain ⟨l,t,p,hall⟩:=mem_ready.1 B
   have x:∀e ∈ t.after,Region.binds .any e=true→e.on≠i:=fun e U M G=>by
    have r:=hall e U M
    have K:=(mem_ready.1 s).1
    rw [G] at r
    rcases Nat.lt_or_ge i listed.size with I|I
    ·simp [I] at K r;rw [K] at r;cases r
    ·simp [Array.getElem?_eq_none I] at r
   have L:=ON p (f j t p hji l x) (fun cs b=>m i q cs b J) (fun cs b=>m j t cs b p) N z r
   have g:∀k ok,ops[k]? =some ok→k≠i→(listed.setIfInBounds j true).getD k true=false→
     (∀e ∈ ok.after,Region.binds .any e=true→e.on≠i)→q.apart ops ok=true:=fun k ok R F y D=>by
    refine f k ok R F ?_ D
    by_cases hjk:j=k
    ·subst hjk;exact l
    ·rw [getD_set_ne true hjk] at y;exact y
   refine wpOp_mono (fun S w' A=>⟨A.2.1,ih (listed.setIfInBounds j true) S w' A.2.1 g (ready_mono s (Ne.symm hji)) A.1 ?_⟩) L
   rw [Array.setIfInBounds_comm _ _ hji]
   exact A.2.2
end
section
variable {P : Program} {Q : BN} {n : Nat} {E : BZ} {w : World} {l0 : List Oper} {ty : TypeId} {pos : String} {af : Array Edge} {C : World → Prop}
def BV (P:Program) (l0:List Oper) (Q:BN) (C:World→Prop) (n fuel:Nat) (listed:Array Bool) (E:BZ) (w:World):Prop:=C w∧∀a,BR n E a→FB P l0.toArray Q C fuel listed a w
theorem Df {fuel:Nat} {listed:Array Bool} (C:World→Prop) (h:C w→BV P l0 Q C n fuel listed E w) (c:C w):Aw P l0 Q n fuel listed E w:=fun a b=>J4 _ _ _ _ ((h c).2 a b)
theorem BV.take {i d fuel:Nat} {op:Op} {v:Value} {listed:Array Bool} (o:BC Q) (f:DI l0 i=some ⟨some d,op,ty,pos,af,none⟩) (hs:Region.noSelect l0.toArray=true) (j:Region.free .any l0.toArray listed i=true)
  (m:(Region.ready .any l0.toArray listed).contains i=true) (h:∀w,C w→Ex P n E op ty w v) (g:Nat.blt d n=true) (k:BV P l0 Q C n fuel (listed.setIfInBounds i true) ((d,v)::E) w):BV P l0 Q C n (fuel+1) listed E w:=⟨k.1,fun a e=>
 La (by rw [getElem?_toArray,CO];exact f) (Region.noSelect_spec hs) (fun c p w' l=>o _ _ _ _ _ l) fuel listed a w k.1 (Region.free_spec (by rw [getElem?_toArray,CO];exact f) j) (by simpa using m)
  (.inl ⟨by simp [Region.wanted],fun w' b=>h w' b a e (some d) pos af none⟩) (k.2 _ (e.put v g))⟩
theorem BV.done {fuel:Nat} {listed:Array Bool} (e:C w) (c:Region.ready .any l0.toArray listed=[]) (h:Pw n E (Q .normal) w):BV P l0 Q C n fuel listed E w:=⟨e,fun a b=>by
 cases fuel with
 |zero=>exact ⟨c,h a b⟩
 |succ f=>exact ⟨fun _=>h a b,by rw [c];simp⟩⟩
theorem BV.all {fuel:Nat} {listed:Array Bool} (q:C w) (e:List Nat) (m:Region.ready .any l0.toArray listed=e) (g:e≠[])
  (h:∀i ∈ e,∀o,DI l0 i=some o→Lw P l0 (CI (fun b w' =>C w' ∧FB P l0.toArray Q C fuel (listed.setIfInBounds i true) b w') Q) n [o] E w):BV P l0 Q C n (fuel+1) listed E w:=⟨q,fun a s=>
 ⟨fun u=>absurd (m ▸ u) g,fun i p=>by
  have j:i ∈ e:=m ▸ p
  obtain ⟨_,o,l,_⟩:=mem_ready.1 p
  have k:DI l0 i=some o:=by rw [← CO,← getElem?_toArray];exact l
  have c:=h i j o k a s
  unfold wpList at c
  unfold wpOp
  simp only [l]
  have t:wpList P l0.toArray (CI (fun b w' =>C w' ∧FB P l0.toArray Q C fuel (listed.setIfInBounds i true) b w') Q) []=fun b w' =>C w' ∧FB P l0.toArray Q C fuel (listed.setIfInBounds i true) b w' :=by
   funext b w';rfl
  rw [t] at c
  split at c
  ·rename_i f
   rw [if_pos f]
   refine c.imp (fun h=> ?_) (fun h=>h)
   unfold Oper.wp at*
   generalize (execOp a.eval o).run P w=r at*
   cases r with
   |ok nx w' =>cases nx<;>exact h
   |halt x w' =>cases x<;>exact h
  ·rename_i f
   rw [if_neg f];exact c⟩⟩
theorem BV.only {i fuel:Nat} {o:Oper} {listed:Array Bool} (b:C w) (g:Region.ready .any l0.toArray listed=[i]) (c:DI l0 i=some o)
  (h:Lw P l0 (CI (fun f w' =>C w' ∧FB P l0.toArray Q C fuel (listed.setIfInBounds i true) f w') Q) n [o] E w):BV P l0 Q C n (fuel+1) listed E w:=
 BV.all b [i] g (by simp) fun j e k a=>by
  obtain rfl:j=i:=by simpa using e
  obtain rfl:k=o:=Option.some.inj (a.symm.trans c)
  exact h
theorem BV.two {i j fuel:Nat} {o q:Oper} {listed:Array Bool} (f:C w) (p:Region.ready .any l0.toArray listed=[i,j]) (g:DI l0 i=some o) (l:DI l0 j=some q)
  (h:Lw P l0 (CI (fun c w' =>C w' ∧FB P l0.toArray Q C fuel (listed.setIfInBounds i true) c w') Q) n [o] E w)
  (k:Lw P l0 (CI (fun c w' =>C w' ∧FB P l0.toArray Q C fuel (listed.setIfInBounds j true) c w') Q) n [q] E w):BV P l0 Q C n (fuel+1) listed E w:=
 BV.all f [i,j] p (by simp) fun m b e a=>by
  rcases List.mem_cons.1 b with rfl|b
  ·obtain rfl:e=o:=Option.some.inj (a.symm.trans g)
   exact h
  ·obtain rfl:m=j:=by simpa using b
   obtain rfl:e=q:=Option.some.inj (a.symm.trans l)
   exact k
theorem BV.back {fuel:Nat} {listed:Array Bool} {c:List Oper} (h:BV P l0 Q C n fuel listed E w):Lw P c (CI (fun e w' =>C w' ∧FB P l0.toArray Q C fuel listed e w') Q) n [] E w:=fun a b=>wpList_nil ⟨h.1,h.2 a b⟩
end
section
variable {P : Program} {n : Nat} {E : BZ} {w : World}
def Un {St:Type} (n:Nat) (Ei:St→BZ) (I:St→World→Prop):BN:=fun x a w=>x= .normal∧∃s,BR n (Ei s) a∧I s w
theorem Dh {St:Type} {c:Code} (b:St→BZ) (I:St→World→Prop) {K:Act→World→Prop} {Q:BN} (h:Cw P (Un n b I) n c E w) (k:∀s w',I s w' →Pw n (b s) K w'):Cw P (CI K Q) n c E w:=fun a g=>
 Code.wp_mono (fun x j w' e=>by
  obtain ⟨rfl,s,f,l⟩:=e
  exact k s w' l j f) (h a g)
theorem B6 {St:Type} {a:St→BZ} {I:St→World→Prop} (s:St) (hs:MP E (a s)) (c:I s w):Pw n E (Un n a I .normal) w:=fun _ b=>⟨rfl,s,b.sub hs,c⟩
theorem C7 {St:Type} {a:St→BZ} {I:St→World→Prop}:BC (Un n a I):=fun _ _ _ _ _ h=>by cases h.1
end
section
variable {P : Program} {Q : BN} {n : Nat} {E : BZ} {w : World} {l0 : List Oper} {ty : TypeId} {pos : String} {af : Array Edge} {C : World → Prop} {i d fuel : Nat} {op : Op} {v : Value} {listed : Array Bool}
def AM (P:Program) (l0:List Oper) (Q:BN) (C:World→Prop) (n fuel:Nat) (listed:Array Bool) (E:BZ) (w:World):Prop:=BC Q→BV P l0 Q C n fuel listed E w
theorem Cr (a:BC Q) (k:AM P l0 Q C n fuel listed E w):BV P l0 Q C n fuel listed E w:=k a
theorem Cf (k:BV P l0 Q C n fuel listed E w):AM P l0 Q C n fuel listed E w:=fun _=>k
theorem Am (i : Nat) (f : DI l0 i = some ⟨some d, op, ty, pos, af, none⟩) (h : ∀ w, C w → Ex P n E op ty w v) (e : Nat.blt d n = true) (k : AM P l0 Q C n fuel (listed.setIfInBounds i true) ((d, v) :: E) w)
    (hs:(Region.noSelect l0.toArray && Region.free .any l0.toArray listed i && (Region.ready .any l0.toArray listed).contains i)=true:=by kernel_rfl):AM P l0 Q C n (fuel+1) listed E w:=fun c=>by
  have b:=(Bool.and_eq_true _ _).mp hs
  have a:=(Bool.and_eq_true _ _).mp b.1
  exact BV.take c f a.1 a.2 b.2 h e (k c)
end
end Go.Dd

namespace Go.Dd
open Go Go.RowKit
open List hiding get tail
def Ow (P:Program) (n:Nat) (E:BZ) (o:Oper) (w:World) (R:Value→World→Prop):Prop:=
 ∀a,BR n E a→∀(K:Act→World→Prop) (Q:BN),(∀v w',R v w' →K (a.put o.dst v) w')→o.wp P a w K Q
section
variable {P : Program} {Q : BN} {n : Nat} {E : BZ} {w : World} {ty : TypeId} {pos : String} {af : Array Edge} {op : Op} {R : Value → World → Prop} {gd : Option (Nat × Bool)}
theorem Ow.val {d:Nat} {v:Value} (h:Ex P n E op ty w v) (c:R v w):Ow P n E ⟨some d,op,ty,pos,af,gd⟩ w R:=fun a b K Q e=>by
 unfold Oper.wp;rw [h a b];exact e _ _ c
theorem Ow.mk {d:Nat} {b:Value→World→Prop} (h:Xw P n E op ty w b) (k:∀v w',b v w' →R v w'):Ow P n E ⟨some d,op,ty,pos,af,gd⟩ w R:=fun a c K Q g=>by
 obtain ⟨v,w',f,e⟩:=h a c
 unfold Oper.wp;rw [f];exact g _ _ (k _ _ e)
theorem Dv {b:World→Prop} (h:Xu P n E op ty w b) (k:∀w',b w' →R undef w'):Ow P n E ⟨none,op,ty,pos,af,gd⟩ w R:=fun a c K Q g=>by
 obtain ⟨w',f,e⟩:=h a c
 unfold Oper.wp;rw [f];exact g _ _ (k _ e)
theorem Gh {d:Nat} {f:FuncId} {args:List Value} {b:Value→World→Prop} (h:Xc P n E op ty w f args) (c:AJ P f args w b) (k:∀v w',b v w' →R v w'):Ow P n E ⟨some d,op,ty,pos,af,gd⟩ w R:=fun a i K Q l=>by
 unfold Oper.wp;rw [h a i]
 exact c.2.mono fun e w' ⟨v,g,j⟩=>by subst g;exact l _ _ (k _ _ j)
end
def BS (o:Oper):List Nat:=(o.after.toList.filter (Region.binds .any)).map (·.on)
def I4 (l0:List Oper) (val:Nat→Value):List Nat→BZ
 |[]=>[]
 |j::js=>match (DI l0 j).bind (·.dst) with
  |some d=>(d,val j)::I4 l0 val js
  |none=>I4 l0 val js
def AZ (R:Nat→Oper→Prop):Nat→List Oper→Prop
 |_,[]=>True
 |k,o::l=>R k o∧AZ R (k+1) l
theorem B7 {R:Nat→Oper→Prop} {k:Nat} {o:Oper} {l:List Oper} (h:R k o) (t:AZ R (k+1) l):AZ R k (o::l):=⟨h,t⟩
theorem G3 {R:Nat→Oper→Prop} {k:Nat}:AZ R k []:=trivial
def LK (L:Nat→Bool) (i:Nat):Nat→Bool:=fun j=>Nat.beq i j||L j
def CU (l:List Oper):List Nat:=l.filterMap (·.dst)
def JQ:List Nat→Bool
 |[]=>true
 |x::l=> !l.contains x && JQ l
def Rb (l0:List Oper) (n:Nat):Bool:=
 (l0.zipIdx.all fun p=>p.1.guard.isNone && (BS p.1).all (fun j=>Nat.blt j p.2)) && (CU l0).all (fun d=>Nat.blt d n) && JQ (CU l0)
def Np (l0:List Oper) (n:Nat):Bool:=
 (l0.zipIdx.all fun p=>(match p.1.guard with
  |none=>true
  |some (j,_)=>(BS p.1).contains j && ((DI l0 j).bind (·.dst)).isSome) && (BS p.1).all (fun j=>Nat.blt j p.2)) && (CU l0).all (fun d=>Nat.blt d n) && JQ (CU l0)
theorem HC {l:List Oper} {i:Nat} {o:Oper} (h:DI l i=some o):o ∈ l:=by
 rw [← CO] at h;exact mem_of_getElem? h
theorem Kv {R:Nat→Oper→Prop} {o:Oper}:∀(l:List Oper) (k i:Nat),AZ R k l→DI l i=some o→R (k+i) o:=by
 intro l
 induction l with
 |nil=>intro k i _ e;simp [DI] at e
 |cons q l ih=>
  intro k i h e
  cases i with
  |zero=>
   have:q=o:=by simpa [DI] using e
   rw [← this];exact h.1
  |succ i=>
   have:=ih (k+1) i h.2 (by simpa [DI] using e)
   rwa [show k+1+i=k+(i+1) by omega] at this
theorem Hu:∀{l:List Nat},JQ l=true→l.Nodup
 |[],_=>nodup_nil
 |x::l,h=>by
  simp only [JQ,Bool.and_eq_true,Bool.not_eq_true'] at h
  exact List.nodup_cons.2 ⟨by simpa using h.1,Hu h.2⟩
theorem SC {o q:Oper} {d:Nat} (m:o.dst=some d) (p:q.dst=some d):∀(l:List Oper) (i j:Nat),(CU l).Nodup→DI l i=some o→DI l j=some q→i=j:=by
 intro l
 induction l with
 |nil=>intro i j _ h;simp [DI] at h
 |cons x l ih=>
  intro i j s g f
  have b:∀{k:Nat} {r:Oper},DI l k=some r→r.dst=some d→d ∈ CU l:=fun v A=>List.mem_filterMap.2 ⟨_,HC v,A⟩
  have a:(CU l).Nodup∧(x.dst=some d→d ∉ CU l):=by
   cases hx:x.dst with
   |none=>exact ⟨by simpa [CU,hx] using s,fun h=>by cases h⟩
   |some e=>
    have:(e::CU l).Nodup:=by simpa [CU,hx] using s
    exact ⟨(List.nodup_cons.1 this).2,fun h=>by cases h;exact (List.nodup_cons.1 this).1⟩
  cases i with
  |zero=>
   have c:x=o:=by simpa [DI] using g
   cases j with
   |zero=>rfl
   |succ j=>exact absurd (b (by simpa [DI] using f) p) (a.2 (by rw [c];exact m))
  |succ i=>
   cases j with
   |zero=>
    have c:x=q:=by simpa [DI] using f
    exact absurd (b (by simpa [DI] using g) m) (a.2 (by rw [c];exact p))
   |succ j=>rw [ih i j a.1 (by simpa [DI] using g) (by simpa [DI] using f)]
section
variable {P : Program} {Q : BN} {n : Nat} {E : BZ} {w : World} {l0 : List Oper}
theorem IV {val:Nat→Value} {a:Act} (h:BR n E a):∀(c:List Nat),(∀j ∈ c,∀o d,DI l0 j=some o→o.dst=some d→a.tmps[d]? =some (val j))→BR n (I4 l0 val c++E) a
 |[],_=>h
 |j::c,hv=>by
  have b:=IV h c (fun k g=>hv k (mem_cons_of_mem _ g))
  unfold I4
  cases hj:(DI l0 j).bind (·.dst) with
  |none=>exact b
  |some d=>
   obtain ⟨o,l,f⟩:∃o,DI l0 j=some o∧o.dst=some d:=by
    cases hn:DI l0 j with
    |none=>rw [hn] at hj;cases hj
    |some o=>rw [hn] at hj;exact ⟨o,rfl,hj⟩
   refine ⟨b.dfr,b.size,fun i v e=> ?_⟩
   simp only [cons_append,Dd.get] at e
   split at e
   ·rename_i m
    have:d=i:=Nat.eq_of_beq_eq_true m
    subst this;cases e
    exact hv j (by simp) o d l f
   ·exact b.has i v e
structure UQ {St:Type} (l0:List Oper) (n:Nat) (E:BZ) (val:St→Nat→Value) (I:St→(Nat→Bool)→World→Prop) (s:St) (listed:Array Bool) (a:Act) (w:World):Prop where
 size:listed.size=l0.length
 fits:BR n E a
 vals:∀j o d,DI l0 j=some o→listed.getD j false=true→o.dst=some d→a.tmps[d]? =some (val s j)
 closed:∀j o,DI l0 j=some o→listed.getD j false=true→∀e ∈ BS o,listed.getD e false=true
 inv:I s (fun i=>listed.getD i false) w
theorem JO {l:List Oper} {i:Nat} {o:Oper} (h:DI l i=some o):i<l.length:=by
 rw [← CO] at h
 exact (List.getElem?_eq_some_iff.1 h).1
theorem JS {o:Oper} {j:Nat}:j ∈ BS o↔∃e ∈ o.after,Region.binds .any e=true∧e.on=j:=by
 unfold BS
 simp only [mem_map,mem_filter,Array.mem_toList_iff]
 exact ⟨fun ⟨e,⟨b,a⟩,c⟩=>⟨e,b,a,c⟩,fun ⟨e,b,a,c⟩=>⟨e,⟨b,a⟩,c⟩⟩
theorem II {i:Nat} {a:Array Bool} (hs:a.size=l0.length):i ∈ Region.ready .any l0.toArray a↔a.getD i false=false∧∃o,DI l0 i=some o∧∀e ∈ BS o,a.getD e false=true:=by
 rw [mem_ready]
 constructor
 ·rintro ⟨g,o,b,f⟩
  rw [getElem?_toArray,CO] at b
  have:=JO b
  refine ⟨by rw [← DS (by omega)];exact g,o,b,fun j l=> ?_⟩
  obtain ⟨e,c,h,rfl⟩:=JS.1 l
  exact f e c h
 ·rintro ⟨g,o,b,f⟩
  have:=JO b
  exact ⟨by rw [DS (by omega)];exact g,o,by rw [getElem?_toArray,CO];exact b,fun e c h=>f _ (JS.2 ⟨e,c,h,rfl⟩)⟩
theorem JI {a:Array Bool} (hs:a.size=l0.length) (f:∀i o,DI l0 i=some o→∀j ∈ BS o,j<i):∀(m i:Nat),i<m→i<l0.length→a.getD i false=false→Region.ready .any l0.toArray a≠[]
 |0,_,h,_,_=>by omega
 |m+1,i,hm,hi,hl=>by
  obtain ⟨o,g⟩:∃o,DI l0 i=some o:=⟨l0[i],by rw [← CO,getElem?_eq_getElem hi]⟩
  by_cases hall:∀e ∈ BS o,a.getD e false=true
  ·intro p
   have:i ∈ Region.ready .any l0.toArray a:=(II hs).2 ⟨hl,o,g,hall⟩
   rw [p] at this;cases this
  ·obtain ⟨e,b⟩:=Classical.not_forall.1 hall
   obtain ⟨b,c⟩:=Classical.not_imp.1 b
   have l:=f i o g e b
   exact JI hs f m e (by omega) (by omega) (by cases h:a.getD e false with
    |false=>rfl
    |true=>exact absurd h c)
theorem Mw {St:Type} {val:St→Nat→Value} {I:St→(Nat→Bool)→World→Prop} (hd:∀i o,DI l0 i=some o→(∀j g,o.guard=some (j,g)→j ∈ BS o∧∃dj,(DI l0 j).bind (·.dst)=some dj)∧∀j ∈ BS o,j<i) (hn:∀i o d,DI l0 i=some o→o.dst=some d→d<n) (C:(CU l0).Nodup) (hE:∀i o d,DI l0 i=some o→o.dst=some d→get E d=none)
  (X:∀i o,DI l0 i=some o→∀s L w,I s L w→L i=false→(∀e ∈ BS o,L e=true)→(∀j q,DI l0 j=some q→L j=true→∀e ∈ BS q,L e=true)→(∀j g,o.guard=some (j,g)→val s j= .bool g)∧
   Ow P n (I4 l0 (val s) (BS o)++E) o w (fun v w' =>∃V,I V (LK L i) w' ∧(∀j,L j=true→val V j=val s j)∧(o.dst.isSome=true→v=val V i)))
  (fin:∀s L w,I s L w→(∀i,i<l0.length→L i=true)→Pw n (I4 l0 (val s) (List.range l0.length)++E) (Q .normal) w):
  ∀(f:Nat) (s:St) (b:Array Bool) (a:Act) (w:World),UQ l0 n E val I s b a w→((List.range l0.length).filter fun i=> !b.getD i false).length=f→wpAny P .any l0.toArray Q f b a w:=by
 intro f
 induction f with
 |zero=>
  intro s b a w h hf
  have hall:∀i,i<l0.length→b.getD i false=true:=fun i hi=>by
   cases r:b.getD i false with
   |true=>rfl
   |false=>
    have T:i ∈ (List.range l0.length).filter fun i=> !b.getD i false:=List.mem_filter.2 ⟨List.mem_range.2 hi,by simp [r]⟩
    rw [List.length_eq_zero_iff.1 hf] at T
    cases T
  have hr:Region.ready .any l0.toArray b=[]:=by
   cases hr:Region.ready .any l0.toArray b with
   |nil=>rfl
   |cons i rs=>
    have hi:i ∈ Region.ready .any l0.toArray b:=by rw [hr];simp
    obtain ⟨J,o,m, -⟩:=(II h.size).1 hi
    rw [hall i (JO m)] at J;cases J
  refine ⟨hr,fin s _ w h.inv hall a (IV h.fits _ fun j U o d m G=>h.vals j o d m (hall j (JO m)) G)⟩
 |succ f ih=>
  intro s b a w h hf
  refine ⟨fun h0=> ?_,fun i hi=> ?_⟩
  ·exfalso
   obtain ⟨i,T⟩:∃i,i ∈ (List.range l0.length).filter fun i=> !b.getD i false:=by
    cases r:(List.range l0.length).filter fun i=> !b.getD i false with
    |nil=>rw [r] at hf;cases hf
    |cons i _=>exact ⟨i,by simp⟩
   obtain ⟨J,N⟩:=List.mem_filter.1 T
   exact JI h.size (fun i o m=>(hd i o m).2) (i+1) i (by omega) (List.mem_range.1 J) (by simpa using N) h0
  ·obtain ⟨J,o,m,N⟩:=(II h.size).1 hi
   have W:=JO m
   have st:=X i o m s _ w h.inv J N h.closed
   have hgd:=st.1
   have st:=st.2 a (IV h.fits _ fun j U q d A c=>h.vals j q d A (N j U) c)
   unfold wpOp
   rw [getElem?_toArray,CO,m]
   simp only
   have H:Region.wanted o (yielded l0.toArray a.tmps)=true:=by
    unfold Region.wanted
    cases hog:o.guard with
    |none=>rfl
    |some p=>
     obtain ⟨j,g⟩:=p
     obtain ⟨U,dj,F⟩:=(hd i o m).1 j g hog
     obtain ⟨q,A,c⟩:∃q,DI l0 j=some q∧q.dst=some dj:=by
      cases hn:DI l0 j with
      |none=>rw [hn] at F;cases F
      |some q=>rw [hn] at F;exact ⟨q,rfl,F⟩
     have hv:=h.vals j q dj A (N j U) c
     have hy:yielded l0.toArray a.tmps j=some g:=by
      unfold yielded
      rw [getElem?_toArray,CO,F]
      simp [hv,hgd j g hog]
     simp only [hy]
     simp
   rw [if_pos H]
   refine .inl (st _ Q ?_)
   rintro v w' ⟨V,hI,Z,hv⟩
   have hsz:i<b.size:=by rw [h.size];exact W
   have D:∀j,(b.setIfInBounds i true).getD j false=LK (fun i=>b.getD i false) i j:=fun j=>by
    unfold LK
    by_cases hij:i=j
    ·subst hij;simp [hsz]
    ·have:Nat.beq i j=false:=by
      cases hb:Nat.beq i j with
      |false=>rfl
      |true=>exact absurd (Nat.eq_of_beq_eq_true hb) hij
     rw [this,Bool.false_or,getD_set_ne false hij]
   refine ih V _ _ w' ⟨by simp [h.size], ?_, ?_, ?_, ?_⟩ ?_
   ·cases G:o.dst with
    |none=>exact h.fits
    |some d=>
     refine ⟨h.fits.dfr,by simp [Act.put,h.fits.size],fun k u hu=> ?_⟩
     have Y:d≠k:=fun e=>by subst e;rw [hE i o d m G] at hu;cases hu
     simp only [Act.put,Array.getElem?_setIfInBounds,if_neg Y]
     exact h.fits.has k u hu
   ·intro j q d A r c
    rw [D] at r
    by_cases hij:i=j
    ·subst hij
     obtain rfl:q=o:=Option.some.inj (A.symm.trans m)
     rw [hv (by rw [c];rfl),c]
     have:=hn i q d A c
     simp [Act.put,h.fits.size,this]
    ·have K:b.getD j false=true:=by
      unfold LK at r
      have:Nat.beq i j=false:=by
       cases hb:Nat.beq i j with
       |false=>rfl
       |true=>exact absurd (Nat.eq_of_beq_eq_true hb) hij
      rw [this,Bool.false_or] at r;exact r
     have B:=Z j K
     cases G:o.dst with
     |none=>rw [B];exact h.vals j q d A K c
     |some e=>
      have Y:e≠d:=fun e' =>by subst e';exact hij (SC G c _ _ _ C m A)
      simp only [Act.put,Array.getElem?_setIfInBounds,if_neg Y]
      rw [B];exact h.vals j q d A K c
   ·intro j q A r e he
    rw [D] at r ⊢
    unfold LK at r ⊢
    by_cases hij:i=j
    ·subst hij
     obtain rfl:q=o:=Option.some.inj (A.symm.trans m)
     rw [Bool.or_eq_true];exact .inr (N e he)
    ·have:Nat.beq i j=false:=by
      cases hb:Nat.beq i j with
      |false=>rfl
      |true=>exact absurd (Nat.eq_of_beq_eq_true hb) hij
     rw [this,Bool.false_or] at r
     rw [Bool.or_eq_true];exact .inr (h.closed j q A r e he)
   ·have:(fun j=>(b.setIfInBounds i true).getD j false)=LK (fun i=>b.getD i false) i:=funext D
    rw [this];exact hI
   ·have key:∀(l:List Nat),l.Nodup→i ∈ l→(l.filter fun j=> !(b.setIfInBounds i true).getD j false).length+1=(l.filter fun j=> !b.getD j false).length:=by
     intro l
     induction l with
     |nil=>intro _ h;cases h
     |cons j l ihl=>
      intro C T
      obtain ⟨U,C⟩:=List.nodup_cons.1 C
      by_cases hij:i=j
      ·subst hij
       have e1:(l.filter fun j=> !(b.setIfInBounds i true).getD j false)=l.filter fun j=> !b.getD j false:=filter_congr fun k Y=>by
        have:i≠k:=fun e=>by subst e;exact U Y
        rw [getD_set_ne false this]
       have e2:(b.setIfInBounds i true).getD i false=true:=by simp [hsz]
       rw [filter_cons,filter_cons,e2,J,e1]
       simp
      ·have:=ihl C ((List.mem_cons.1 T).resolve_left hij)
       rw [filter_cons,filter_cons,getD_set_ne false hij]
       split
       ·simp only [length_cons];omega
       ·exact this
    have:=key _ nodup_range (List.mem_range.2 W)
    omega
theorem Pr (h:Rb l0 n=true):(∀i o,DI l0 i=some o→o.guard=none∧∀j ∈ BS o,j<i)∧(∀i o d,DI l0 i=some o→o.dst=some d→d<n)∧(CU l0).Nodup:=by
 simp only [Rb,Bool.and_eq_true,all_eq_true] at h
 obtain ⟨⟨g,f⟩,l⟩:=h
 refine ⟨fun i o b=> ?_,fun i o d b c=> ?_,Hu l⟩
 ·have a:(o,i) ∈ l0.zipIdx:=by
   rw [mem_zipIdx_iff_getElem?,CO];exact b
  have:=g _ a
  refine ⟨by simpa using this.1,fun j e=>by have:=this.2 j e;simpa [Nat.blt_eq] using this⟩
 ·have a:d ∈ CU l0:=List.mem_filterMap.2 ⟨o,HC b,c⟩
  have:=f d a
  simpa [Nat.blt_eq] using this
theorem KQ (h:Np l0 n=true):(∀i o,DI l0 i=some o→(∀j g,o.guard=some (j,g)→j ∈ BS o∧∃dj,(DI l0 j).bind (·.dst)=some dj)∧∀j ∈ BS o,j<i)∧(∀i o d,DI l0 i=some o→o.dst=some d→d<n)∧(CU l0).Nodup:=by
 simp only [Np,Bool.and_eq_true,all_eq_true] at h
 obtain ⟨⟨m,l⟩,p⟩:=h
 refine ⟨fun i o b=> ?_,fun i o d b e=> ?_,Hu p⟩
 ·have a:(o,i) ∈ l0.zipIdx:=by
   rw [mem_zipIdx_iff_getElem?,CO];exact b
  have:=m _ a
  refine ⟨fun j g q=> ?_,fun j f=>by have:=this.2 j f;simpa [Nat.blt_eq] using this⟩
  have c:=this.1
  simp only [q,Bool.and_eq_true] at c
  exact ⟨by simpa using c.1,Option.isSome_iff_exists.1 c.2⟩
 ·have a:d ∈ CU l0:=List.mem_filterMap.2 ⟨o,HC b,e⟩
  have:=l d a
  simpa [Nat.blt_eq] using this
def IP (l:List Oper) (E:BZ):BZ:=E.filter fun p=> !(CU l).contains p.1
theorem I2 {l:List Oper}:∀(E:BZ) (i:Nat),get (IP l E) i=if (CU l).contains i then none else get E i
 |[],i=>by simp [IP,Dd.get]
 |(j,v)::E,i=>by
  have b:=I2 (l:=l) E i
  unfold IP at*
  rw [filter_cons]
  by_cases hj:(CU l).contains j=true
  ·simp only [hj,Bool.not_true,Bool.false_eq_true,if_false]
   rw [b]
   split
   ·rfl
   ·rename_i h
    have:j≠i:=fun e=>h (e ▸ hj)
    rw [CX v E this]
  ·have a:(CU l).contains j=false:=by simpa using hj
   simp only [a,Bool.not_false,if_true]
   by_cases e:j=i
   ·subst e
    rw [CG,CG,if_neg hj]
   ·rw [CX v _ e,CX v _ e,b]
theorem Cw.invG {J:Nat} {l:List Oper} {St:Type} (val:St→Nat→Value) (I:St→(Nat→Bool)→World→Prop) (C:St) (B:P.follows .mixedOrders=true) (N:Np l n=true)
  (G:∀w',Below w.heap.size w w' →I C (fun _=>false) w')
  (c:AZ (fun i o=>∀s L w,I s L w→L i=false→(∀e ∈ BS o,L e=true)→(∀j q,DI l j=some q→L j=true→∀e ∈ BS q,L e=true)→(∀j g,o.guard=some (j,g)→val s j= .bool g)∧
   Ow P n (I4 l (val s) (BS o)++IP l E) o w (fun v w' =>∃p,I p (LK L i) w' ∧(∀j,L j=true→val p j=val s j)∧(o.dst.isSome=true→v=val p i))) 0 l)
  (r:∀s L w,I s L w→(∀i,i<l.length→L i=true)→Pw n (I4 l (val s) (List.range l.length)++IP l E) (Q .normal) w):Cw P Q n (.region J l.toArray true) E w:=fun a f=>by
 obtain ⟨H,F,K⟩:=KQ N
 refine wp_region_any B ?_
 have m:∀i,(Array.replicate l.length false).getD i false=false:=fun i=>getD_replicate_false _ _
 have f:BR n (IP l E) a:=⟨f.dfr,f.size,fun i v h=>f.has i v (by
  rw [I2] at h
  split at h
  ·cases h
  ·exact h)⟩
 refine Mw (val:=val) (I:=I) H F K (fun i o d A D=> ?_) (fun i o A=>by have:=Kv _ _ _ c A;rwa [Nat.zero_add] at this) r _ C _ a _ ⟨by simp,f,fun j o d _ b=> ?_,fun j o _ b=> ?_, ?_⟩ ?_
 ·have B:d ∈ CU l:=List.mem_filterMap.2 ⟨o,HC A,D⟩
  rw [I2,if_pos (by simpa using B)]
 ·have:=m j;simp only [size_toArray] at b;rw [this] at b;cases b
 ·have:=m j;simp only [size_toArray] at b;rw [this] at b;cases b
 ·have:(fun i=>(Array.replicate l.toArray.size false).getD i false)=fun _=>false:=funext fun i=>by simpa using m i
  rw [this];exact G _ (FS w)
 ·have:((List.range l.length).filter fun i=> !(Array.replicate l.toArray.size false).getD i false)=List.range l.length:=List.filter_eq_self.2 fun i _=>by
   have:=m i;simp only [size_toArray];rw [this];rfl
  rw [this];simp
theorem H2 {R a:Nat→Oper→Prop}:∀(l:List Oper) (k:Nat),(∀i o,DI l i=some o→R (k+i) o→a (k+i) o)→AZ R k l→AZ a k l
 |[],_,_,_=>trivial
 |o::l,k,h,⟨h1,h2⟩=>⟨h 0 o rfl h1,H2 l (k+1) (fun i q b c=>by have:=h (i+1) q b (by rwa [show k+1+i=k+(i+1) by omega] at c);rwa [show k+1+i=k+(i+1) by omega]) h2⟩
theorem TW (h:Rb l0 n=true):Np l0 n=true:=by
 simp only [Rb,Np,Bool.and_eq_true,all_eq_true] at h ⊢
 refine ⟨⟨fun p a=>⟨?_,(h.1.1 p a).2⟩,h.1.2⟩,h.2⟩
 have:=(h.1.1 p a).1
 cases hg:p.1.guard with
 |none=>rfl
 |some q=>rw [hg] at this;cases this
theorem Cw.inv {D:Nat} {l:List Oper} {St:Type} (val:St→Nat→Value) (I:St→(Nat→Bool)→World→Prop) (h:St) (J:P.follows .mixedOrders=true) (m:Rb l n=true)
  (r:∀w',Below w.heap.size w w' →I h (fun _=>false) w')
  (a:AZ (fun i o=>∀s L w,I s L w→L i=false→(∀e ∈ BS o,L e=true)→(∀j q,DI l j=some q→L j=true→∀e ∈ BS q,L e=true)→
   Ow P n (I4 l (val s) (BS o)++IP l E) o w (fun v w' =>∃b,I b (LK L i) w' ∧(∀j,L j=true→val b j=val s j)∧(o.dst.isSome=true→v=val b i))) 0 l)
  (c:∀s L w,I s L w→(∀i,i<l.length→L i=true)→Pw n (I4 l (val s) (List.range l.length)++IP l E) (Q .normal) w):Cw P Q n (.region D l.toArray true) E w:=
 Cw.invG val I h J (TW m) r (H2 l 0 (fun i o F G s L w B p H A=>⟨fun j g f=>(by
  have C:=((Pr m).1 i o F).1
  rw [C] at f;cases f),G s L w B p H A⟩) a) c
theorem Cw.mono {T:Nat} {l:List Oper} (Φ:Nat→Value→World→Prop) (V:P.follows .mixedOrders=true) (Y:Np l n=true) (p:∀i v w w',Φ i v w→Below w.heap.size w w' →Φ i v w')
  (m:AZ (fun i o=>∀(s:Nat→Value) w',Below w.heap.size w w' →(∀j ∈ BS o,Φ j (s j) w')→(∀j g,o.guard=some (j,g)→s j= .bool g)∧
   Ow P n (I4 l s (BS o)++IP l E) o w' (fun v c=>Below w'.heap.size w' c∧(o.dst.isSome=true→Φ i v c))) 0 l)
  (r:∀s w',Below w.heap.size w w' →(∀i,i<l.length→((DI l i).bind (·.dst)).isSome=true→Φ i (s i) w')→Pw n (I4 l s (List.range l.length)++IP l E) (Q .normal) w') (H:(l.all fun o=>(BS o).all fun j=>((DI l j).bind (·.dst)).isSome)=true):Cw P Q n (.region T l.toArray true) E w:=by
 refine Cw.invG (St:=Nat→Value) (fun s j=>s j) (fun s L w' =>Below w.heap.size w w' ∧∀j,L j=true→((DI l j).bind (·.dst)).isSome=true→Φ j (s j) w') (fun _=>undef) V Y (fun w' h=>⟨h,fun j h=>by cases h⟩) (H2 l 0 (fun i o A D s L w' f C F X=> ?_) m) (fun s L w' f hall=>r s w' f.1 fun i U hs=>f.2 i (hall i U) hs)
 rw [Nat.zero_add] at D C
 have q:∀j ∈ BS o,((DI l j).bind (·.dst)).isSome=true:=fun j b=>List.all_eq_true.1 (List.all_eq_true.1 H o (HC A)) j b
 obtain ⟨J,G⟩:=D s w' f.1 (fun j b=>f.2 j (F j b) (q j b))
 refine ⟨J,fun a W K Q N=>G a W K Q fun v c ⟨B,I⟩=>N v c ?_⟩
 refine ⟨fun j=>if i=j then v else s j,⟨f.1.trans (B.mono (AA f.1)),fun j b hs=> ?_⟩,fun j b=> ?_,fun _=> ?_⟩
 ·by_cases e:i=j
  ·subst e
   simp only [if_true]
   refine I ?_
   rw [A] at hs
   simpa using hs
  ·simp only [if_neg e]
   refine p _ _ _ _ (f.2 j ?_ hs) B
   rw [Nat.zero_add] at b
   unfold LK at b
   have:Nat.beq i j=false:=by
    cases hb:Nat.beq i j with
    |false=>rfl
    |true=>exact absurd (Nat.eq_of_beq_eq_true hb) e
   rwa [this,Bool.false_or] at b
 ·have:i≠j:=fun e=>by subst e;rw [C] at b;cases b
  simp only [if_neg this]
 ·simp
end
def BX (w:World) (M:Nat) (d:TypeDesc) (S:Value→Value→Prop):Prop:=
 ∃es c,w.heap[M]? =some (.map es c)∧(∀x ∈ es.toList,MapKept.IsKey d x.key)∧∀k v,(∃x ∈ es.toList,x.key=k∧x.val=v)↔S k v
theorem BX.lt {w:World} {M:Nat} {d:TypeDesc} {S:Value→Value→Prop} (h:BX w M d S):M<w.heap.size:=by
 obtain ⟨a,c,h, -⟩:=h;exact (Array.getElem?_eq_some_iff.1 h).1
theorem BX.bs {w w' :World} {M:Nat} {d:TypeDesc} {S:Value→Value→Prop} (h:BX w M d S) (g:Below w.heap.size w w'):BX w' M d S:=by
 have a:=h.lt
 obtain ⟨e,c,h,b⟩:=h
 exact ⟨e,c,by rw [g.block M a];exact h,b⟩
theorem BX.congr {w:World} {M:Nat} {d:TypeDesc} {S T:Value→Value→Prop} (h:BX w M d S) (b:∀k v,S k v↔T k v):BX w M d T:=by
 obtain ⟨e,c,h,a,f⟩:=h
 exact ⟨e,c,h,a,fun k v=>(f k v).trans (b k v)⟩
section
variable {P : Program} {n : Nat} {E : BZ} {w : World} {ty : TypeId} {t kt et : TypeId} {d : TypeDesc} {M : Nat} {S : Value → Value → Prop} {x y z : Operand} {k u : Value}
theorem Gx:Xw P n E (.makeMap t none) ty w (fun v w' =>v= .map (some w.heap.size)∧BX w' w.heap.size d (fun _ _=>False)∧Below w.heap.size w w' ∧w'.heap.size=w.heap.size+1):=fun a b=>by
 refine ⟨.map (some w.heap.size),w.alloc (.map #[] 0),fun _ _ _ _=> ?_,rfl,⟨#[],0,(MapKept.heap_alloc w _).1,by simp,by simp⟩,DR w _,by simp⟩
 have:(Instr.makeMap t none).run P w= .ok (.map (some w.heap.size)) (w.alloc (.map #[] 0)):=rfl
 simp [execOp,this]
theorem Dc (J:P.underlying t=some (.map kt et)) (B:P.underlying kt=some d) (f:ev E x=some (.map (some M))) (H:ev E y=some k) (F:ev E z=some u) (p:MapKept.IsKey d k) (h:BX w M d S) (l:∀v,¬S k v):
  Xu P n E (.insert t x y z) ty w (fun w' =>BX w' M d (fun q v' =>S q v' ∨(q=k∧v' =u))∧w.grownBy w' (some M)∧w'.heap.size=w.heap.size):=fun a s=>by
 obtain ⟨r,c,i,g,A⟩:=h
 obtain ⟨G, -⟩|⟨j,e, -,K,o⟩:=MapKept.findNow_spec p r.toList 0 g
 ·refine ⟨{w with heap:=w.heap.setIfInBounds M (.map (r.push {key:=k,val:=u,born:=c}) (c+1))},fun _ _ _ _=> ?_,⟨_,_,(MapKept.heap_set i).1,fun x f=> ?_,fun q v' => ?_⟩,⟨rfl,rfl,rfl,by simp,fun b _ m=>(MapKept.heap_set i).2 b (fun e=>m (by rw [e]))⟩,by simp⟩
  ·have I:(Instr.mapUpdate t (.map (some M)) k u).run P w= .ok () {w with heap:=w.heap.setIfInBounds M (.map (r.push {key:=k,val:=u,born:=c}) (c+1))}:=by
    unfold Instr.mapUpdate
    simp only [Sem.run_bind,run_underlying J,Result.andThen,MapKept.run_getObj_map i,MapKept.run_checkKey B p,MapKept.run_findKey B G,MapKept.run_setObj_map _ i]
   simp [execOp,s.ev f,s.ev H,s.ev F,I]
  ·rw [Array.toList_push,mem_append] at f
   rcases f with f|f
   ·exact g x f
   ·rw [List.mem_singleton.1 f];exact p
  ·rw [Array.toList_push]
   constructor
   ·rintro ⟨x,f,rfl,rfl⟩
    rcases List.mem_append.1 f with f|f
    ·exact .inl ((A _ _).1 ⟨x,f,rfl,rfl⟩)
    ·rw [List.mem_singleton.1 f];exact .inr ⟨rfl,rfl⟩
   ·rintro (h|⟨rfl,rfl⟩)
    ·obtain ⟨x,f,D,C⟩:=(A _ _).2 h
     exact ⟨x,mem_append_left _ f,D,C⟩
    ·exact ⟨_,mem_append_right _ (List.mem_singleton.2 rfl),rfl,rfl⟩
 ·exact absurd ((A k e.val).1 ⟨e,mem_of_getElem? K,o,rfl⟩) (l _)
theorem GU (o:P.underlying t=some (.map kt et)) (a:P.underlying kt=some d) (m:MapKept.IsKey d k) (h:BX w M d S) (b:Bool) {z:Value} (D:(zeroValue et).run P w= .ok z w):
  (∃v,S k v∧(Instr.lookup t (.map (some M)) k b).run P w= .ok (if b then .tuple #[v, .bool true] else v) w)∨((∀v,¬S k v)∧(Instr.lookup t (.map (some M)) k b).run P w= .ok (if b then .tuple #[z, .bool false] else z) w):=by
 obtain ⟨B,c,q,g,p⟩:=h
 obtain ⟨i,f⟩|⟨j,e,i,r,l⟩:=MapKept.findNow_spec m B.toList 0 g
 ·right
  refine ⟨fun v s=> ?_, ?_⟩
  ·obtain ⟨x,C,A, -⟩:=(p k v).2 s
   exact f x C A
  ·unfold Instr.lookup
   simp only [Sem.run_bind,run_underlying o,Result.andThen,MapKept.run_getObj_map q,MapKept.run_checkKey a m,MapKept.run_findKey a i,D,Sem.run_pure]
 ·left
  refine ⟨e.val,(p _ _).1 ⟨e,mem_of_getElem? r,l,rfl⟩, ?_⟩
  unfold Instr.lookup
  simp only [Sem.run_bind,run_underlying o,Result.andThen,MapKept.run_getObj_map q,MapKept.run_checkKey a m,MapKept.run_findKey a i,Sem.run_pure]
theorem Ex.look2 {v:Value} (g:P.underlying t=some (.map kt et)) (f:P.underlying kt=some d) (p:ev E x=some (.map (some M))) (l:ev E y=some k) (j:MapKept.IsKey d k) (h:BX w M d S) (q:∃i z,P.info? et=some i∧i.zero=some z) (m:S k v) (o:∀v',S k v' →v' =v):Ex P n E (.lookup t x y true) ty w (.tuple #[v, .bool true]):=fun a e _ _ _ _=>by
 obtain ⟨i,z,b,c⟩:=q
 rcases GU g f j h true (z:=z) (by simp [zeroValue,typeInfo,b,c]) with ⟨v',b,c⟩|⟨b, -⟩
 ·rw [o v' b] at c
  simp [execOp,e.ev p,e.ev l,c]
 ·exact absurd m (b v)
theorem Ex.look2n {i:TypeInfo} {z:Value} (g:P.underlying t=some (.map kt et)) (f:P.underlying kt=some d) (o:ev E x=some (.map (some M))) (l:ev E y=some k) (j:MapKept.IsKey d k) (h:BX w M d S) (c:P.info? et=some i) (b:i.zero=some z) (m:∀v,¬S k v):Ex P n E (.lookup t x y true) ty w (.tuple #[z, .bool false]):=fun a e _ _ _ _=>by
 rcases GU g f j h true (z:=z) (by simp [zeroValue,typeInfo,c,b]) with ⟨v',c,b⟩|⟨-,b⟩
 ·exact absurd c (m v')
 ·simp [execOp,e.ev o,e.ev l,b]
theorem Fm {v:Value} (g:P.underlying t=some (.map kt et)) (f:P.underlying kt=some d) (p:ev E x=some (.map (some M))) (l:ev E y=some k) (j:MapKept.IsKey d k) (h:BX w M d S) (q:∃i z,P.info? et=some i∧i.zero=some z) (m:S k v) (o:∀v',S k v' →v' =v):Ex P n E (.lookup t x y false) ty w v:=fun a e _ _ _ _=>by
 obtain ⟨i,z,b,c⟩:=q
 rcases GU g f j h false (z:=z) (by simp [zeroValue,typeInfo,b,c]) with ⟨v',b,c⟩|⟨b, -⟩
 ·rw [o v' b] at c
  simp [execOp,e.ev p,e.ev l,c]
 ·exact absurd m (b v)
end
end Go.Dd

namespace Go.Proofs.YtblbopcaflaldaaGreatDoor
open Go Go.Dd Go.RowKit List Go.Proofs.Tryz
set_option maxRecDepth 100000
def kv (l:List Int):Value:= .agg (l.map (Value.int .i64)).toArray
def KN:List (Nat×Int×List Int):=[(2,1,[0,0,0,0,0,1]),(4,2,[0,0,0,0,0,1]),(6,3,[2,2,0,0,0,0]),(8,4,[2,2,0,0,0,0]),(10,7,[2,2,0,0,0,0]),(12,5,[1,1,0,0,0,0]),(16,6,[1,1,0,31,0,0]),(18,8,[2,2,1,8,8,0]),(22,9,[1,1,1,64,0,0]),(24,10,[1,1,0,0,0,1]),(26,11,[1,1,0,0,0,2]),(28,12,[1,4,0,3,0,0]),(32,13,[1,1,0,3,0,0])]
def KD (k v:Value):Prop:=∃p ∈ KN,k= .int .u8 p.2.1∧v=kv p.2.2
def MT (L:Nat→Bool) (k v:Value):Prop:=∃p ∈ KN,L p.1=true∧k= .int .u8 p.2.1∧v=kv p.2.2
def UC (W:World) (s:Nat) (L:Nat→Bool) (w:World):Prop:=Below W.heap.size W w∧(L 0=true→W.heap.size≤s∧BX w s (.int .u8) (MT L))
def Vi (f:Value) (s:Nat):Nat→Value
 |0|33|34=> .map (some s)
 |1|3=>kv [0,0,0,0,0,1]
 |5|7|9=>kv [2,2,0,0,0,0]
 |11|14|20|30=>kv [1,1,0,0,0,0]
 |13|19|29=>f
 |15=>kv [1,1,0,31,0,0]
 |17=>kv [2,2,1,8,8,0]
 |21=>kv [1,1,1,64,0,0]
 |23=>kv [1,1,0,0,0,1]
 |25=>kv [1,1,0,0,0,2]
 |27=>kv [1,4,0,3,0,0]
 |31=>kv [1,1,0,3,0,0]
 |_=>undef
theorem J6 {L:Nat→Bool} {i j:Nat} (h:i≠j):LK L i j=L j:=by
 unfold LK
 cases hb:Nat.beq i j with
 |false=>rfl
 |true=>exact absurd (Nat.eq_of_beq_eq_true hb) h
theorem PM {L:Nat→Bool} {i:Nat}:LK L i i=true:=by
 unfold LK;rw [Nat.beq_refl];rfl
theorem DY {W w w' :World} {s i:Nat} {L:Nat→Bool} (h:UC W s L w) (g:Below w.heap.size w w') (f:i≠0) (c:∀p ∈ KN,i≠p.1):UC W s (LK L i) w' :=by
 refine ⟨h.1.trans (g.mono (AA h.1)),fun b=> ?_⟩
 rw [J6 f] at b
 obtain ⟨e,d⟩:=h.2 b
 refine ⟨e,(d.bs g).congr fun k v=>⟨fun ⟨p,a,q⟩=>⟨p,a,by rw [J6 (c p a)];exact q⟩,fun ⟨p,a,q⟩=>⟨p,a,by rw [J6 (c p a)] at q;exact q⟩⟩⟩
theorem GK {W w w' :World} {s i:Nat} {n:Int} {l:List Int} {L:Nat→Bool} (h:UC W s L w) (o:L 0=true) (j:(i,n,l) ∈ KN) (m:∀p ∈ KN,p.1=i→p=(i,n,l)) 
  (g:BX w' s (.int .u8) (fun k v=>MT L k v∨(k= .int .u8 n∧v=kv l))∧w.grownBy w' (some s)∧w'.heap.size=w.heap.size):UC W s (LK L i) w' :=by
 obtain ⟨f,q⟩:=h.2 o
 refine ⟨h.1.grown g.2.1 (AA h.1) (by rintro _ ⟨⟩;exact f),fun _=>⟨f,g.1.congr fun k v=>⟨?_, ?_⟩⟩⟩
 ·rintro (⟨p,a,c,b⟩|⟨rfl,rfl⟩)
  ·exact ⟨p,a,by unfold LK;rw [c,Bool.or_true],b⟩
  ·exact ⟨_,j,PM,rfl,rfl⟩
 ·rintro ⟨p,a,c,b,d⟩
  by_cases e:p.1=i
  ·obtain rfl:=m p a e
   exact .inr ⟨b,d⟩
  ·rw [J6 (Ne.symm e)] at c
   exact .inl ⟨p,a,c,b,d⟩
theorem ES {L:Nat→Bool} {i:Nat} {n:Int} (c:L i=false) (e:∀p ∈ KN,p.2.1=n→p.1=i):∀v,¬MT L (.int .u8 n) v:=by
 rintro v ⟨p,b,a,d, -⟩
 have f:n=p.2.1:=by cases d;rfl
 rw [e p b f.symm,c] at a;cases a
theorem Kb (l:List Int):(l.map (Value.int .i64)).all (·.oneCell')=true:=EI (fun _=>rfl) l
theorem OH (a b:Int):Tryz.prog.built 275 [(0, .int .i64 a),(1, .int .i64 b)]=some ([a,b,0,0,0,0].map (Value.int .i64)).toArray:=by
 have c:Tryz.prog.info? 275=some Tryz.t275:=by kernel_rfl
 have d:Tryz.prog.info? 3=some Tryz.t3:=by kernel_rfl
 simp [Program.built,c,underlying275,d,Instr.fill,Value.cells]
 rfl
theorem Hl (a b i h:Int) (w:World):AJ prog 247 [kv [a,b,0,0,0,0], .int .i64 i, .int .i64 h] w (fun r w' =>r=kv [a,b,i,h,0,0]∧Below w.heap.size w w'):=by
 have e:=Below.refl w.heap.size w
 refine Bd (n:=12) func247 O<|Ah ?_
 obtain ⟨B,x⟩:∃B,B=w.heap.size:=⟨_,rfl⟩
 refine C0 (cs:=[a,b,0,0,0,0].map (Value.int .i64)) O O O ?_
 rintro m w p c j -
 have e:=e.bs j
 have F:=BL c
 refine Dg Hx O ?_
 rintro s w q d j -
 have e:=e.bs j
 have c:=c.bs j
 refine Bg<|Ad O<|Ad O<|A0 underlying275 O (AV _) ?_
 have E:=BL d
 have z:=AA e
 refine Br (C4 (u:= .int .i64 i) (AV _) O O O c (show 2<6 by decide)) ?_
 rintro C ⟨c,f,t⟩
 have d:=d.by f (by rintro ⟨⟩;omega)
 refine A0 underlying275 O (AV _)<|Br (C4 (u:= .int .i64 h) (AV _) O O O c (show 3<6 by decide)) ?_
 rintro A ⟨c,g,v⟩
 have d:=d.by g (by rintro ⟨⟩;omega)
 have c:AN A m 275 ([a,b,i,h,0,0].map (Value.int .i64)):=c
 refine Bg<|Aa (Cj (k:=6) (EV _) (EN _) O O c) O<|Br (Cz (cs:=[a,b,i,h,0,0].map (Value.int .i64)) (k:=6) (by kernel_rfl) O O O (Kb _) d O) ?_
 rintro D ⟨d,o,y⟩
 have l:=((e.grown f z (by rintro _ ⟨⟩;omega)).grown g (by omega) (by rintro _ ⟨⟩;omega)).grown o (by omega) (by rintro _ ⟨⟩;omega)
 refine Ay<|Ff O O ‹_› underlying275 O O O ?_
 exact ⟨rfl,l⟩
set_option maxRecDepth 4000 in
theorem S3 (w:World):AJ prog 216 [] w (fun r w' =>Below w.heap.size w w' ∧∃M,r= .map (some M)∧w.heap.size≤M∧BX w' M (.int .u8) KD):=by
 have z:=Below.refl w.heap.size w
 refine Bd (n:=37) func216 O<|Ah<|Ab O<|Bg<|Aa (Cc (vs:=[(0, .int .i64 1),(1, .int .i64 1)]) (cs:=[1,1,0,0,0,0].map (Value.int .i64)) O (OH 1 1)) O<|Aa (Cc (vs:=[(0, .int .i64 2),(1, .int .i64 2)]) (cs:=[2,2,0,0,0,0].map (Value.int .i64)) O (OH 2 2)) O<|Dg Hx O ?_
 rintro A_one w W a X -
 have z:=z.bs X
 have z1:=BL a
 refine Dg Hx O ?_
 rintro A_two w V b X -
 have z:=z.bs X
 have a:=a.bs X
 have z2:=BL b
 have z0:=AA z
 refine Br (Cz (cs:=[1,1,0,0,0,0].map (Value.int .i64)) (k:=6) (by kernel_rfl) O O O (Kb _) a O) ?_
 rintro w1 ⟨a,R,hz1⟩
 have b:=b.by R (by rintro ⟨⟩;omega)
 refine Br (Cz (cs:=[2,2,0,0,0,0].map (Value.int .i64)) (k:=6) (by kernel_rfl) O O O (Kb _) b O) ?_
 rintro x ⟨b,T,hz2⟩
 have a:=a.by T (by rintro ⟨⟩;omega)
 have z:=(z.grown R z0 (by rintro _ ⟨⟩;omega)).grown T (by omega) (by rintro _ ⟨⟩;omega)
 refine Bg<|Ab O<|Bg<|Ad O<|Aa (Cj (k:=6) (EV _) (EN _) O O b) O<|Fj (p:=[]) (q:=[]) O O O (Hl 2 2 1 8 x) ?_
 rintro _ A ⟨rfl,C⟩
 have a:=a.bs C
 have b:=b.bs C
 have z3:=C.size
 have z:=z.trans (C.mono (AA z))
 refine Bq (Xw.new Hx) O ?_
 rintro _ w4 ⟨rfl,m,H,hz4⟩
 have a:=a.bs H
 have b:=b.bs H
 refine Br (Cz (cs:=[2,2,1,8,0,0].map (Value.int .i64)) (k:=6) (by kernel_rfl) O O O (Kb _) m O) ?_
 rintro w5 ⟨m,K,hz5⟩
 have a:=a.by K (by rintro ⟨⟩;omega)
 have b:=b.by K (by rintro ⟨⟩;omega)
 have z:=(z.trans (H.mono (AA z))).grown K (by omega) (by rintro _ ⟨⟩;omega)
 refine Bg<|A0 underlying275 O (AV _)<|Br (C4 (u:= .int .i64 8) (AV _) O O O m (show 4<6 by decide)) ?_
 rintro w6 ⟨m,I,hz6⟩
 have m:AN w6 A.heap.size 275 ([2,2,1,8,8,0].map (Value.int .i64)):=m
 have a:=a.by I (by rintro ⟨⟩;omega)
 have b:=b.by I (by rintro ⟨⟩;omega)
 have z:=z.grown I (by omega) (by rintro _ ⟨⟩;omega)
 refine Bg<|Ad O<|Aa (Cj (k:=6) (EV _) (EN _) O O a) O<|Fj (p:=[]) (q:=[]) O O O (Hl 1 1 0 3 w6) ?_
 rintro _ w7 ⟨rfl,D⟩
 have a:=a.bs D
 have b:=b.bs D
 have m:=m.bs D
 have z7:=D.size
 have z:=z.trans (D.mono (AA z))
 refine Bq (Xw.new Hx) O ?_
 rintro _ w8 ⟨rfl,y,F,hz8⟩
 have a:=a.bs F
 have b:=b.bs F
 have m:=m.bs F
 refine Br (Cz (cs:=[1,1,0,3,0,0].map (Value.int .i64)) (k:=6) (by kernel_rfl) O O O (Kb _) y O) ?_
 rintro w9 ⟨y,G,hz9⟩
 have a:=a.by G (by rintro ⟨⟩;omega)
 have b:=b.by G (by rintro ⟨⟩;omega)
 have m:=m.by G (fun e=>by have:=Option.some.inj e;omega)
 have z:=(z.trans (F.mono (AA z))).grown G (by omega) (by rintro _ ⟨⟩;omega)
 refine Bg<|A0 underlying275 O (AV _)<|Br (C4 (u:= .int .i64 4) (AV _) O O O y (show 1<6 by decide)) ?_
 rintro U ⟨y,B,hz10⟩
 have y:AN U w7.heap.size 275 ([1,4,0,3,0,0].map (Value.int .i64)):=y
 have a:=a.by B (by rintro ⟨⟩;omega)
 have b:=b.by B (by rintro ⟨⟩;omega)
 have m:=m.by B (fun e=>by have:=Option.some.inj e;omega)
 have z:=z.grown B (by omega) (by rintro _ ⟨⟩;omega)
 refine Aj<|Aq ?_
 refine Cw.inv (Vi (.func (.func 247) #[] #[])) (UC U) (0) mixed (by kernel_rfl) ?_ ?_ ?_
 ·exact fun w' h=>⟨h,fun h=>by cases h⟩
 ·refine B7 (fun s L x c t o f=> ?_) ?_
  ·refine Ow.mk (Gx (d:= .int .u8)) ?_
   rintro _ A ⟨rfl,Z,C, -⟩
   have Q:∀k q,DI _ k=some q→0 ∈ BS q→L k=false:=fun k q hq h0=>by
    cases hk:L k with
    |false=>rfl
    |true=>rw [f k q hq hk 0 h0] at t;cases t
   have J:=Q 33 _ rfl (by decide)
   have n34:L 34=false:=by
    cases hk:L 34 with
    |false=>rfl
    |true=>rw [f 34 _ rfl hk 33 (by decide)] at J;cases J
   have nin:∀p ∈ KN,L p.1=false:=fun p E=>by
    simp only [KN,mem_cons,not_mem_nil,or_false] at E
    rcases E with rfl|rfl|rfl|rfl|rfl|rfl|rfl|rfl|rfl|rfl|rfl|rfl|rfl<;>exact Q _ _ rfl (by decide)
   refine ⟨x.heap.size,⟨c.1.trans (C.mono (AA c.1)),fun _=>⟨AA c.1,Z.congr fun k v=>⟨fun h=>h.elim,fun ⟨p,E,t,_⟩=> ?_⟩⟩⟩,fun j N=> ?_,fun _=>rfl⟩
   ·have hp0:∀p ∈ KN,(0:Nat)≠p.1:=by decide
    rw [J6 (hp0 p E),nin p E] at t;cases t
   ·have j0:j≠0:=fun e=>by rw [e,t] at N;cases N
    have j33:j≠33:=fun e=>by rw [e,J] at N;cases N
    have j34:j≠34:=fun e=>by rw [e,n34] at N;cases N
    unfold Vi
    split<;>first|rfl|omega
  refine B7 (fun s L x c t o f=> ?_) ?_
  ·exact Ow.val (Cc (vs:=[(5, .int .i64 1)]) (cs:=[0,0,0,0,0,1].map (Value.int .i64)) rfl (by kernel_rfl)) ⟨s,DY c (Below.refl _ _) (by decide) (by decide),fun _ _=>rfl,fun _=>rfl⟩
  refine B7 (fun s L x c t o f=> ?_) ?_
  ·refine Dv (Dc (M:=s) (S:=MT L) (k:= .int .u8 1) (u:=kv [0,0,0,0,0,1]) (d:= .int .u8) underlying270 CJ O O O O (c.2 (o 0 (by decide))).2 (ES t (by decide))) ?_
   exact fun A g=>⟨s,GK (i:=2) (n:=1) (l:=[0,0,0,0,0,1]) c (o 0 (by decide)) (by decide) (by decide) g,fun _ _=>rfl,fun h=>by cases h⟩
  refine B7 (fun s L x c t o f=> ?_) ?_
  ·exact Ow.val (Cc (vs:=[(5, .int .i64 1)]) (cs:=[0,0,0,0,0,1].map (Value.int .i64)) rfl (by kernel_rfl)) ⟨s,DY c (Below.refl _ _) (by decide) (by decide),fun _ _=>rfl,fun _=>rfl⟩
  refine B7 (fun s L x c t o f=> ?_) ?_
  ·refine Dv (Dc (M:=s) (S:=MT L) (k:= .int .u8 2) (u:=kv [0,0,0,0,0,1]) (d:= .int .u8) underlying270 CJ O O O O (c.2 (o 0 (by decide))).2 (ES t (by decide))) ?_
   exact fun A g=>⟨s,GK (i:=4) (n:=2) (l:=[0,0,0,0,0,1]) c (o 0 (by decide)) (by decide) (by decide) g,fun _ _=>rfl,fun h=>by cases h⟩
  refine B7 (fun s L x c t o f=> ?_) ?_
  ·exact Ow.val (Cj (k:=6) (EV _) (EN _) rfl rfl (b.bs c.1)) ⟨s,DY c (Below.refl _ _) (by decide) (by decide),fun _ _=>rfl,fun _=>rfl⟩
  refine B7 (fun s L x c t o f=> ?_) ?_
  ·refine Dv (Dc (M:=s) (S:=MT L) (k:= .int .u8 3) (u:=kv [2,2,0,0,0,0]) (d:= .int .u8) underlying270 CJ O O O O (c.2 (o 0 (by decide))).2 (ES t (by decide))) ?_
   exact fun A g=>⟨s,GK (i:=6) (n:=3) (l:=[2,2,0,0,0,0]) c (o 0 (by decide)) (by decide) (by decide) g,fun _ _=>rfl,fun h=>by cases h⟩
  refine B7 (fun s L x c t o f=> ?_) ?_
  ·exact Ow.val (Cj (k:=6) (EV _) (EN _) rfl rfl (b.bs c.1)) ⟨s,DY c (Below.refl _ _) (by decide) (by decide),fun _ _=>rfl,fun _=>rfl⟩
  refine B7 (fun s L x c t o f=> ?_) ?_
  ·refine Dv (Dc (M:=s) (S:=MT L) (k:= .int .u8 4) (u:=kv [2,2,0,0,0,0]) (d:= .int .u8) underlying270 CJ O O O O (c.2 (o 0 (by decide))).2 (ES t (by decide))) ?_
   exact fun A g=>⟨s,GK (i:=8) (n:=4) (l:=[2,2,0,0,0,0]) c (o 0 (by decide)) (by decide) (by decide) g,fun _ _=>rfl,fun h=>by cases h⟩
  refine B7 (fun s L x c t o f=> ?_) ?_
  ·exact Ow.val (Cj (k:=6) (EV _) (EN _) rfl rfl (b.bs c.1)) ⟨s,DY c (Below.refl _ _) (by decide) (by decide),fun _ _=>rfl,fun _=>rfl⟩
  refine B7 (fun s L x c t o f=> ?_) ?_
  ·refine Dv (Dc (M:=s) (S:=MT L) (k:= .int .u8 7) (u:=kv [2,2,0,0,0,0]) (d:= .int .u8) underlying270 CJ O O O O (c.2 (o 0 (by decide))).2 (ES t (by decide))) ?_
   exact fun A g=>⟨s,GK (i:=10) (n:=7) (l:=[2,2,0,0,0,0]) c (o 0 (by decide)) (by decide) (by decide) g,fun _ _=>rfl,fun h=>by cases h⟩
  refine B7 (fun s L x c t o f=> ?_) ?_
  ·exact Ow.val (Cj (k:=6) (EV _) (EN _) rfl rfl (a.bs c.1)) ⟨s,DY c (Below.refl _ _) (by decide) (by decide),fun _ _=>rfl,fun _=>rfl⟩
  refine B7 (fun s L x c t o f=> ?_) ?_
  ·refine Dv (Dc (M:=s) (S:=MT L) (k:= .int .u8 5) (u:=kv [1,1,0,0,0,0]) (d:= .int .u8) underlying270 CJ O O O O (c.2 (o 0 (by decide))).2 (ES t (by decide))) ?_
   exact fun A g=>⟨s,GK (i:=12) (n:=5) (l:=[1,1,0,0,0,0]) c (o 0 (by decide)) (by decide) (by decide) g,fun _ _=>rfl,fun h=>by cases h⟩
  refine B7 (fun s L x c t o f=> ?_) ?_
  ·exact Ow.val (Cb rfl) ⟨s,DY c (Below.refl _ _) (by decide) (by decide),fun _ _=>rfl,fun _=>rfl⟩
  refine B7 (fun s L x c t o f=> ?_) ?_
  ·exact Ow.val (Cj (k:=6) (EV _) (EN _) rfl rfl (a.bs c.1)) ⟨s,DY c (Below.refl _ _) (by decide) (by decide),fun _ _=>rfl,fun _=>rfl⟩
  refine B7 (fun s L x c t o f=> ?_) ?_
  ·exact Gh (Xc.val (p:=[]) (q:=[]) (vs:=[kv [1,1,0,0,0,0], .int .i64 0, .int .i64 31]) (Hl 1 1 0 31 x).1 rfl rfl) (Hl 1 1 0 31 x) (fun _ A ⟨e,g⟩=>⟨s,DY c g (by decide) (by decide),fun _ _=>rfl,fun _=>e⟩)
  refine B7 (fun s L x c t o f=> ?_) ?_
  ·refine Dv (Dc (M:=s) (S:=MT L) (k:= .int .u8 6) (u:=kv [1,1,0,31,0,0]) (d:= .int .u8) underlying270 CJ O O O O (c.2 (o 0 (by decide))).2 (ES t (by decide))) ?_
   exact fun A g=>⟨s,GK (i:=16) (n:=6) (l:=[1,1,0,31,0,0]) c (o 0 (by decide)) (by decide) (by decide) g,fun _ _=>rfl,fun h=>by cases h⟩
  refine B7 (fun s L x c t o f=> ?_) ?_
  ·exact Ow.val (Cj (k:=6) (EV _) (EN _) rfl rfl (m.bs c.1)) ⟨s,DY c (Below.refl _ _) (by decide) (by decide),fun _ _=>rfl,fun _=>rfl⟩
  refine B7 (fun s L x c t o f=> ?_) ?_
  ·refine Dv (Dc (M:=s) (S:=MT L) (k:= .int .u8 8) (u:=kv [2,2,1,8,8,0]) (d:= .int .u8) underlying270 CJ O O O O (c.2 (o 0 (by decide))).2 (ES t (by decide))) ?_
   exact fun A g=>⟨s,GK (i:=18) (n:=8) (l:=[2,2,1,8,8,0]) c (o 0 (by decide)) (by decide) (by decide) g,fun _ _=>rfl,fun h=>by cases h⟩
  refine B7 (fun s L x c t o f=> ?_) ?_
  ·exact Ow.val (Cb rfl) ⟨s,DY c (Below.refl _ _) (by decide) (by decide),fun _ _=>rfl,fun _=>rfl⟩
  refine B7 (fun s L x c t o f=> ?_) ?_
  ·exact Ow.val (Cj (k:=6) (EV _) (EN _) rfl rfl (a.bs c.1)) ⟨s,DY c (Below.refl _ _) (by decide) (by decide),fun _ _=>rfl,fun _=>rfl⟩
  refine B7 (fun s L x c t o f=> ?_) ?_
  ·exact Gh (Xc.val (p:=[]) (q:=[]) (vs:=[kv [1,1,0,0,0,0], .int .i64 1, .int .i64 64]) (Hl 1 1 1 64 x).1 rfl rfl) (Hl 1 1 1 64 x) (fun _ A ⟨e,g⟩=>⟨s,DY c g (by decide) (by decide),fun _ _=>rfl,fun _=>e⟩)
  refine B7 (fun s L x c t o f=> ?_) ?_
  ·refine Dv (Dc (M:=s) (S:=MT L) (k:= .int .u8 9) (u:=kv [1,1,1,64,0,0]) (d:= .int .u8) underlying270 CJ O O O O (c.2 (o 0 (by decide))).2 (ES t (by decide))) ?_
   exact fun A g=>⟨s,GK (i:=22) (n:=9) (l:=[1,1,1,64,0,0]) c (o 0 (by decide)) (by decide) (by decide) g,fun _ _=>rfl,fun h=>by cases h⟩
  refine B7 (fun s L x c t o f=> ?_) ?_
  ·exact Ow.val (Cc (vs:=[(0, .int .i64 1),(1, .int .i64 1),(5, .int .i64 1)]) (cs:=[1,1,0,0,0,1].map (Value.int .i64)) rfl (by kernel_rfl)) ⟨s,DY c (Below.refl _ _) (by decide) (by decide),fun _ _=>rfl,fun _=>rfl⟩
  refine B7 (fun s L x c t o f=> ?_) ?_
  ·refine Dv (Dc (M:=s) (S:=MT L) (k:= .int .u8 10) (u:=kv [1,1,0,0,0,1]) (d:= .int .u8) underlying270 CJ O O O O (c.2 (o 0 (by decide))).2 (ES t (by decide))) ?_
   exact fun A g=>⟨s,GK (i:=24) (n:=10) (l:=[1,1,0,0,0,1]) c (o 0 (by decide)) (by decide) (by decide) g,fun _ _=>rfl,fun h=>by cases h⟩
  refine B7 (fun s L x c t o f=> ?_) ?_
  ·exact Ow.val (Cc (vs:=[(0, .int .i64 1),(1, .int .i64 1),(5, .int .i64 2)]) (cs:=[1,1,0,0,0,2].map (Value.int .i64)) rfl (by kernel_rfl)) ⟨s,DY c (Below.refl _ _) (by decide) (by decide),fun _ _=>rfl,fun _=>rfl⟩
  refine B7 (fun s L x c t o f=> ?_) ?_
  ·refine Dv (Dc (M:=s) (S:=MT L) (k:= .int .u8 11) (u:=kv [1,1,0,0,0,2]) (d:= .int .u8) underlying270 CJ O O O O (c.2 (o 0 (by decide))).2 (ES t (by decide))) ?_
   exact fun A g=>⟨s,GK (i:=26) (n:=11) (l:=[1,1,0,0,0,2]) c (o 0 (by decide)) (by decide) (by decide) g,fun _ _=>rfl,fun h=>by cases h⟩
  refine B7 (fun s L x c t o f=> ?_) ?_
  ·exact Ow.val (Cj (k:=6) (EV _) (EN _) rfl rfl (y.bs c.1)) ⟨s,DY c (Below.refl _ _) (by decide) (by decide),fun _ _=>rfl,fun _=>rfl⟩
  refine B7 (fun s L x c t o f=> ?_) ?_
  ·refine Dv (Dc (M:=s) (S:=MT L) (k:= .int .u8 12) (u:=kv [1,4,0,3,0,0]) (d:= .int .u8) underlying270 CJ O O O O (c.2 (o 0 (by decide))).2 (ES t (by decide))) ?_
   exact fun A g=>⟨s,GK (i:=28) (n:=12) (l:=[1,4,0,3,0,0]) c (o 0 (by decide)) (by decide) (by decide) g,fun _ _=>rfl,fun h=>by cases h⟩
  refine B7 (fun s L x c t o f=> ?_) ?_
  ·exact Ow.val (Cb rfl) ⟨s,DY c (Below.refl _ _) (by decide) (by decide),fun _ _=>rfl,fun _=>rfl⟩
  refine B7 (fun s L x c t o f=> ?_) ?_
  ·exact Ow.val (Cj (k:=6) (EV _) (EN _) rfl rfl (a.bs c.1)) ⟨s,DY c (Below.refl _ _) (by decide) (by decide),fun _ _=>rfl,fun _=>rfl⟩
  refine B7 (fun s L x c t o f=> ?_) ?_
  ·exact Gh (Xc.val (p:=[]) (q:=[]) (vs:=[kv [1,1,0,0,0,0], .int .i64 0, .int .i64 3]) (Hl 1 1 0 3 x).1 rfl rfl) (Hl 1 1 0 3 x) (fun _ A ⟨e,g⟩=>⟨s,DY c g (by decide) (by decide),fun _ _=>rfl,fun _=>e⟩)
  refine B7 (fun s L x c t o f=> ?_) ?_
  ·refine Dv (Dc (M:=s) (S:=MT L) (k:= .int .u8 13) (u:=kv [1,1,0,3,0,0]) (d:= .int .u8) underlying270 CJ O O O O (c.2 (o 0 (by decide))).2 (ES t (by decide))) ?_
   exact fun A g=>⟨s,GK (i:=32) (n:=13) (l:=[1,1,0,3,0,0]) c (o 0 (by decide)) (by decide) (by decide) g,fun _ _=>rfl,fun h=>by cases h⟩
  refine B7 (fun s L x c t o f=> ?_) ?_
  ·exact Ow.val (Cb rfl) ⟨s,DY c (Below.refl _ _) (by decide) (by decide),fun _ _=>rfl,fun _=>rfl⟩
  refine B7 (fun s L x c t o f=> ?_) ?_
  ·exact Ow.val (Cq rfl) ⟨s,DY c (Below.refl _ _) (by decide) (by decide),fun _ _=>rfl,fun _=>rfl⟩
  exact G3
 intro s L w' c hall
 have h0:=c.2 (hall 0 (by decide))
 have Y:∀p ∈ KN,p.1<35:=by decide
 have Z:BX w' s (.int .u8) KD:=h0.2.congr fun k v=>⟨fun ⟨p,E,_,h⟩=>⟨p,E,h⟩,fun ⟨p,E,h⟩=>⟨p,E,hall p.1 (Y p E),h⟩⟩
 have hBF:=z.trans (c.1.mono (AA z))
 have zB:=AA z
 exact Av<|B8<|Ea<|Ax rfl rfl<|⟨hBF,s,rfl,by omega,Z⟩

theorem J7 (v:Value) (l:List (Int)) (w:World) (z:CA (Value.int .i64) w v l) (N:l.length≤4194304):
  AJ prog 226 [v] w (fun r w' =>Twn w' w.heap.size 3 (Value.int .i64) (Value.int .i64 (77)) r l∧Below w.heap.size w w'):=by
 refine Bd (n:=28) func226 O<|Ah<|Ab O<|Bg<|Ad O<|Aa (Au AD O ‹_›) O ?_
 refine B9 O (by omega)<|Bq (Xw.make (l:=0) (c:=l.length+1) AD DT O O O (by omega) (by omega) (by omega)) O ?_
 rintro q x ⟨b, -,a,p⟩
 refine Ab O<|Bj<|Ab O<|Aj<|Ar ?_
 refine Bo (S:=(Nat×Value)) (fun s=>[(0,v),(3,s.2),(4, .int .i64 (s.1:Int))]) (fun s w' =>s.1≤l.length∧w'.ownsRow w.heap.size 3 1 s.2 s.1 ((l.take s.1).map (Value.int .i64))∧Below w.heap.size w w') (fun s=>l.length - s.1) ((0,q)) ⟨rfl,rfl,rfl,trivial⟩ ?_ ?_
 ·exact ⟨by omega,by simpa using b,a⟩
 clear b a p q x
 rintro ⟨k,q⟩ x ⟨D,b,a⟩
 simp only at D b
 have B:=z.bs a
 have p:=a.size
 refine Aq<|Ah<|Ad O<|Ad O<|Aa (Au AD O ‹_›) O ?_
 refine B1 O<|Aj<|Ao O ?_ ?_
 ·intro h
  have f:k<l.length:=by simp at h;omega
  refine B2<|Aq<|Ar<|Bh<|Ad O<|Ad O<|Ad O<|Aa (Bf AD O O ‹_› _ O (by omega)) O ?_
  refine Aa (Bl (AI _) O ‹_› (by omega)) O ?_
  refine Bq (C2 (vs:=[Value.int .i64 (l.getD k default)]) AD DT O O O O O) O ?_
  rintro H K ⟨m, -,i,u⟩
  refine Bq (Dl (base:=w.heap.size) AD DT O (by decide) O O (AH b i) (AG m) O (by omega) (by omega) (by omega)) O ?_
  rintro y C ⟨d,o,_⟩
  refine Ab O<|Be<|Bi<|Cd<|Ad O<|B9 O (by omega)<|Ab O<|Be ?_
  have e:(l.take k).map (Value.int .i64)++[Value.int .i64 (l.getD k default)]=(l.take (k+1)).map (Value.int .i64):=by
   rw [take_succ_eq_append_getElem f,map_append];simp [f]
  rw [e] at d
  exact Av (Bw ((k+1,y)) ⟨rfl,rfl,rfl,trivial⟩ (⟨f,d,(bt a i).trans o⟩) (by simp only;omega))
 ·intro h
  have f:k=l.length:=by simp at h;omega
  subst f
  refine Bn<|Al<|Al<|Bc<|Ci<|Ad O<|Bq (C2 (vs:=[Value.int .i64 (77)]) AD DT O O O O O) O ?_
  rintro H K ⟨m, -,i,u⟩
  refine Bq (Dl (base:=w.heap.size) AD DT O (by decide) O O (AH b i) (AG m) O (by omega) (by omega) (by omega)) O ?_
  rintro y C ⟨d,o,_⟩
  have j:=(bt a i).trans o
  have F:=z.bs j
  rcases d.2 with ⟨_,L⟩|⟨g,cap,E,rfl,M,I,G,A,J,t⟩
  ·omega
  refine Ad O<|Aa (Au AD O ‹_›) O ?_
  refine Aa (Gj AD O O (by omega)) O<|Ab O<|Ay<|Ax O O ?_
  exact ⟨⟨g,cap,rfl,by simpa using d⟩,j⟩
theorem JZ (t v:Value) (l:List (Int)) (base:Nat) (w:World) (o:Twn w base 3 (Value.int .i64) (Value.int .i64 (77)) t l) (x:CA (Value.int .i64) w v l):
  AJ prog 235 [t,v] w (fun r w' =>r= .bool true∧Below w.heap.size w w'):=by
 have i:=o.sl
 have C:=x.le
 obtain ⟨b,cap,rfl,s⟩:=o
 have q:l.length+1≤cap∧cap≤9223372036854775807:=by
  obtain ⟨_,E,m,B,A,y,_⟩:=AG s
  cases B;unfold maxLen at y;exact ⟨A,by omega⟩
 refine Bd (n:=45) func235 O<|Ah<|Ab O<|Bj<|Ad O<|Aa (Au AD O ‹_›) O ?_
 refine Ad O<|Aa (Au AD O ‹_›) O ?_
 refine Aa (Cn O O) O<|Ad O<|Cm 12 (v' := .bool false) O (cngA Value.bool ((by simp)))<|Af (dj:=12) O O<|Ad O<|Af (dj:=12) O O<|Aa (Ex.capS AD O) O<|Af (dj:=12) O O<|Ad O<|Af (dj:=12) O O<|Aa (Au AD O ‹_›) O ?_
 refine Af (dj:=12) O O<|Aa (Ej O O) O<|B4 O<|Aj<|Bv O false ((by simp;omega))<|B2<|Aq<|Ah<|Ab O<|Aj<|Ar ?_
 refine Bo (S:=Nat) (fun k=>[(0, .slice (some ⟨b,0,none⟩) l.length cap),(1,v),(5, .int .i64 (k:Int))]) (fun k w' =>k≤l.length∧Below w.heap.size w w') (fun k=>l.length - k) (0) ⟨rfl,rfl,rfl,trivial⟩ ?_ ?_
 ·exact ⟨by omega,Below.refl _ _⟩
 rintro k e ⟨D,a⟩
 have z:=x.bs a
 have p:=i.bs a
 refine Aq<|Ah<|Ad O<|Ad O<|Aa (Au AD O ‹_›) O ?_
 refine B1 O<|Aj<|Ao O ?_ ?_
 ·intro h
  have f:k<l.length:=by simp at h;omega
  refine B2<|Aq<|Ar<|Aq<|C8 mixed (by kernel_rfl)<|Bt O<|Bt O<|Ai (fun e d=>Bf AD O O (Sl.bs ‹_› d) _ O (by omega)) O ?_
  refine Ai (fun e d=>Bl (AI _) O (Sl.bs ‹_› d) (by omega)) O ?_
  refine Bt O<|Bt O<|Ai (fun e d=>Bf AD O O (Sl.bs ‹_› d) _ O (by omega)) O ?_
  refine Ai (fun e d=>Bl (AI _) O (Sl.bs ‹_› d) (by omega)) O ?_
  refine Ai (fun e d=>Cn O O) O ?_
  refine C1 (fun F d=> ?_)
  refine Av<|B8 ?_
  have g:=bt a d
  refine Bv O false ((by simp))<|Ca<|Bi<|Cd<|Ad O<|B9 O (by omega)<|Ab O<|Be ?_
  exact Av (Bw (k+1) ⟨rfl,rfl,rfl,trivial⟩ (⟨by omega,g⟩) (by omega))
 ·intro h
  have f:k=l.length:=by simp at h;omega
  subst f
  have c:=AG (AH s a)
  refine Bn<|Al<|Al<|Bc<|Ci<|Ad O<|Ad O<|Aa (Au AD O ‹_›) O ?_
  refine B9 O (by omega)<|Aa (Gj (j:=l.length+1) AD O O (by omega)) O<|Ad O<|Aa (Au AD O ‹_›) O ?_
  refine Aa (Cu AD O O c l.length O (by omega)) O<|Aa (E4 (u:=Value.int .i64 (77)) (AI _) O c (by simp)) O<|Ab O<|Bg<|Ad O<|Aa (Cl O O) O<|Ab O<|Ay<|Ax O O ?_
  exact ⟨cngA Value.bool (by simp),a⟩
theorem JJ (u v:Value) (l m:List (Int)) (w:World) (q:CA (Value.int .i64) w u l) (x:CA (Value.int .i64) w v m):
  AJ prog 36 [u,v] w (fun r w' =>r= .bool (decide (l=m))∧Below w.heap.size w w'):=by
 have y:=q.le
 refine Bd (n:=26) func36 O<|Ah<|Ab O<|Bj<|Ad O<|Aa (Au AD O ‹_›) O ?_
 refine Ad O<|Aa (Au AD O ‹_›) O ?_
 refine Aa (Cn O O) O<|Aj<|Ao O ?_ ?_
 ·intro h
  have d:l≠m:=fun e=>by subst e;simp at h
  exact Ah<|Ab rfl<|Bz<|Ax rfl rfl<|⟨by rw [decide_eq_false d],Below.refl _ _⟩
 ·intro h
  have i:l.length=m.length:=by simp at h;omega
  refine B2<|Aq<|Ah<|Ab O<|Aj<|Ar ?_
  refine Bo (S:=Nat) (fun k=>[(0,u),(1,v),(5, .int .i64 (k:Int))]) (fun k w' =>k≤l.length∧l.take k=m.take k∧Below w.heap.size w w') (fun k=>l.length - k) (0) ⟨rfl,rfl,rfl,trivial⟩ ?_ ?_
  ·exact ⟨by omega,by simp,Below.refl _ _⟩
  rintro k f ⟨z,p,b⟩
  have s:=q.bs b
  have t:=x.bs b
  refine Aq<|Ah<|Ad O<|Ad O<|Aa (Au AD O ‹_›) O ?_
  refine B1 O<|Aj<|Ao O ?_ ?_
  ·intro h
   have c:k<l.length:=by simp at h;omega
   have g:k<m.length:=by omega
   refine B2<|Aq<|Ar<|Aq<|C8 mixed (by kernel_rfl)<|Bt O<|Bt O<|Ai (fun f a=>Bf AD O O (Sl.bs ‹_› a) _ O (by omega)) O ?_
   refine Ai (fun f a=>Bl (AI _) O (Sl.bs ‹_› a) (by omega)) O ?_
   refine Bt O<|Bt O<|Ai (fun f a=>Bf AD O O (Sl.bs ‹_› a) _ O (by omega)) O ?_
   refine Ai (fun f a=>Bl (AI _) O (Sl.bs ‹_› a) (by omega)) O ?_
   refine Ai (fun f a=>Cn O O) O ?_
   refine C1 (fun A a=> ?_)
   refine Av<|B8 ?_
   have j:=bt b a
   refine Ao O ?_ ?_
   ·intro h
    have d:l≠m:=fun e=>by subst e;simp at h
    exact Ah<|Ab rfl<|Ay<|Ba<|Ap<|Ap<|Ba<|Ap<|Ax rfl rfl<|⟨by rw [decide_eq_false d],j⟩
   ·intro h
    refine Ca<|Bi<|Cd<|Ad O<|B9 O (by omega)<|Ab O<|Be ?_
    have o:l.take (k+1)=m.take (k+1):=by
     rw [take_succ_eq_append_getElem c,take_succ_eq_append_getElem g,p]
     simp [c,g] at h
     rw [h]
    exact Av (Bw (k+1) ⟨rfl,rfl,rfl,trivial⟩ (⟨by omega,o,j⟩) (by omega))
  ·intro h
   have c:k=l.length:=by simp at h;omega
   subst c
   rw [take_length,i,take_length] at p
   exact Bn<|Al<|Al<|Bc<|Ci<|Ab rfl<|Ay<|Ax rfl rfl<|⟨by rw [decide_eq_true p],b⟩

theorem IB.at {W w:World} {x y:Value} {s:List Int} {l:List (BitVec 32)} (h:IB W w x y s l):(T4.mk x y s l).at w:=⟨h.sh,AG h.own⟩
theorem Tk {s:List Int} {l:List (BitVec 32)} (h:Uy s l=true):Shapes.ok s=true∧l.length=(Shapes.size s).toNat:=by
 simp only [Uy,Bool.and_eq_true,decide_eq_true_eq] at h
 exact ⟨h.1,by omega⟩
theorem Ki (u:Value) (l:List Int) (w:World) (a:CA (Value.int .i64) w u l):AJ prog 224 [u] w (fun r w' =>r= .int .i64 (l.length:Int)∧Below w.heap.size w w'):=by
 refine Bd (n:=5) func224 O<|Ah<|Ab O<|Bg<|Ad O<|Aa (Au AD O ‹_›) O ?_
 exact Ab rfl<|Ay<|Ax rfl rfl<|⟨rfl,Below.refl _ _⟩
end Go.Proofs.YtblbopcaflaldaaGreatDoor

namespace Go.Dd
abbrev UW:=BitVec 32
def sm:Nat→(Nat→UW)→UW
 |0,_=>0#32
 |n+1,f=>sm n f+f n
def ad (n:Nat) (a b:List UW):List UW:=(List.range n).map fun i=>a.getD i default+b.getD i default
end Go.Dd

namespace Go.Dd
open Go Go.RowKit List
def Ra (f:Nat→Int):Nat→Int
 |0=>0
 |n+1=>Ra f n+f n
def Ix (f:Nat→Int):List Nat→Int
 |[]=>0
 |x::l=>f x+Ix f l
theorem Je (f:Nat→Int):∀(l m:List Nat),Ix f (l++m)=Ix f l+Ix f m
 |[],m=>by simp [Ix]
 |x::l,m=>by simp only [cons_append,Ix];rw [Je f l m];omega
theorem Pe {f:Nat→Int} {l m:List Nat} (h:l.Perm m):Ix f l=Ix f m:=by
 induction h with
 |nil=>rfl
 |cons x _ ih=>simp only [Ix];rw [ih]
 |swap x y l=>simp only [Ix];omega
 |trans _ _ h1 h2=>rw [h1,h2]
theorem JV (f:Nat→Int):∀n,Ix f (List.range n)=Ra f n
 |0=>rfl
 |n+1=>by rw [range_succ,Je,JV f n];simp [Ra,Ix]
theorem Pa {l m:List Int} (h:l.Perm m):Shapes.prod l=Shapes.prod m:=by
 induction h with
 |nil=>rfl
 |cons x _ ih=>simp only [Shapes.prod];rw [ih]
 |swap x y l=>simp only [Shapes.prod];rw [← Int.mul_assoc,← Int.mul_assoc,Int.mul_comm x y]
 |trans _ _ h1 h2=>rw [h1,h2]
theorem Ub {s:List Int} (h:Shapes.good s) {k:Nat} (a:k<s.length):1≤s.getD k default∧s.getD k default≤64:=by
 have:s.getD k default ∈ s:=by simp [a]
 exact h _ this
def QG (o:List Int) (j:Nat):Bool:=decide (0≤o.getD j default) && decide (o.getD j default<(o.length:Int)) && !(o.take j).contains (o.getD j default)
def G6 (o:List Int):Bool:=(List.range o.length).all (QG o)
theorem IL {o:List Int}:G6 o=true↔∀j,j<o.length→QG o j=true:=by
 unfold G6
 rw [all_eq_true]
 exact ⟨fun h j a=>h j (List.mem_range.2 a),fun h j a=>h j (List.mem_range.1 a)⟩
theorem IK {o:List Int} (h:G6 o=true) {j:Nat} (a:j<o.length):0≤o.getD j default∧o.getD j default<(o.length:Int):=by
 have:=IL.1 h j a
 simp only [QG,Bool.and_eq_true,decide_eq_true_eq] at this
 exact this.1
theorem T3 {o:List Int} (h:G6 o=true) {i j:Nat} (g:i<j) (c:j<o.length):o.getD i default≠o.getD j default:=by
 intro e
 have:=IL.1 h j c
 simp only [QG,Bool.and_eq_true,Bool.not_eq_true'] at this
 have a:=this.2
 have b:o.getD j default ∈ o.take j:=by
  rw [← e]
  have d:i<o.length:=by omega
  have f:i<(o.take j).length:=by rw [length_take];omega
  have:(o.take j)[i]=o.getD i default:=by simp [d]
  rw [← this]
  exact getElem_mem f
 have:(o.take j).contains (o.getD j default)=true:=by simpa using b
 rw [this] at a
 cases a
def QF (o:List Int):List Nat:=o.map Int.toNat
theorem U7:∀a:Fin 1,[a.val].isPerm [0]=true:=by decide
theorem U6:∀a b:Fin 2,a≠b→[a.val,b.val].isPerm [0,1]=true:=by decide
theorem U5:∀a b c:Fin 3,a≠b→a≠c→b≠c→[a.val,b.val,c.val].isPerm [0,1,2]=true:=by decide+kernel
theorem T0:∀a b c d:Fin 4,(a==b||a==c||a==d||b==c||b==d||c==d||[a.val,b.val,c.val,d.val].isPerm [0,1,2,3])=true:=by decide+kernel
theorem U4 (a b c d:Fin 4) (h:a≠b) (f:a≠c) (j:a≠d) (g:b≠c) (i:b≠d) (e:c≠d):[a.val,b.val,c.val,d.val].isPerm [0,1,2,3]=true:=by
 have:=T0 a b c d
 rw [beq_false_of_ne h,beq_false_of_ne f,beq_false_of_ne j,beq_false_of_ne g,beq_false_of_ne i,beq_false_of_ne e] at this
 exact this
theorem GB {n:Nat} {a b:Fin n} (h:a.val≠b.val):a≠b:=fun e=>h (cngA Fin.val e)
theorem Me {o:List Int} (h:G6 o=true) (m:o.length≤4):(QF o).Perm (List.range o.length):=by
 have f:∀{j:Nat},j<o.length→(o.getD j default).toNat<o.length:=fun k=>by have:=IK h k;omega
 have g:∀{i j:Nat},i<j→j<o.length→(o.getD i default).toNat≠(o.getD j default).toNat:=fun l k e=>by
  have p:=IK h (j:=_) (Nat.lt_trans l k)
  have n:=IK h k
  exact T3 h l k (by omega)
 match o,m, @f, @g with
 |[],_,_,_=>exact List.Perm.refl _
 |[a],_,f,_=>exact List.isPerm_iff.1 (U7 ⟨_,f (j:=0) (by simp)⟩)
 |[a,b],_,f,g=>exact List.isPerm_iff.1 (U6 ⟨_,f (j:=0) (by simp)⟩ ⟨_,f (j:=1) (by simp)⟩ (GB (g (i:=0) (j:=1) (by simp) (by simp))))
 |[a,b,c],_,f,g=>exact List.isPerm_iff.1 (U5 ⟨_,f (j:=0) (by simp)⟩ ⟨_,f (j:=1) (by simp)⟩ ⟨_,f (j:=2) (by simp)⟩ (GB (g (i:=0) (j:=1) (by simp) (by simp))) (GB (g (i:=0) (j:=2) (by simp) (by simp))) (GB (g (i:=1) (j:=2) (by simp) (by simp))))
 |[a,b,c,d],_,f,g=>exact List.isPerm_iff.1 (U4 ⟨_,f (j:=0) (by simp)⟩ ⟨_,f (j:=1) (by simp)⟩ ⟨_,f (j:=2) (by simp)⟩ ⟨_,f (j:=3) (by simp)⟩ (GB (g (i:=0) (j:=1) (by simp) (by simp))) (GB (g (i:=0) (j:=2) (by simp) (by simp))) (GB (g (i:=0) (j:=3) (by simp) (by simp))) (GB (g (i:=1) (j:=2) (by simp) (by simp))) (GB (g (i:=1) (j:=3) (by simp) (by simp))) (GB (g (i:=2) (j:=3) (by simp) (by simp))))
 |_::_::_::_::_::_,m,_,_=>simp at m
def turn (s o:List Int):List Int:=o.map fun k=>s.getD k.toNat default
theorem FY (s o:List Int):(turn s o).length=o.length:=by simp [turn]
theorem RV {s o:List Int} {j:Nat} (h:j<o.length):(turn s o).getD j default=s.getD (o.getD j default).toNat default:=by simp [turn,h]
theorem Nq (s:List Int):(List.range s.length).map (fun k=>s.getD k default)=s:=by
 apply ext_getElem (by simp)
 intro i b a
 simp [a]
theorem OP {s o:List Int} (h:G6 o=true) (a:o.length=s.length) (b:s.length≤4):Shapes.prod (turn s o)=Shapes.prod s:=by
 have p:=(Me h (by omega)).map fun k=>s.getD k default
 rw [a,Nq] at p
 have e:turn s o=(QF o).map fun k=>s.getD k default:=by simp [turn,QF]
 rw [e]
 exact Pa p
theorem RU {s o:List Int} (hs:Shapes.ok s=true) (h:G6 o=true) (b:o.length=s.length):Shapes.ok (turn s o)=true:=by
 have S:=(Shapes.ok_iff s).1 hs
 rw [Shapes.ok_iff,FY,OP h b S.1.2,b]
 refine ⟨S.1, ?_,S.2.2⟩
 intro y d
 obtain ⟨k,c,rfl⟩:=List.mem_map.1 d
 obtain ⟨j,a,e⟩:=getElem_of_mem c
 have g:=IK h a
 rw [show o.getD j default=k by simp [a,e]] at g
 have f:k.toNat<s.length:=by omega
 refine S.2.1 _ ?_
 simp [f]
def EW (s:List Int) (k:Nat):List Int:=if s.length=1 then [1] else s.take k++s.drop (k+1)
theorem Nr {s:List Int} {k:Nat} (h:k<s.length):Shapes.prod s=Shapes.prod (s.take k)*(s.getD k default*Shapes.prod (s.drop (k+1))):=by
 rw [← Shapes.prod_drop h,← Shapes.prod_append,take_append_drop]
theorem Lb {s:List Int} {k:Nat} (h:k<s.length):Shapes.prod (EW s k)=Shapes.prod (s.take k)*Shapes.prod (s.drop (k+1)):=by
 unfold EW
 split
 ·rename_i a
  obtain rfl:k=0:=by omega
  rw [take_zero,drop_of_length_le (by omega)];rfl
 ·exact Shapes.prod_append _ _
theorem MX {s:List Int} {k:Nat} (hs:Shapes.ok s=true) (h:k<s.length):Shapes.ok (EW s k)=true:=by
 have S:=(Shapes.ok_iff s).1 hs
 rw [Shapes.ok_iff]
 have g:=Shapes.prod_pos (s:=s.take k) fun x a=>S.2.1 x (mem_of_mem_take a)
 have f:=(Shapes.ok_prod hs (k+1)).1
 have d:=Ub S.2.1 h
 refine ⟨?_, ?_, ?_⟩
 ·unfold EW
  split
  ·simp
  ·rw [length_append,length_take,length_drop];omega
 ·unfold EW
  split
  ·intro x a;simp at a;subst a;omega
  ·intro x a
   rcases List.mem_append.1 a with a|a
   ·exact S.2.1 x (mem_of_mem_take a)
   ·exact S.2.1 x (mem_of_mem_drop a)
 ·rw [Lb h]
  have e:=Nr h
  have c:1*Shapes.prod (s.drop (k+1))≤s.getD k default*Shapes.prod (s.drop (k+1)):=Int.mul_le_mul_of_nonneg_right d.1 (by omega)
  have b:Shapes.prod (s.take k)*(1*Shapes.prod (s.drop (k+1)))≤Shapes.prod (s.take k)*(s.getD k default*Shapes.prod (s.drop (k+1))):=Int.mul_le_mul_of_nonneg_left c (by omega)
  rw [Int.one_mul] at b
  omega

section
variable {P : Program} {n : Nat} {E : BZ} {w : World} {ty t s : TypeId} {x y : Operand}
end
end Go.Dd

namespace Go.Dd.Crc
def UZ:BitVec 32:=3988292384#32
def Vr (r:BitVec 32):BitVec 32:=if r.getLsbD 0=true then (r>>>1) ^^^ UZ else r>>>1
def TO:Nat→BitVec 32→BitVec 32
 |0,r=>r
 |k+1,r=>TO k (Vr r)
def Vd (r:BitVec 32) (c:BitVec 8):BitVec 32:=TO 8 (r ^^^ c.setWidth 32)
def run (r:BitVec 32) (l:List (BitVec 8)):BitVec 32:=l.foldl Vd r
def on (s:BitVec 32) (l:List (BitVec 8)):BitVec 32:= ~~~ run (~~~ s) l
def of (l:List (BitVec 8)):BitVec 32:=on 0#32 l
def tab (c:BitVec 8):BitVec 32:=TO 8 (c.setWidth 32)
def Vq (n:BitVec 32):List (BitVec 8):=[n.setWidth 8,(n>>>8).setWidth 8,(n>>>16).setWidth 8,(n>>>24).setWidth 8]
end Go.Dd.Crc

namespace Go.Dd
open Go Go.RowKit List
def Vp (a b c d:BitVec 8):BitVec 32:=a.setWidth 32|||b.setWidth 32<<<8|||c.setWidth 32<<<16|||d.setWidth 32<<<24
theorem GL {α:Type} [Inhabited α] {l:List α} {i:Nat} (h:i<l.length):l.getD i default ∈ l:=by
 simp [h]
theorem L5 {v:Value} {sz i j b:Nat} (h:(cut v sz i j).ownBlock=some b):v.ownBlock=some b:=by
 unfold cut at h
 split at h
 ·rename_i c k cap
  cases c with
  |none=>split at h<;>cases h
  |some a=>
   split at h
   ·exact h
   ·simp only [Value.ownBlock,Option.map_some,Option.some.injEq,GP] at h ⊢
    exact h
 ·cases h
section
variable {P : Program} {Q : BN} {n : Nat} {E : BZ} {w : World} {l0 rest : List Oper} {ty : TypeId} {pos : String} {af : Array Edge}
variable {x y z : Operand} {v u : Value} {t s e : TypeId} {sz : Nat} {p q : BitVec 32}
end
end Go.Dd

namespace Go.Proofs.YtblbopcaflaldaaGreatDoor
open Go Go.Dd Go.RowKit List Go.Proofs.Tryz
set_option maxRecDepth 100000
set_option maxRecDepth 100000
theorem S8 (u:Value) (l:List Int) (x:Int) (w:World) (b:CA (Value.int .i64) w u l):AJ prog 290 [u, .int .i64 x] w (fun r w' =>(∃j,r= .int .i64 j∧decide (0≤j)=l.contains x)∧w' =w):=by
 have f:=b.le
 refine Bd (n:=19) func290 O<|Ah<|Ab O<|Bj<|Ad O<|Aa (Au AD O ‹_›) O ?_
 refine Ad O<|Aj<|Ar ?_
 refine Bo (S:=Nat) (fun i=>[(0,u),(1, .int .i64 x),(7, .int .i64 (l.length:Int)),(8, .int .i64 (i:Int))]) (fun i w' =>i≤l.length∧(l.take i).contains x=false∧w' =w) (fun i=>l.length - i) (0) ⟨rfl,rfl,rfl,rfl,trivial⟩ ?_ ?_
 ·exact ⟨Nat.zero_le _,rfl,rfl⟩
 rintro i k ⟨m,c,rfl⟩
 refine Ah<|B1 O<|Aj<|Aq<|Ao O ?_ ?_
 ·intro h
  have a:i<l.length:=by have:=AC h;omega
  have e:l.take (i+1)=l.take i++[l.getD i default]:=by rw [take_succ_eq_append_getElem a];simp [a]
  refine B2<|Aq<|Ar<|Ah<|Ad O<|Ab O<|Bg<|Ad O<|Ad O<|Ad O<|Aa (Bf AD O O ‹_› _ O (by omega)) O ?_
  refine Aa (Bl (AI _) O ‹_› (by omega)) O ?_
  refine Aa (Cl O O) O<|Aj<|Ao O ?_ ?_
  ·intro g
   have g:=AC g
   refine Ah<|Ad O<|Ab O<|Ay<|Ba<|Ap<|Ap<|Ba<|Ap<|Ax O O ?_
   refine ⟨⟨(i:Int),rfl, ?_⟩,rfl⟩
   have d:x ∈ l:=by rw [g];simp [a]
   rw [decide_eq_true (by omega),List.contains_iff_mem.2 d]
  intro g
  have g:=AB g
  refine Ca<|Bi<|Cd<|B9 O (by omega)<|Ad O<|Be ?_
  exact Av (Bw (i+1) ⟨rfl,rfl,rfl,rfl,trivial⟩ (⟨a,by rw [e,contains_append,c,Bool.false_or,contains_cons,beq_false_of_ne g];rfl,rfl⟩) (by omega))
 intro h
 have a:i=l.length:=by have:=AB h;omega
 subst a
 rw [take_length] at c
 refine Bn<|Al<|Al<|Bc<|Ci<|Ab O<|Ay<|Ax O O ?_
 exact ⟨⟨-1,rfl,by rw [c];rfl⟩,rfl⟩
theorem Ob (u:Value) (l:List Int) (x:Int) (w:World) (a:CA (Value.int .i64) w u l):AJ prog 275 [u, .int .i64 x] w (fun r w' =>r= .bool (l.contains x)∧Below w.heap.size w w'):=by
 refine Bd (n:=9) func275 O<|Ah<|Ab O<|Bg<|Ad O<|Ad O<|An O O (S8 u l x w a) ?_
 rintro _ _ ⟨⟨j,rfl,b⟩,rfl⟩
 exact Aa (D9 rfl rfl) rfl<|Ab rfl<|Ay<|Ax rfl rfl<|⟨cngA Value.bool b,Below.refl _ _⟩

structure N5 where
 k:BitVec 8
 x:Value
 y:Value
 i:List Int
 s:List Int
 n:Int
 p:Int
def N5.cells (a:N5):List Value:=[b8 a.k,a.x,a.y, .int .i64 a.n, .int .i64 a.p]
abbrev N5.v (a:N5):Value:= .agg a.cells.toArray
structure N5.at (w:World) (a:N5):Prop where
 i:CA (Value.int .i64) w a.x a.i
 s:CA (Value.int .i64) w a.y a.s
theorem N5.at.bs {w w' :World} {a:N5} (h:N5.at w a) (g:Below w.heap.size w w'):N5.at w' a:=⟨h.i.bs g,h.s.bs g⟩
theorem N5.at.ones {w:World} {a:N5} (h:N5.at w a):a.cells.all (·.oneCell')=true:=by
 unfold N5.cells
 rw [all_cons,all_cons,all_cons,h.i.one',h.s.one'];rfl
def SD (l:List Int):Bool:=(List.range l.length).all fun i=>l.contains (i:Int)
theorem I5 {l:List Int}:SD l=true↔∀j,j<l.length→l.contains (j:Int)=true:=by
 unfold SD
 rw [all_eq_true]
 exact ⟨fun h j a=>h j (List.mem_range.2 a),fun h j a=>h j (List.mem_range.1 a)⟩
theorem Uc {l:List Int} {j:Nat} (a:j<l.length) (h:l.contains (j:Int)=false):SD l=false:=by
 cases hk:SD l with
 |false=>rfl
 |true=>rw [I5.1 hk j a] at h;cases h
def HX (l:List Int):Bool:=SD l && decide (l.length≤4)
def G7 (least most lo hi ar sh:Int) (i s:List Int) (n p:Int):Bool:=
 !(decide ((i.length:Int)<least)||decide (most<(i.length:Int))||decide (n<lo)||decide (hi<n)||decide (p<0)||decide (ar<p)) && (if sh=0 then decide (s.length=0) else if sh=1 then Shapes.ok s else HX s)
theorem Ri (v:Value) (l:List Int) (w:World) (o:CA (Value.int .i64) w v l):AJ prog 248 [v] w (fun r w' =>r= .bool (HX l)∧Below w.heap.size w w'):=by
 have s:=o.le
 refine Bd (n:=17) func248 O<|Ah<|Ab O<|Bj<|Ad O<|Aa (Au AD O ‹_›) O ?_
 refine Ad O<|Aj<|Ar ?_
 refine Bo (S:=Nat) (fun i=>[(0,v),(5, .int .i64 (l.length:Int)),(6, .int .i64 (i:Int))]) (fun i w' =>i≤l.length∧(∀j,j<i→l.contains (j:Int)=true)∧Below w.heap.size w w') (fun i=>l.length - i) (0) ⟨rfl,rfl,rfl,trivial⟩ ?_ ?_
 ·exact ⟨Nat.zero_le _,fun _ h=>by omega,Below.refl _ _⟩
 rintro i p ⟨x,m,c⟩
 have k:=o.bs c
 refine Ah<|B1 O<|Aj<|Aq<|Ao O ?_ ?_
 ·intro h
  have a:i<l.length:=by have:=AC h;omega
  refine B2<|Aq<|Ar<|Ah<|Ad O<|Ab O<|Bg<|Ad O<|Ad O<|An O O (Ob v l (i:Int) p k) ?_
  rintro _ u ⟨rfl,t⟩
  have b:=c.trans (t.mono (AA c))
  refine Aa (Co O) O<|Aj<|Ao O ?_ ?_
  ·intro g
   have f:l.contains (i:Int)=false:=by simpa using g
   refine Ah<|Ab O<|Ay<|Ba<|Ap<|Ap<|Ba<|Ap<|Ax O O ?_
   refine ⟨?_,b⟩
   unfold HX;rw [Uc a f];rfl
  intro g
  have f:l.contains (i:Int)=true:=by simpa using g
  refine Ca<|Bi<|Cd<|B9 O (by omega)<|Ad O<|Be ?_
  exact Av (Bw (i+1) ⟨rfl,rfl,rfl,trivial⟩ (⟨a,fun j q=>(Nat.lt_succ_iff_lt_or_eq.1 q).elim (m j) (fun e=>e ▸ f),b⟩) (by omega))
 intro h
 have a:i=l.length:=by have:=AB h;omega
 subst a
 have d:SD l=true:=I5.2 m
 refine Bn<|Al<|Al<|Bc<|Ci<|Ad O<|Aa (Au AD O ‹_›) O ?_
 refine Aa (Ej O O) O<|Ab O<|Ay<|Ax O O ?_
 refine ⟨?_,c⟩
 unfold HX;rw [d,Bool.true_and];congr 1;exact decide_eq_decide.2 (by omega)
theorem QV (a b l k j sh:Int) (x:N5) (w:World) (z:N5.at w x):
  AJ prog 217 [kv [a,b,l,k,j,sh],x.v] w (fun r w' =>r= .bool (G7 a b l k j sh x.i x.s x.n x.p)∧Below w.heap.size w w'):=by
 have d:=Below.refl w.heap.size w
 have h:=z.i
 have c:=z.s
 refine Bd (n:=61) func217 O<|Ah<|C0 (cs:=[a,b,l,k,j,sh].map (Value.int .i64)) O O O ?_
 rintro C w y i f -
 have d:=d.bs f
 have h:=h.bs f
 have c:=c.bs f
 refine C0 (cs:=x.cells) O O O ?_
 rintro B w A D f -
 have d:=d.bs f
 have h:=h.bs f
 have c:=c.bs f
 have i:=i.bs f
 refine Ab O<|Bj<|A0 underlying79 O (AU _)<|Aa (Ak (AK _) O ‹_› rfl) O ?_
 refine Aa (Au AD O ‹_›) O ?_
 refine Ab O<|Bg<|Ad O<|A0 underlying275 O (AV _)<|Aa (Ak (AI _) O ‹_› rfl) O ?_
 refine B1 O<|Ad O ?_
 refine Bx 13 O ?_ ?_
 ·intro g
  have g:=AC g
  refine Ae (dj:=13) O O O O<|Ae (dj:=13) O O O O<|Ae (dj:=13) O O O O<|Ae (dj:=13) O O O O<|Bu O<|Ad O<|Ae (dj:=19) O O O O<|Ae (dj:=19) O O O O<|Ae (dj:=19) O O O O<|Ae (dj:=19) O O O O<|Ae (dj:=19) O O O O<|Bu O<|Ad O<|Ae (dj:=26) O O O O<|Ae (dj:=26) O O O O<|Ae (dj:=26) O O O O<|Ae (dj:=26) O O O O<|Ae (dj:=26) O O O O<|Bu O<|Ad O<|Ae (dj:=33) O O O O<|Ae (dj:=33) O O O O<|Ae (dj:=33) O O O O<|Bu O<|Ad O<|Ae (dj:=38) O O O O<|Ae (dj:=38) O O O O<|Ae (dj:=38) O O O O<|Ae (dj:=38) O O O O<|Ae (dj:=38) O O O O<|Bu O<|Aj<|B3 O<|Ah<|Ab O<|Bz<|Ax O O ?_
  refine ⟨?_,d⟩
  unfold G7
  simp [g]
 intro t
 have t:=AB t
 refine Af (dj:=13) O O<|Ad O<|Af (dj:=13) O O<|A0 underlying275 O (AV _)<|Af (dj:=13) O O<|Aa (Ak (AI _) O ‹_› rfl) O ?_
 refine Af (dj:=13) O O<|Aa (Da O O) O<|B4 O<|Ad O ?_
 refine Bx 19 O ?_ ?_
 ·intro g
  have g:=AC g
  refine Ae (dj:=19) O O O O<|Ae (dj:=19) O O O O<|Ae (dj:=19) O O O O<|Ae (dj:=19) O O O O<|Ae (dj:=19) O O O O<|Bu O<|Ad O<|Ae (dj:=26) O O O O<|Ae (dj:=26) O O O O<|Ae (dj:=26) O O O O<|Ae (dj:=26) O O O O<|Ae (dj:=26) O O O O<|Bu O<|Ad O<|Ae (dj:=33) O O O O<|Ae (dj:=33) O O O O<|Ae (dj:=33) O O O O<|Bu O<|Ad O<|Ae (dj:=38) O O O O<|Ae (dj:=38) O O O O<|Ae (dj:=38) O O O O<|Ae (dj:=38) O O O O<|Ae (dj:=38) O O O O<|Bu O<|Aj<|B3 O<|Ah<|Ab O<|Bz<|Ax O O ?_
  refine ⟨?_,d⟩
  unfold G7
  simp [g]
 intro o
 have o:=AB o
 refine Af (dj:=19) O O<|A0 underlying79 O (AV _)<|Af (dj:=19) O O<|Aa (Ak (AI _) O ‹_› rfl) O ?_
 refine Af (dj:=19) O O<|A0 underlying275 O (AV _)<|Af (dj:=19) O O<|Aa (Ak (AI _) O ‹_› rfl) O ?_
 refine Af (dj:=19) O O<|B1 O<|B4 O<|Ad O ?_
 refine Bx 26 O ?_ ?_
 ·intro g
  have g:=AC g
  refine Ae (dj:=26) O O O O<|Ae (dj:=26) O O O O<|Ae (dj:=26) O O O O<|Ae (dj:=26) O O O O<|Ae (dj:=26) O O O O<|Bu O<|Ad O<|Ae (dj:=33) O O O O<|Ae (dj:=33) O O O O<|Ae (dj:=33) O O O O<|Bu O<|Ad O<|Ae (dj:=38) O O O O<|Ae (dj:=38) O O O O<|Ae (dj:=38) O O O O<|Ae (dj:=38) O O O O<|Ae (dj:=38) O O O O<|Bu O<|Aj<|B3 O<|Ah<|Ab O<|Bz<|Ax O O ?_
  refine ⟨?_,d⟩
  unfold G7
  simp [g]
 intro v
 have v:=AB v
 refine Af (dj:=26) O O<|A0 underlying79 O (AV _)<|Af (dj:=26) O O<|Aa (Ak (AI _) O ‹_› rfl) O ?_
 refine Af (dj:=26) O O<|A0 underlying275 O (AV _)<|Af (dj:=26) O O<|Aa (Ak (AI _) O ‹_› rfl) O ?_
 refine Af (dj:=26) O O<|Aa (Da O O) O<|B4 O<|Ad O ?_
 refine Bx 33 O ?_ ?_
 ·intro g
  have g:=AC g
  refine Ae (dj:=33) O O O O<|Ae (dj:=33) O O O O<|Ae (dj:=33) O O O O<|Bu O<|Ad O<|Ae (dj:=38) O O O O<|Ae (dj:=38) O O O O<|Ae (dj:=38) O O O O<|Ae (dj:=38) O O O O<|Ae (dj:=38) O O O O<|Bu O<|Aj<|B3 O<|Ah<|Ab O<|Bz<|Ax O O ?_
  refine ⟨?_,d⟩
  unfold G7
  simp [g]
 intro s
 have s:=AB s
 refine Af (dj:=33) O O<|A0 underlying79 O (AV _)<|Af (dj:=33) O O<|Aa (Ak (AI _) O ‹_› rfl) O ?_
 refine Af (dj:=33) O O<|B1 O<|B4 O<|Ad O ?_
 refine Bx 38 O ?_ ?_
 ·intro g
  have g:=AC g
  refine Ae (dj:=38) O O O O<|Ae (dj:=38) O O O O<|Ae (dj:=38) O O O O<|Ae (dj:=38) O O O O<|Ae (dj:=38) O O O O<|Bu O<|Aj<|B3 O<|Ah<|Ab O<|Bz<|Ax O O ?_
  refine ⟨?_,d⟩
  unfold G7
  simp [g]
 intro u
 have u:=AB u
 refine Af (dj:=38) O O<|A0 underlying79 O (AV _)<|Af (dj:=38) O O<|Aa (Ak (AI _) O ‹_› rfl) O ?_
 refine Af (dj:=38) O O<|A0 underlying275 O (AV _)<|Af (dj:=38) O O<|Aa (Ak (AI _) O ‹_› rfl) O ?_
 refine Af (dj:=38) O O<|Aa (Da O O) O<|B4 O<|Aj<|Ao O ?_ ?_
 ·intro g
  have g:=AC g
  refine Ah<|Ab O<|Bz<|Ax O O ?_
  refine ⟨?_,d⟩
  unfold G7
  simp [g]
 intro m
 have m:=AB m
 have e:G7 a b l k j sh x.i x.s x.n x.p=if sh=0 then decide (x.s.length=0) else if sh=1 then Shapes.ok x.s else HX x.s:=by
  unfold G7
  rw [decide_eq_false t,decide_eq_false o,decide_eq_false v,decide_eq_false s,decide_eq_false u,decide_eq_false m];rfl
 rw [e]
 refine B2<|Aq<|Ah<|A0 underlying275 O (AV _)<|Aa (Ak (AI _) O ‹_› rfl) O ?_
 refine Aj<|Ar<|Ah<|Aa (Cl O O) O<|Ab O<|Aj<|Ao O ?_ ?_
 ·intro g
  have g:=AC g
  refine Ah<|A0 underlying79 O (AU _)<|Aa (Ak (AK _) O ‹_› rfl) O ?_
  refine Aa (Au AD O ‹_›) O ?_
  refine Aa (Cl O O) O<|Ab O<|Ay<|Ba<|Ap<|Ax O O ?_
  refine ⟨?_,d⟩
  rw [if_pos g];congr 1;exact decide_eq_decide.2 (by omega)
 intro p
 have p:=AB p
 rw [if_neg p]
 refine Ah<|Aa (Cl O O) O<|Ab O<|Aj<|Ao O ?_ ?_
 ·intro g
  have g:=AC g
  rw [if_pos g]
  refine Ah<|A0 underlying79 O (AU _)<|Aa (Ak (AK _) O ‹_› rfl) O ?_
  refine An O O (G9 x.y x.s w c) ?_
  rintro _ w ⟨rfl,f⟩
  exact Ab rfl<|Ay<|Ba<|Ap<|Ax rfl rfl<|⟨rfl,bt d f⟩
 intro q
 have q:=AB q
 rw [if_neg q]
 refine Ca<|Bi<|Ci<|A0 underlying79 O (AU _)<|Aa (Ak (AK _) O ‹_› rfl) O ?_
 refine An O O (Ri x.y x.s w c) ?_
 rintro _ w ⟨rfl,f⟩
 exact Ab rfl<|Ay<|Ax rfl rfl<|⟨rfl,bt d f⟩
end Go.Proofs.YtblbopcaflaldaaGreatDoor

namespace Go.Dd
open Go Go.RowKit List
section
variable {P : Program} {n : Nat} {E : BZ} {w : World} {e ty : TypeId} {x : Operand}
end
end Go.Dd
