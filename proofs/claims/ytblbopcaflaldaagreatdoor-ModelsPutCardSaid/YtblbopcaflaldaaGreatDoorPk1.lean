/- Texts of this proof, one behind the other: Base, Ops, Mem, Reg, Facts, Pan, Shp, More, Own, Seg, Map, Sum, Mov, Int, Crc, Byt, Sub, Cel, Del. -/
import Derived.WalkKit
import Derived.Deep.Quiet
import Derived.StillTail
import Derived.Test.YtblbopcaflaldaaGreatDoorProg
import Derived.Laws.Tables
import Derived.MapKept
import Derived.Lib.AppendZeros
import Derived.Laws.CopyRow
import Derived.Laws.IdiomCopy
import Derived.Lib.AppendZerosOnto
import Derived.Laws.Pointers

namespace Go.Dd
theorem O{α:Sort _}{a:α}:a=a:=rfl
open Go Go.RowKit
open List hiding get
abbrev CR:=List (Nat×Value)
def get:CR→Nat→Option Value
 |[],_=>none
 |(j,v)::E,i=>match Nat.beq j i with
  |true=>some v
  |false=>get E i
theorem CN (d:Nat) (v:Value) (E:CR):get ((d,v)::E) d=some v:=by simp [get]
theorem DL {d i:Nat} (v:Value) (E:CR) (h:d≠i):get ((d,v)::E) i=get E i:=by
 have:Nat.beq d i=false:=by
  cases hb:Nat.beq d i with
  |false=>rfl
  |true=>exact absurd (Nat.eq_of_beq_eq_true hb) h
 simp [get,this]
structure CE (n:Nat) (E:CR) (a:Act):Prop where
 dfr:a.defers=[]
 size:a.tmps.size=n
 has:∀i v,get E i=some v→a.tmps[i]? =some v
def ev (E:CR):Operand→Option Value
 | .tmp t=>get E t
 | .const v=>some v
 | .global g=>some (.pointer (some ⟨g,0,none⟩))
 | .func f=>some (.func (.func f) #[] #[])
theorem CE.ev {n:Nat} {E:CR} {a:Act} (h:CE n E a) {x:Operand} {v:Value} (b:ev E x=some v):a.eval x=v:=by
 cases x<;>simp [Dd.ev,Act.eval] at*
 ·have:=h.has _ _ b
  simp [this]
 ·exact b
 ·exact b
 ·exact b
theorem CE.put {n:Nat} {E:CR} {a:Act} (h:CE n E a) {d:Nat} (v:Value) (e:Nat.blt d n=true):CE n ((d,v)::E) (a.put (some d) v):=by
 have c:d<n:=by simpa [Nat.blt_eq] using e
 refine ⟨h.dfr,by simp [Act.put,h.size],fun i u b=> ?_⟩
 simp only [Act.put,Array.getElem?_setIfInBounds,h.size]
 by_cases hi:d=i
 ·subst hi
  rw [CN] at b
  simpa [c] using b
 ·rw [DL v E hi] at b
  simp [hi,h.has i u b]
theorem CE.put_none {n:Nat} {E:CR} {a:Act} (h:CE n E a) (v:Value):CE n E (a.put none v):=h
def Q5 (E:CR):CR→Prop
 |[]=>True
 |(j,v)::F=>get E j=some v∧Q5 E F
theorem Q5.get {E:CR}:∀{F:CR},Q5 E F→∀i v,get F i=some v→Dd.get E i=some v
 |[],_,i,v,h=>by simp [Dd.get] at h
 |(j,u)::F,hs,i,v,h=>by
  simp only [Dd.get] at h
  split at h
  ·rename_i a
   have:j=i:=Nat.eq_of_beq_eq_true a
   subst this
   simp only [Option.some.injEq] at h
   subst h
   exact hs.1
  ·exact Q5.get hs.2 i v h
theorem CE.sub {n:Nat} {E F:CR} {a:Act} (h:CE n E a) (hs:Q5 E F):CE n F a:=⟨h.dfr,h.size,fun i v b=>h.has i v (hs.get i v b)⟩
abbrev BZ:=Exit→Act→World→Prop
def Cw (P:Program) (Q:BZ) (n:Nat) (c:Code) (E:CR) (w:World):Prop:=∀a,CE n E a→c.wp P Q a w
def Pw (n:Nat) (E:CR) (R:Act→World→Prop) (w:World):Prop:=∀a,CE n E a→R a w
def Lw (P:Program) (l0:List Oper) (Q:BZ) (n:Nat) (l:List Oper) (E:CR) (w:World):Prop:=∀a,CE n E a→wpList P l0.toArray Q l a w
abbrev CQ (K:Act→World→Prop) (Q:BZ):BZ:=fun e a w=>match e with
 | .normal=>K a w
 |e=>Q e a w
abbrev HM (id:Nat) (Q:BZ):BZ:=fun e a w=>match e with
 | .exit id' =>if id' =id then Q .normal a w else Q (.exit id') a w
 |e=>Q e a w
section
variable {P : Program} {Q : BZ} {n : Nat} {E : CR} {w : World}
theorem Jx (K:Act→World→Prop) (Q:BZ):CQ K Q=Exit.then K Q:=by
 funext e a w;cases e<;>rfl
theorem MV (b:Nat) (Q:BZ):HM b Q=Exit.inBlock b Q:=by
 funext e a w;cases e<;>rfl
theorem Ao {x y:Code} (h:Cw P (CQ (fun a w=>y.wp P Q a w) Q) n x E w):Cw P Q n (.seq x y) E w:=fun a b=>wp_seq (by have:=h a b;rwa [Jx] at this)
theorem An {b:Nat} {c:Code} (h:Cw P (HM b Q) n c E w):Cw P Q n (.block b c) E w:=fun a d=>wp_block (by have:=h a d;rwa [MV] at this)
theorem Cj (h:Pw n E (Q .normal) w):Cw P Q n .skip E w:=fun a b=>wp_skip (h a b)
theorem Bk {b:Nat} (h:Pw n E (Q (.exit b)) w):Cw P Q n (.exit b) E w:=fun a c=>wp_exit (h a c)
theorem Dq (h:Pw n E (Q .ret) w):Cw P Q n .ret E w:=fun a b=>wp_ret (h a b)
theorem Aq {c:Operand} {x y:Code} {t:Bool} (f:ev E c=some (.bool t)) (e:t=true→Cw P Q n x E w) (d:t=false→Cw P Q n y E w):Cw P Q n (.cond c x y) E w:=
 fun a b=>wp_cond_split (b.ev f) (fun h=>e h a b) (fun h=>d h a b)
theorem Ca {c:Operand} {x y:Code} (e:ev E c=some (.bool true)) (d:Cw P Q n x E w):Cw P Q n (.cond c x y) E w:=fun a b=>wp_cond_true (b.ev e) (d a b)
theorem D5 {c:Operand} {x y:Code} (e:ev E c=some (.bool false)) (d:Cw P Q n y E w):Cw P Q n (.cond c x y) E w:=fun a b=>wp_cond_false (b.ev e) (d a b)
theorem Bu {c:Operand} {x y:Code} {t:Bool} (f:ev E c=some (.bool t)) (b:Bool) (e:t=b) (h:Cw P Q n (if b then x else y) E w):Cw P Q n (.cond c x y) E w:=
 fun a d=>wp_cond (d.ev f) (by rw [e];exact h a d)
theorem Bn {b:Nat} {l:List Oper} (h:Lw P l Q n l E w):Cw P Q n (.region b l.toArray false) E w:=fun a c=>wp_region_lit (h a c)
theorem Em {c:Code} (d:Nat) {v v' :Value} (f:get E d=some v) (g:v=v') (h:Cw P Q n c ((d,v')::E) w):Cw P Q n c E w:=fun a b=>h a<|by
 subst g
 refine ⟨b.dfr,b.size,fun i u e=> ?_⟩
 by_cases hi:d=i
 ·subst hi;rw [CN] at e;exact b.has _ _ (f.trans e)
 ·rw [DL _ _ hi] at e;exact b.has _ _ e
theorem B9 {c:Code} (h:Cw P Q n c E w):Pw n E (fun a w=>c.wp P Q a w) w:=h
theorem Bd {c:List Oper} (h:Pw n E (Q .normal) w):Lw P c Q n [] E w:=fun a b=>wpList_nil (h a b)
theorem Ar {K:Act→World→Prop} (h:Pw n E K w):Pw n E (CQ K Q .normal) w:=h
theorem Av {K:Act→World→Prop} (h:Pw n E (Q .ret) w):Pw n E (CQ K Q .ret) w:=h
theorem Aj {K:Act→World→Prop} {a:Nat} (h:Pw n E (Q (.exit a)) w):Pw n E (CQ K Q (.exit a)) w:=h
theorem Bg {a:Nat} (h:Pw n E (Q .normal) w):Pw n E (HM a Q .normal) w:=h
theorem Bj {a:Nat} (h:Pw n E (Q .ret) w):Pw n E (HM a Q .ret) w:=h
theorem A0 {b:Nat} (h:Pw n E (Q .normal) w):Pw n E (HM b Q (.exit b)) w:=fun a c=>by
 show if b=b then Q .normal a w else Q (.exit b) a w
 rw [if_pos rfl];exact h a c
theorem Bl {S:Type} (i:S→CR) (I:S→World→Prop) (m:S→Nat) {c:Code} (x:S) (K:Q5 E (i x)) (G:I x w)
  (o:∀s w,I s w→Cw P (CQ (fun h g=>∃f,CE n (i f) h∧I f g∧m f<m s) Q) n c (i s) w):Cw P Q n (.loop c) E w:=by
 intro a T
 have key:∀k s a w,m s=k→CE n (i s) a→I s w→(Code.loop c).wp P Q a w:=by
  intro k s a w Z t L
  refine wp_loop (fun h g=>∃f,CE n (i f) h∧I f g) (fun h g=>Classical.epsilon fun k=>∃f,CE n (i f) h∧I f g∧m f=k∧∀d,CE n (i d) h→I d g→k≤m d) ⟨s,t,L⟩ ?_
  have j:∀h g,(∃f,CE n (i f) h∧I f g)→∃k,∃f,CE n (i f) h∧I f g∧m f=k∧∀d,CE n (i d) h→I d g→k≤m d:=by
   intro h g ⟨f,r,q⟩
   have:∀b f,CE n (i f) h→I f g→m f≤b→∃k,∃f,CE n (i f) h∧I f g∧m f=k∧∀d,CE n (i d) h→I d g→k≤m d:=by
    intro b
    induction b with
    |zero=>intro f r q R;exact ⟨m f,f,r,q,rfl,fun d _ _=>by omega⟩
    |succ b ih=>
     intro f r q R
     by_cases hex:∃d,CE n (i d) h∧I d g∧m d≤b
     ·obtain ⟨d,l,p,B⟩:=hex;exact ih d l p B
     ·refine ⟨m f,f,r,q,rfl,fun d l p=> ?_⟩
      rcases Nat.lt_or_ge (m d) (m f) with F|u
      ·exact absurd ⟨d,l,p,by omega⟩ hex
      ·exact u
   exact this (m f) f r q (Nat.le_refl _)
  intro D z y
  obtain ⟨N,M,J,W,g4⟩:=Classical.epsilon_spec (j D z y)
  have C:=o N z J D M
  rw [Jx] at C
  refine Code.wp_mono (fun e U V A=> ?_) C
  cases e with
  |normal=>
   obtain ⟨v,l,p,B⟩:=A
   refine ⟨⟨v,l,p⟩, ?_⟩
   obtain ⟨s3,Y,r2,X,H⟩:=Classical.epsilon_spec (j U V ⟨v,l,p⟩)
   have:=H v l p
   rw [← W]
   omega
  |_=>exact A
 exact key _ x a w rfl (T.sub K) G
theorem Bp {S:Type} {b:S→CR} {I:S→World→Prop} {m:S→Nat} {k:Nat} (a:S) (c:Q5 E (b a)) (e:I a w) (d:m a<k):Pw n E (fun h f=>∃a,CE n (b a) h∧I a f∧m a<k) w:=
 fun _ g=>⟨a,g.sub c,e,d⟩
def AK (P:Program) (f:FuncId) (args:List Value) (w:World) (R:Value→World→Prop):Prop:=
 (∃ fn, P.funcs[f]? = some fn ∧ (fn.name == "runtime.NumGoroutine") = false ∧ fn.body.isSome = true) ∧ Calls P f args.toArray w (fun e w' => ∃ v, e = .returned v ∧ R v w')
def SJ (P:Program) (fn:Func) (R:Value→World→Prop):BZ:=bodyPost P fn (fun e w' =>∃v,e= .returned v∧R v w')
theorem AK.mono {f:FuncId} {args:List Value} {R b:Value→World→Prop} (h:AK P f args w R) (e:∀v a,R v a→b v a):AK P f args w b:=
 ⟨h.1,h.2.mono fun _ _ ⟨v,d,c⟩=>⟨v,d,e _ _ c⟩⟩
def params:Nat→List Value→CR
 |_,[]=>[]
 |k,v::l=>(k,v)::params (k+1) l
theorem EP:∀(l:List Value) (k i:Nat) (v:Value),get (params k l) i=some v→k≤i∧l[i - k]? =some v
 |[],_,_,_,h=>by simp [params,Dd.get] at h
 |x::l,k,i,v,h=>by
  simp only [params,Dd.get] at h
  split at h
  ·rename_i b
   have:k=i:=Nat.eq_of_beq_eq_true b
   subst this
   simpa using h
  ·have:=EP l (k+1) i v h
   refine ⟨by omega, ?_⟩
   have a:i - k=(i - (k+1))+1:=by omega
   rw [a];simpa using this.2
theorem AK.enter {f : FuncId} {b : Func} {c : Code} {args : List Value} {R : Value → World → Prop} (g : P.funcs[f]? = some b) (a : (b.name == "runtime.NumGoroutine") = false) (j : b.body = some c)
  (m:b.ntmps=n) (l:Nat.ble args.length n=true) (h:Cw P (SJ P b R) n c (params 0 args) w):AK P f args w R:=by
 refine ⟨⟨b,g,a,by simp [j]⟩,calls_of_wp g j (h _ ⟨rfl, ?_,fun i v k=> ?_⟩)⟩
 ·have:args.length≤n:=Nat.le_of_ble_eq_true l
  simp [m];omega
 ·have e:=(EP args 0 i v k).2
  simp only [Nat.sub_zero] at e
  have d:i<args.length:=by
   rcases Nat.lt_or_ge i args.length with h|h
   ·exact h
   ·simp [getElem?_eq_none h] at e
  rw [Array.getElem?_append]
  simp only [size_toArray,d,if_true,getElem?_toArray]
  exact e
theorem As {c:Func} {R:Value→World→Prop} {t:Nat} {v:Value} (e:c.results= #[.tmp t]) (d:get E t=some v) (h:R v w):Pw n E (SJ P c R .ret) w:=fun a b=>
 bodyPost_ret (v:=v) (by rw [results_tmp e];simp [Array.getD_eq_getD_getElem?,b.has _ _ d]) b.dfr ⟨v,rfl,h⟩
theorem Cu {a:Func} {R:Value→World→Prop} (c:a.results= #[]) (h:R (.tuple #[]) w):Pw n E (SJ P a R .normal) w:=fun _ b=>
 bodyPost_end (v:= .tuple #[]) (by rw [results_none c]) b.dfr ⟨_,rfl,h⟩
theorem Bx {c:Func} {R:Value→World→Prop} {t u:Nat} {v x:Value} (e:c.results= #[.tmp t, .tmp u]) (d:get E t=some v) (f:get E u=some x) (h:R (.tuple #[v,x]) w):Pw n E (SJ P c R .ret) w:=fun a b=>
 bodyPost_ret (v:= .tuple #[v,x]) (by rw [results_tmp2 e];simp [Array.getD_eq_getD_getElem?,b.has _ _ d,b.has _ _ f]) b.dfr ⟨_,rfl,h⟩
end
theorem AC {p:Prop} [Decidable p] (h:decide p=true):p:=of_decide_eq_true h
theorem AD {p:Prop} [Decidable p] (h:decide p=false):¬p:=of_decide_eq_false h
theorem cngA.{u,v} {α:Sort u} {β:Sort v} {a b:α} (f:α→β) (h:a=b):f a=f b:=congrArg f h
theorem AU (n:Nat):n≤n:=Nat.le_refl n
section
variable {P : Program}
theorem Az {n : Nat} {f : FuncId} {b : Func} {c : Code} {args : List Value} {R : Value → World → Prop} {w : World} (e : P.funcs[f]? = some b) (d : (b.body, b.ntmps, Nat.ble args.length n) = (some c, n, true)) (h : Cw P (SJ P b R) n c (params 0 args) w) (a : (b.name == "runtime.NumGoroutine") = false := by kernel_rfl) : AK P f args w R :=
  AK.enter e a (congrArg (·.1) d) (congrArg (·.2.1) d) (congrArg (·.2.2) d) h
end
end Go.Dd

namespace Go.Dd
open Go Go.RowKit
open List hiding get
abbrev b8 (x:BitVec 8):Value:= .int .u8 (x.toNat:Int)
abbrev u32 (x:BitVec 32):Value:= .int .u32 (x.toNat:Int)
abbrev i32 (x:BitVec 32):Value:= .int .i32 x.toInt
def Ex (P:Program) (n:Nat) (E:CR) (op:Op) (ty:TypeId) (w:World) (v:Value):Prop:=
 ∀a,CE n E a→∀d pos af g,(execOp a.eval ⟨d,op,ty,pos,af,g⟩).run P w= .ok (.value v) w
def Xw (P:Program) (n:Nat) (E:CR) (op:Op) (ty:TypeId) (w:World) (R:Value→World→Prop):Prop:=
 ∀a,CE n E a→∃v w',(∀d pos af g,(execOp a.eval ⟨d,op,ty,pos,af,g⟩).run P w= .ok (.value v) w')∧R v w'
def Xu (P:Program) (n:Nat) (E:CR) (op:Op) (ty:TypeId) (w:World) (R:World→Prop):Prop:=
 ∀a,CE n E a→∃w',(∀d pos af g,(execOp a.eval ⟨d,op,ty,pos,af,g⟩).run P w= .ok .skip w')∧R w'
def Xc (P:Program) (n:Nat) (E:CR) (op:Op) (ty:TypeId) (w:World) (f:FuncId) (args:List Value):Prop:=
 ∀a,CE n E a→∀d pos af g,(execOp a.eval ⟨d,op,ty,pos,af,g⟩).run P w= .ok (.enter f args.toArray) w
def DY:List Oper→Nat→Option Oper
 |[],_=>none
 |o::_,0=>some o
 |_::l,k+1=>DY l k
theorem CX:∀(l:List Oper) (k:Nat),l[k]? =DY l k
 |[],_=>by simp [DY]
 |_::_,0=>by simp [DY]
 |_::l,k+1=>by simpa [DY] using CX l k
section
variable {P : Program} {Q : BZ} {n : Nat} {E : CR} {w : World} {l0 rest : List Oper} {ty : TypeId} {pos : String} {af : Array Edge}
theorem Aa {d:Nat} {b:Op} {v:Value} (h:Ex P n E b ty w v) (f:Nat.blt d n=true) (k:Lw P l0 Q n rest ((d,v)::E) w):Lw P l0 Q n (⟨some d,b,ty,pos,af,none⟩::rest) E w:=
 fun a e=>wpList_plain rfl fun K g=>by
  unfold Oper.wp;rw [h a e];exact g _ _ (k _ (e.put v f))
theorem Bc {d:Nat} {e:Op} {R:Value→World→Prop} (h:Xw P n E e ty w R) (g:Nat.blt d n=true) (k:∀v b,R v b→Lw P l0 Q n rest ((d,v)::E) b):Lw P l0 Q n (⟨some d,e,ty,pos,af,none⟩::rest) E w:=
 fun a f=>wpList_plain rfl fun K o=>by
  obtain ⟨v,b,j,i⟩:=h a f
  unfold Oper.wp;rw [j];exact o _ _ (k v b i _ (f.put v g))
theorem Bv {e:Op} {R:World→Prop} (h:Xu P n E e ty w R) (k:∀b,R b→Lw P l0 Q n rest E b):Lw P l0 Q n (⟨none,e,ty,pos,af,none⟩::rest) E w:=
 fun a f=>wpList_plain rfl fun K j=>by
  obtain ⟨b,i,g⟩:=h a f
  unfold Oper.wp;rw [i];exact j _ _ (k b g _ (f.put_none _))
theorem Lw.call {d:Nat} {g:Op} {f:FuncId} {args:List Value} {R:Value→World→Prop} (h:Xc P n E g ty w f args) (j:Nat.blt d n=true) (o:AK P f args w R)
  (k:∀v b,R v b→Lw P l0 Q n rest ((d,v)::E) b):Lw P l0 Q n (⟨some d,g,ty,pos,af,none⟩::rest) E w:=
 fun a i=>wpList_plain rfl fun K B=>by
  unfold Oper.wp;rw [h a i]
  exact o.2.mono fun e b ⟨v,r,A⟩=>by subst r;exact B _ _ (k v b A _ (i.put v j))
theorem Cm {l:List Oper} (d:Nat) {v v' :Value} (f:get E d=some v) (g:v=v') (h:Lw P l0 Q n l ((d,v')::E) w):Lw P l0 Q n l E w:=fun a b=>h a<|by
 subst g
 refine ⟨b.dfr,b.size,fun i u e=> ?_⟩
 by_cases hi:d=i
 ·subst hi;rw [CN] at e;exact b.has _ _ (f.trans e)
 ·rw [DL _ _ hi] at e;exact b.has _ _ e
theorem Cc {l:List Oper} (d:Nat) {g:Bool} (b:get E d=some (.bool g)) (a:g=true→Lw P l0 Q n l ((d, .bool true)::E) w) (e:g=false→Lw P l0 Q n l ((d, .bool false)::E) w):Lw P l0 Q n l E w:=by
 cases g with
 |true=>exact Cm d b rfl (a rfl)
 |false=>exact Cm d b rfl (e rfl)
theorem FF {a:Act} (e:CE n E a) {j dj:Nat} {g:Bool} (f:(DY l0 j).bind (·.dst)=some dj) (b:get E dj=some (.bool g)):yielded l0.toArray a.tmps j=some g:=by
 unfold yielded
 rw [getElem?_toArray,CX,f]
 simp [e.has _ _ b]
theorem Ag {d:Option Tmp} {e:Op} {j dj:Nat} {g:Bool} (i:(DY l0 j).bind (·.dst)=some dj) (o:get E dj=some (.bool g))
  (h:Lw P l0 Q n (⟨d,e,ty,pos,af,none⟩::rest) E w):Lw P l0 Q n (⟨d,e,ty,pos,af,some (j,g)⟩::rest) E w:=fun a f=>by
 have b:=h a f
 unfold wpList at b ⊢
 rw [if_pos (by simp [Region.wanted])] at b
 rw [if_pos (by simp [Region.wanted,FF f i o])]
 exact b
theorem Ae {d:Nat} {i:Op} {j dj:Nat} {g b:Bool} (o:(DY l0 j).bind (·.dst)=some dj) (A:get E dj=some (.bool b)) (r:(g==b)=false) (f:Nat.blt d n=true)
  (h:Lw P l0 Q n rest ((d,undef)::E) w):Lw P l0 Q n (⟨some d,i,ty,pos,af,some (j,g)⟩::rest) E w:=fun a e=>by
 unfold wpList
 rw [if_neg]
 ·exact h _ (e.put _ f)
 ·simp only [Region.wanted,FF e o A]
  cases g<;>cases b<;>simp_all
section
variable {x y z : Operand} {v u : Value} {t s : TypeId}
theorem B4 (e:ev E x=some v):Ex P n E (.move x) ty w v:=fun a b _ _ _ _=>by simp [execOp,b.ev e]
theorem Ce (e:ev E x=some v):Ex P n E (.assign x) ty w v:=fun a b _ _ _ _=>by simp [execOp,b.ev e]
theorem Ex.as {a:Op} (h:Ex P n E a ty w v) (e:v=u):Ex P n E a ty w u:=e ▸ h
theorem C3 (e:ev E x=some (.bool true)) (f:ev E y=some v):Ex P n E (.pick x y z) ty w v:=fun a b _ _ _ _=>by simp [execOp,b.ev e,b.ev f,asBool]
theorem C0 (e:ev E x=some (.bool false)) (f:ev E z=some v):Ex P n E (.pick x y z) ty w v:=fun a b _ _ _ _=>by simp [execOp,b.ev e,b.ev f,asBool]
theorem Ax {b:Addr} (f:ev E x=some (.pointer (some b))):Ex P n E (.nilCheck x) ty w (.pointer (some b)):=fun a e _ _ _ _=>by simp [execOp,e.ev f]
theorem Qj {a:BinOp} {k:IntKind} {m:Int}:eqGuard a t x y (.int k m) u=pure ():=by cases a<;>rfl
section ints
variable {k : IntKind} {m q : Int}
theorem Dz {b:BinOp} {r:Value} (g:ev E x=some (.int k m)) (f:ev E y=some u) (h:(binOp b t (.int k m) u).run P w= .ok r w):Ex P n E (.binOp b t x y s) ty w r:=fun a e _ _ _ _=>by
 simp only [execOp,e.ev g,e.ev f,Qj]
 simp [h]
theorem Ex.add (b:ev E x=some (.int k m)) (a:ev E y=some (.int k q)):Ex P n E (.binOp .add t x y s) ty w (.int k (k.wrap (m+q))):=Dz b a (by simp [go_sem,Op.intArith])
theorem Ex.subt (b:ev E x=some (.int k m)) (a:ev E y=some (.int k q)):Ex P n E (.binOp .sub t x y s) ty w (.int k (k.wrap (m - q))):=Dz b a (by simp [go_sem,Op.intArith])
theorem Ex.mul (b:ev E x=some (.int k m)) (a:ev E y=some (.int k q)):Ex P n E (.binOp .mul t x y s) ty w (.int k (k.wrap (m*q))):=Dz b a (by simp [go_sem,Op.intArith])
theorem Dp (b:ev E x=some (.int .i64 m)) (a:ev E y=some (.int .i64 q)) (h: -9223372036854775808≤m+q∧m+q≤9223372036854775807):Ex P n E (.binOp .add t x y s) ty w (.int .i64 (m+q)):=by
 have:=Ex.add (P:=P) (n:=n) (w:=w) (ty:=ty) (t:=t) (s:=s) b a;rwa [IntWalk.i64_in _ h] at this
theorem D2 (b:ev E x=some (.int .i64 m)) (a:ev E y=some (.int .i64 q)) (h: -9223372036854775808≤m - q∧m - q≤9223372036854775807):Ex P n E (.binOp .sub t x y s) ty w (.int .i64 (m - q)):=by
 have:=Ex.subt (P:=P) (n:=n) (w:=w) (ty:=ty) (t:=t) (s:=s) b a;rwa [IntWalk.i64_in _ h] at this
theorem Dv (b:ev E x=some (.int .i64 m)) (a:ev E y=some (.int .i64 q)) (h: -9223372036854775808≤m*q∧m*q≤9223372036854775807):Ex P n E (.binOp .mul t x y s) ty w (.int .i64 (m*q)):=by
 have:=Ex.mul (P:=P) (n:=n) (w:=w) (ty:=ty) (t:=t) (s:=s) b a;rwa [IntWalk.i64_in _ h] at this
theorem Ff (f:ev E x=some (.int .i64 m)) (e:ev E y=some (.int .i64 q)) (a:0≤m∧m≤9223372036854775807) (b:1≤q):Ex P n E (.binOp .quo t x y s) ty w (.int .i64 (m / q)):=Dz f e (by
 have:¬q=0:=by omega
 simp [go_sem,Op.intDiv,this,IntWalk.i64_quo m q ⟨a.1,a.2,b⟩])
theorem Er (b:ev E x=some (.int k m)) (a:ev E y=some (.int k q)):Ex P n E (.binOp .lss t x y s) ty w (.bool (decide (m<q))):=Dz b a (by simp [go_sem])
theorem Dy (b:ev E x=some (.int k m)) (a:ev E y=some (.int k q)):Ex P n E (.binOp .leq t x y s) ty w (.bool (decide (m≤q))):=Dz b a (by simp [go_sem])
theorem Dh (b:ev E x=some (.int k m)) (a:ev E y=some (.int k q)):Ex P n E (.binOp .gtr t x y s) ty w (.bool (decide (q<m))):=Dz b a (by simp [go_sem])
theorem Eu (b:ev E x=some (.int k m)) (a:ev E y=some (.int k q)):Ex P n E (.binOp .geq t x y s) ty w (.bool (decide (q≤m))):=Dz b a (by simp [go_sem])
theorem Pz (m q:Int):(m==q)=decide (m=q):=by by_cases h:m=q<;>simp [h]
theorem C6 (b:ev E x=some (.int k m)) (a:ev E y=some (.int k q)):Ex P n E (.binOp .eql t x y s) ty w (.bool (decide (m=q))):=Dz b a (by rw [binOp_eql,Pz];rfl)
theorem Ct (b:ev E x=some (.int k m)) (a:ev E y=some (.int k q)):Ex P n E (.binOp .neq t x y s) ty w (.bool (!decide (m=q))):=Dz b a (by rw [binOp_neq,bne,Pz];rfl)
theorem Fk {m:Int} (hs:(P.underlying s).isSome=true) (e:P.underlying t=some (.int k)) {g:IntKind} (h:ev E x=some (.int g m)):Ex P n E (.convert s t x) ty w (.int k (k.wrap m)):=fun a f _ _ _ _=>by
 obtain ⟨d,b⟩:=Option.isSome_iff_exists.mp hs
 simp [execOp,f.ev h,convert,run_underlying b,run_underlying e,Conv.intToInt]
theorem Fx {m:Int} (hs:(P.underlying s).isSome=true) (a:P.underlying t=some (.int .i64)) {b:IntKind} (e:ev E x=some (.int b m)) (h: -9223372036854775808≤m∧m≤9223372036854775807):Ex P n E (.convert s t x) ty w (.int .i64 m):=by
 have:=Fk (P:=P) (n:=n) (w:=w) (ty:=ty) hs a e;rwa [IntWalk.i64_in _ h] at this
theorem Ex.min2 (f:ev E x=some (.int k m)) (e:ev E y=some (.int k q)) {ts:Array TypeId}:Ex P n E (.call {callee:= .builtin .min,args:= #[x,y],argTypes:=ts}) ty w (.int k (if q<m then q else m)):=fun a b _ _ _ _=>by
 simp [execOp,resolve,invoke,builtin,b.ev f,b.ev e,Builtin.min_,Builtin.min2]
end ints
theorem Jb {k:Nat} (x:BitVec k):BitVec.ofInt k (x.toNat:Int)=x:=by
 apply BitVec.eq_of_toNat_eq
 simp
theorem ofInt_toInt {k:Nat} (x:BitVec k):BitVec.ofInt k x.toInt=x:=BitVec.ofInt_toInt
theorem N4 (x:BitVec 8):IntKind.u8.wrap (x.toNat:Int)=x.toNat:=IntWalk.u8_in _ (by have:=x.isLt;omega)
theorem GC (x:BitVec 32):IntKind.u32.wrap (x.toNat:Int)=x.toNat:=IntWalk.u32_in _ (by have:=x.isLt;omega)
theorem Mo (n:Int):IntKind.i32.wrap n=(BitVec.ofInt 32 n).toInt:=by
 rw [BitVec.toInt_ofInt,IntKind.wrap_i32,Int.bmod_def]
 omega
theorem Lu (n:Int):IntKind.u32.wrap n=((BitVec.ofInt 32 n).toNat:Int):=by
 rw [BitVec.toNat_ofInt,IntKind.wrap_u32];omega
theorem Mn (n:Int):IntKind.u8.wrap n=((BitVec.ofInt 8 n).toNat:Int):=by
 rw [BitVec.toNat_ofInt,IntKind.wrap_u8];omega
section u32
variable {p q : BitVec 32}
theorem Fe (b:ev E x=some (u32 p)) (a:ev E y=some (u32 q)):Ex P n E (.binOp .xor t x y s) ty w (u32 (p ^^^ q)):=Dz b a (by
 simp only [binOp_xor,Op.intBits,u32];simp [IntKind.bits,GC];rfl)
theorem Fy (b:ev E x=some (u32 p)) (a:ev E y=some (u32 q)):Ex P n E (.binOp .and t x y s) ty w (u32 (p &&& q)):=Dz b a (by
 simp only [binOp_and,Op.intBits,u32];simp [IntKind.bits,GC];rfl)
theorem F7 (b:ev E x=some (u32 p)) (a:ev E y=some (u32 q)):Ex P n E (.binOp .or t x y s) ty w (u32 (p|||q)):=Dz b a (by
 simp only [binOp_or,Op.intBits,u32];simp [IntKind.bits,GC];rfl)
theorem Ev {a:IntKind} {j:Nat} (h:ev E x=some (u32 p)) (e:ev E y=some (.int a (j:Int))) (i:j≤32):Ex P n E (.binOp .shr t x y s) ty w (u32 (p>>>j)):=Dz h e (by
 have g:¬(j:Int)<0:=by omega
 have f:min (Int.toNat (j:Int)) IntKind.u32.bits=j:=by simp [IntKind.bits];omega
 have b:(p.toNat:Int).fdiv (2 ^ j)=((p>>>j).toNat:Int):=by
  rw [BitVec.toNat_ushiftRight,Nat.shiftRight_eq_div_pow,Int.fdiv_eq_ediv_of_nonneg _ (by exact_mod_cast Nat.zero_le _)]
  simp
 simp only [binOp_shr,Op.shift,g,if_false,f,b,u32];rfl)
theorem Fw {a:IntKind} {j:Nat} (h:ev E x=some (u32 p)) (e:ev E y=some (.int a (j:Int))) (i:j≤32):Ex P n E (.binOp .shl t x y s) ty w (u32 (p<<<j)):=Dz h e (by
 have g:¬(j:Int)<0:=by omega
 have f:min (Int.toNat (j:Int)) IntKind.u32.bits=j:=by simp [IntKind.bits];omega
 have b:IntKind.u32.wrap ((p.toNat:Int)*2 ^ j)=((p<<<j).toNat:Int):=by
  rw [IntKind.wrap_u32,BitVec.toNat_shiftLeft,Nat.shiftLeft_eq]
  simp
 simp only [binOp_shl,Op.shift,g,if_false,f,b,u32];rfl)
theorem Gi (b:ev E x=some (u32 p)) (a:ev E y=some (u32 q)):Ex P n E (.binOp .add t x y s) ty w (u32 (p+q)):=by
 refine (Ex.add b a).as ?_
 have:IntKind.u32.wrap ((p.toNat:Int)+q.toNat)=((p+q).toNat:Int):=by rw [IntKind.wrap_u32,BitVec.toNat_add];omega
 rw [this]
theorem Ex.neg32 {t:TypeId} (e:ev E x=some (u32 p)):Ex P n E (.unOp .neg t x) ty w (u32 (-p)):=fun a b _ _ _ _=>by
 have:IntKind.u32.wrap (-(p.toNat:Int))=((-p).toNat:Int):=by rw [IntKind.wrap_u32,BitVec.toNat_neg];have:=p.isLt;omega
 simp [execOp,b.ev e,Op.unary,Op.intArith,this]
theorem Fg {t:TypeId} (i:ev E x=some (u32 p)):Ex P n E (.unOp .xor t x) ty w (u32 (~~~p)):=fun a b _ _ _ _=>by
 have g:BitVec.ofInt 32 (IntKind.u32.max)=BitVec.allOnes 32:=by decide
 simp only [execOp,b.ev i,Op.unary,Op.intBits,IntKind.signed,u32]
 have e:BitVec.ofInt 32 IntKind.u32.max ^^^ BitVec.ofInt 32 (p.toNat:Int)= ~~~p:=by rw [g,Jb,BitVec.allOnes_xor]
 have h:IntKind.u32.wrap ((BitVec.ofInt 32 IntKind.u32.max ^^^ BitVec.ofInt 32 (p.toNat:Int)).toNat:Int)=((~~~p).toNat:Int):=by rw [e,GC]
 have f:IntKind.u32.wrap ((BitVec.ofInt IntKind.u32.bits IntKind.u32.max ^^^ BitVec.ofInt IntKind.u32.bits (p.toNat:Int)).toNat:Int)=((~~~p).toNat:Int):=h
 simp only [Sem.run_bind,Sem.run_pure,Result.andThen_ok,Bool.false_eq_true,if_false,f]
theorem QG:((p.toNat:Int)=(q.toNat:Int))↔p=q:=by
 constructor
 ·intro h;exact BitVec.eq_of_toNat_eq (by omega)
 ·intro h;rw [h]
theorem Ex.eql32 (b:ev E x=some (u32 p)) (a:ev E y=some (u32 q)):Ex P n E (.binOp .eql t x y s) ty w (.bool (decide (p=q))):=by
 have:=C6 (P:=P) (n:=n) (w:=w) (ty:=ty) (t:=t) (s:=s) b a;simp only [QG] at this;exact this
theorem Ge (b:ev E x=some (u32 p)) (a:ev E y=some (u32 q)):Ex P n E (.binOp .neq t x y s) ty w (.bool (!decide (p=q))):=by
 have:=Ct (P:=P) (n:=n) (w:=w) (ty:=ty) (t:=t) (s:=s) b a;simp only [QG] at this;exact this
end u32
section b8
variable {p q : BitVec 8}
theorem Ex.xor8 (b:ev E x=some (b8 p)) (a:ev E y=some (b8 q)):Ex P n E (.binOp .xor t x y s) ty w (b8 (p ^^^ q)):=Dz b a (by
 simp only [binOp_xor,Op.intBits,b8];simp [IntKind.bits,N4];rfl)
theorem Ue:((p.toNat:Int)=(q.toNat:Int))↔p=q:=by
 constructor
 ·intro h;exact BitVec.eq_of_toNat_eq (by omega)
 ·intro h;rw [h]
theorem Ch (b:ev E x=some (b8 p)) (a:ev E y=some (b8 q)):Ex P n E (.binOp .eql t x y s) ty w (.bool (decide (p=q))):=by
 have:=C6 (P:=P) (n:=n) (w:=w) (ty:=ty) (t:=t) (s:=s) b a;simp only [Ue] at this;exact this
theorem Fh (b:ev E x=some (b8 p)) (a:ev E y=some (b8 q)):Ex P n E (.binOp .neq t x y s) ty w (.bool (!decide (p=q))):=by
 have:=Ct (P:=P) (n:=n) (w:=w) (ty:=ty) (t:=t) (s:=s) b a;simp only [Ue] at this;exact this
end b8
section i32
variable {p q : BitVec 32}
theorem RW:(p.toInt=q.toInt)↔p=q:=BitVec.toInt_inj
theorem F4 (b:ev E x=some (i32 p)) (a:ev E y=some (i32 q)):Ex P n E (.binOp .eql t x y s) ty w (.bool (decide (p=q))):=by
 have:=C6 (P:=P) (n:=n) (w:=w) (ty:=ty) (t:=t) (s:=s) b a;simp only [RW] at this;exact this
theorem F0 (b:ev E x=some (i32 p)) (a:ev E y=some (i32 q)):Ex P n E (.binOp .neq t x y s) ty w (.bool (!decide (p=q))):=by
 have:=Ct (P:=P) (n:=n) (w:=w) (ty:=ty) (t:=t) (s:=s) b a;simp only [RW] at this;exact this
end i32
theorem Dm {b:IntKind} {m:Int} (hs:(P.underlying s).isSome=true) (a:P.underlying t=some (.int .u8)) (e:ev E x=some (.int b m)):Ex P n E (.convert s t x) ty w (b8 (BitVec.ofInt 8 m)):=by
 have:=Fk (P:=P) (n:=n) (w:=w) (ty:=ty) hs a e;rwa [Mn] at this
theorem E3 {b:IntKind} {m:Int} (hs:(P.underlying s).isSome=true) (a:P.underlying t=some (.int .u32)) (e:ev E x=some (.int b m)):Ex P n E (.convert s t x) ty w (u32 (BitVec.ofInt 32 m)):=by
 have:=Fk (P:=P) (n:=n) (w:=w) (ty:=ty) hs a e;rwa [Lu] at this
theorem Fa {b:IntKind} {m:Int} (hs:(P.underlying s).isSome=true) (a:P.underlying t=some (.int .i32)) (e:ev E x=some (.int b m)):Ex P n E (.convert s t x) ty w (i32 (BitVec.ofInt 32 m)):=by
 have:=Fk (P:=P) (n:=n) (w:=w) (ty:=ty) hs a e;rwa [Mo] at this
theorem PP (p:BitVec 32):BitVec.ofInt 8 (p.toNat:Int)=p.setWidth 8:=by
 apply BitVec.eq_of_toNat_eq;simp<;>omega
theorem PQ (p:BitVec 8):BitVec.ofInt 32 (p.toNat:Int)=p.setWidth 32:=by
 apply BitVec.eq_of_toNat_eq;simp<;>omega
theorem Ec {p:BitVec 32} (hs:(P.underlying s).isSome=true) (a:P.underlying t=some (.int .u8)) (b:ev E x=some (u32 p)):Ex P n E (.convert s t x) ty w (b8 (p.setWidth 8)):=by
 have:=Dm (P:=P) (n:=n) (w:=w) (ty:=ty) hs a b;rwa [PP] at this
theorem Eb {p:BitVec 8} (hs:(P.underlying s).isSome=true) (a:P.underlying t=some (.int .u32)) (b:ev E x=some (b8 p)):Ex P n E (.convert s t x) ty w (u32 (p.setWidth 32)):=by
 have:=E3 (P:=P) (n:=n) (w:=w) (ty:=ty) hs a b;rwa [PQ] at this
theorem E6 {p:BitVec 32} (hs:(P.underlying s).isSome=true) (a:P.underlying t=some (.int .u32)) (b:ev E x=some (i32 p)):Ex P n E (.convert s t x) ty w (u32 p):=by
 have:=E3 (P:=P) (n:=n) (w:=w) (ty:=ty) hs a b;rwa [ofInt_toInt] at this
theorem E7 {p:BitVec 32} (hs:(P.underlying s).isSome=true) (a:P.underlying t=some (.int .i32)) (b:ev E x=some (u32 p)):Ex P n E (.convert s t x) ty w (i32 p):=by
 have:=Fa (P:=P) (n:=n) (w:=w) (ty:=ty) hs a b;rwa [Jb] at this
theorem Fb {p:BitVec 8} (hs:(P.underlying s).isSome=true) (a:P.underlying t=some (.int .i64)) (b:ev E x=some (b8 p)):Ex P n E (.convert s t x) ty w (.int .i64 (p.toNat:Int)):=Fx hs a b (by have:=p.isLt;omega)
theorem Gg {p:BitVec 32} (hs:(P.underlying s).isSome=true) (a:P.underlying t=some (.int .i64)) (b:ev E x=some (u32 p)):Ex P n E (.convert s t x) ty w (.int .i64 (p.toNat:Int)):=Fx hs a b (by have:=p.isLt;omega)
theorem Es {m:Int} {t:TypeId} (e:ev E x=some (.int .i64 m)) (h: -9223372036854775807≤m∧m≤9223372036854775807):Ex P n E (.unOp .neg t x) ty w (.int .i64 (-m)):=fun a b _ _ _ _=>by
 have:IntKind.i64.wrap (-m)= -m:=IntWalk.i64_in _ (by omega)
 simp [execOp,b.ev e,Op.unary,Op.intArith,this]
theorem Co {b:Bool} {t:TypeId} (f:ev E x=some (.bool b)):Ex P n E (.unOp .not t x) ty w (.bool (!b)):=fun a e _ _ _ _=>by simp [execOp,e.ev f,Op.unary]
theorem Bt {vs:List Value} {i:Nat} (e:ev E x=some (.tuple vs.toArray)) (f:vs[i]? =some v):Ex P n E (.extract x i) ty w v:=fun a b _ _ _ _=>by
 simp [execOp,b.ev e,Instr.extract,f]
theorem EY {f : FuncId} {args : Array Value} (b : ∃ a, P.funcs[f]? = some a ∧ (a.name == "runtime.NumGoroutine") = false ∧ a.body.isSome = true) : (callFunc f args).run P w = .ok (.enter f args) w := by
 obtain ⟨a,h,e,i⟩:=b
 have g:a.body.isNone=false:=by cases hb:a.body<;>simp_all
 unfold callFunc
 simp only [Sem.run_bind,program,Sem.run,Result.andThen_ok,h,e,g,Bool.false_eq_true,if_false]
 rfl
def evs (E:CR):List Operand→Option (List Value)
 |[]=>some []
 |x::l=>match ev E x,evs E l with
  |some v,some vs=>some (v::vs)
  |_,_=>none
theorem CE.evs {a:Act} (h:CE n E a):∀{l:List Operand} {vs:List Value},evs E l=some vs→l.map a.eval=vs
 |[],vs,hl=>by simp [Dd.evs] at hl;simp [hl]
 |x::l,vs,hl=>by
  simp only [Dd.evs] at hl
  split at hl
  ·rename_i v us b e
   simp only [Option.some.injEq] at hl
   subst hl
   simp [h.ev b,CE.evs h e]
  ·simp at hl
theorem E2 {f:FuncId} {xs b:List Operand} {vs us:List Value} (j:Dd.evs E xs=some vs) (h:Dd.evs E b=some us):Ex P n E (.makeFunc (.func f) xs.toArray b.toArray) ty w (.func (.func f) vs.toArray us.toArray):=fun a e _ _ _ _=>by
 have i:xs.toArray.map a.eval=vs.toArray:=by rw [map_toArray,e.evs j]
 have g:b.toArray.map a.eval=us.toArray:=by rw [map_toArray,e.evs h]
 simp [execOp,i,g,Instr.makeFunc]
theorem Xc.mk {f : FuncId} {xs : List Operand} {vs : List Value} {ts : Array TypeId} (g : ∃ e, P.funcs[f]? = some e ∧ (e.name == "runtime.NumGoroutine") = false ∧ e.body.isSome = true) (i : Dd.evs E xs = some vs) :
  Xc P n E (.call {callee:= .value (.func f),args:=xs.toArray,argTypes:=ts}) ty w f vs:=fun a h _ _ _ _=>by
 have b:xs.toArray.map a.eval=vs.toArray:=by rw [map_toArray,h.evs i]
 simp [execOp,resolve,b,Act.eval,Deferred.ofValue,invoke,EY (P:=P) (w:=w) g]
theorem Xc.val {f : FuncId} {c : Operand} {p q : List Value} {xs : List Operand} {vs : List Value} {ts : Array TypeId} (h : ∃ e, P.funcs[f]? = some e ∧ (e.name == "runtime.NumGoroutine") = false ∧ e.body.isSome = true)
  (i:ev E c=some (.func (.func f) p.toArray q.toArray)) (j:Dd.evs E xs=some vs):
  Xc P n E (.call {callee:= .value c,args:=xs.toArray,argTypes:=ts}) ty w f (p++vs++q):=fun a g _ _ _ _=>by
 have b:xs.toArray.map a.eval=vs.toArray:=by rw [map_toArray,g.evs j]
 simp [execOp,resolve,b,g.ev i,Deferred.ofValue,invoke,EY (P:=P) (w:=w) h]
theorem Ai {d:Nat} {f:FuncId} {xs:List Operand} {vs:List Value} {ts:Array TypeId} {R:Value→World→Prop} (g:evs E xs=some vs) (e:Nat.blt d n=true) (b:AK P f vs w R)
  (k:∀v a,R v a→Lw P l0 Q n rest ((d,v)::E) a):Lw P l0 Q n (⟨some d, .call {callee:= .value (.func f),args:=xs.toArray,argTypes:=ts},ty,pos,af,none⟩::rest) E w:=
 Lw.call (Xc.mk b.1 g) e b k
theorem Eo {d:Nat} {f:FuncId} {c:Operand} {p q:List Value} {xs:List Operand} {vs:List Value} {ts:Array TypeId} {R:Value→World→Prop} (g:ev E c=some (.func (.func f) p.toArray q.toArray)) (h:evs E xs=some vs) (e:Nat.blt d n=true)
  (a:AK P f (p++vs++q) w R) (k:∀v b,R v b→Lw P l0 Q n rest ((d,v)::E) b):Lw P l0 Q n (⟨some d, .call {callee:= .value c,args:=xs.toArray,argTypes:=ts},ty,pos,af,none⟩::rest) E w:=
 Lw.call (Xc.val a.1 g h) e a k
end
end
section
variable {P : Program} {Q Q' : BZ} {n : Nat} {E : CR} {w : World} {l0 rest l : List Oper} {ty : TypeId} {pos : String} {af : Array Edge} {x : Operand} {v : Value} {d id : Nat} {c y : Code} {K : Act → World → Prop}
theorem Ac (h:(ev E x,Nat.blt d n)=(some v,true)) (k:Lw P l0 Q n rest ((d,v)::E) w):Lw P l0 Q n (⟨some d, .move x,ty,pos,af,none⟩::rest) E w:=Aa (B4 (congrArg Prod.fst h)) (congrArg Prod.snd h) k
theorem Ab (h:(ev E x,Nat.blt d n)=(some v,true)) (k:Lw P l0 Q n rest ((d,v)::E) w):Lw P l0 Q n (⟨some d, .assign x,ty,pos,af,none⟩::rest) E w:=Aa (Ce (congrArg Prod.fst h)) (congrArg Prod.snd h) k
theorem Ak (h:Cw P Q n c E w):Lw P l0 (CQ (fun a w=>c.wp P Q a w) Q') n [] E w:=Bd<|Ar<|B9 h
theorem Ad (h:Lw P l (CQ (fun a w=>y.wp P Q a w) Q) n l E w):Cw P Q n (.seq (.region id l.toArray false) y) E w:=Ao<|Bn h
theorem Ay (h:Pw n E (Q .ret) w):Lw P l0 (CQ (fun a w=>Code.ret.wp P Q a w) Q') n [] E w:=Ak<|Dq h
theorem B2 (h:Pw n E (Q .ret) w):Lw P l0 (CQ (fun a w=>Code.ret.wp P (CQ K Q) a w) Q') n [] E w:=Ak<|Dq<|Av h
theorem Be (h:Lw P l (CQ (fun a w=>y.wp P Q a w) Q) n l E w):Lw P l0 (CQ (fun a w=>(Code.seq (.region id l.toArray false) y).wp P Q a w) Q') n [] E w:=Ak<|Ad h
theorem Bi {z:Code} (h:Lw P l (CQ (fun a w=>y.wp P (CQ (fun a w=>z.wp P Q a w) Q) a w) (CQ (fun a w=>z.wp P Q a w) Q)) n l E w):Lw P l0 (CQ (fun a w=>(Code.seq (.seq (.region id l.toArray false) y) z).wp P Q a w) Q') n [] E w:=Ak<|Ao<|Ad h
theorem Bw (h:Cw P Q n c E w):Cw P (CQ (fun a w=>c.wp P Q a w) Q') n .skip E w:=Cj<|Ar<|B9 h
theorem Cs (h:Lw P l (CQ (fun a w=>y.wp P Q a w) Q) n l E w):Cw P (CQ (fun a w=>(Code.seq (.region id l.toArray false) y).wp P Q a w) Q') n .skip E w:=Bw<|Ad h
theorem B6 (h:Lw P l Q n l E w):Pw n E (CQ (fun a w=>(Code.region id l.toArray false).wp P Q a w) Q' .normal) w:=Ar<|B9<|Bn h
theorem Cb (h:Lw P l (CQ (fun a w=>y.wp P Q a w) Q) n l E w):Pw n E (CQ (fun a w=>(Code.seq (.region id l.toArray false) y).wp P Q a w) Q' .normal) w:=Ar<|B9<|Ad h
theorem Bz {y:Operand} {t s:TypeId} {k:IntKind} {m q:Int} (h:(ev E x,ev E y,Nat.blt d n)=(some (.int k m),some (.int k q),true)) (a:Lw P l0 Q n rest ((d, .bool (decide (m<q)))::E) w):Lw P l0 Q n (⟨some d, .binOp .lss t x y s,ty,pos,af,none⟩::rest) E w:=Aa (Er (congrArg (·.1) h) (congrArg (·.2.1) h)) (congrArg (·.2.2) h) a
theorem B7 {y z:Operand} (h:(ev E x,ev E y,Nat.blt d n)=(some (.bool true),some v,true)) (a:Lw P l0 Q n rest ((d,v)::E) w):Lw P l0 Q n (⟨some d, .pick x y z,ty,pos,af,none⟩::rest) E w:=Aa (C3 (congrArg (·.1) h) (congrArg (·.2.1) h)) (congrArg (·.2.2) h) a
theorem Ci {y z:Operand} (h:(ev E x,ev E z,Nat.blt d n)=(some (.bool false),some v,true)) (a:Lw P l0 Q n rest ((d,v)::E) w):Lw P l0 Q n (⟨some d, .pick x y z,ty,pos,af,none⟩::rest) E w:=Aa (C0 (congrArg (·.1) h) (congrArg (·.2.1) h)) (congrArg (·.2.2) h) a
theorem B1 {y:Operand} {t s:TypeId} {m q:Int} (h:(ev E x,ev E y,Nat.blt d n)=(some (.int .i64 m),some (.int .i64 q),true)) (b: -9223372036854775808≤m+q∧m+q≤9223372036854775807) (a:Lw P l0 Q n rest ((d, .int .i64 (m+q))::E) w):Lw P l0 Q n (⟨some d, .binOp .add t x y s,ty,pos,af,none⟩::rest) E w:=Aa (Dp (congrArg (·.1) h) (congrArg (·.2.1) h) b) (congrArg (·.2.2) h) a
end

def AP (w:World) (b:Nat) (T:TypeId) (cs:List Value):Prop:=w.heap[b]? =some (.cells cs.toArray T (0,0))
def K8 (w:World) (ao:Option Addr) (ys:List Value):Prop:=∀a,ao=some a→∀j u,ys[j]? =some u→w.cell? (a.add j)=some u
structure Sl (w:World) (sz:Nat) (v:Value) (n:Nat) (xs:List Value):Prop where
 len:xs.length=n*sz
 ex:∃ao cap,v= .slice ao n cap∧n≤cap∧cap≤maxLen∧(ao=none→cap=0)∧K8 w ao xs
def CH (v:Value) (j:Nat):Value:=match v with
 | .slice ao _ _=> .pointer (ao.map (·.add j))
 |_=>undef
def OS (v:Value) (n:Nat):Prop:=∃ao cap,v= .slice ao n cap∧n≤cap∧cap≤maxLen∧(ao=none→cap=0)
theorem Sl.shp {w:World} {sz:Nat} {v:Value} {n:Nat} {xs:List Value} (h:Sl w sz v n xs):OS v n:=by
 obtain ⟨_,a,cap,f,b,g,c,_⟩:=h
 exact ⟨a,cap,f,b,g,c⟩
abbrev BO {α:Type} (enc:α→Value) (w:World) (v:Value) (l:List α):Prop:=Sl w 1 v l.length (l.map enc)
theorem BA {w:World} {b:Nat} {T:TypeId} {cs:List Value} (h:AP w b T cs):b<w.heap.size:=(Array.getElem?_eq_some_iff.1 h).1
theorem TR (a:Addr) (i j:Nat):(a.add i).add j=if i+j=0 then a else {a with off:=a.off+(i+j),spot:=none}:=by
 unfold Addr.add
 by_cases hi:i=0
 ·subst hi;simp
 ·by_cases hj:j=0
  ·subst hj;simp [hi]
  ·have:¬(i+j=0):=by omega
   simp [hi,hj];omega
theorem Hy (a:Addr) (i j:Nat):(a.add i).add j=a.add (i+j):=by rw [TR];rfl
theorem IU (a:Addr) (i:Nat):(a.add i).block=a.block:=by unfold Addr.add;split<;>rfl
theorem add_lit (b o i:Nat):(⟨b,o,none⟩:Addr).add i=⟨b,o+i,none⟩:=by unfold Addr.add;split<;>simp_all
theorem AP.cell {w:World} {b:Nat} {T:TypeId} {cs:List Value} (h:AP w b T cs) (o:Nat):w.cell? ⟨b,o,none⟩=cs[o]? :=by
 rw [cell_of_row w b o _ T (0,0) h];simp
theorem AP.keep {w a:World} {b:Nat} {T:TypeId} {cs:List Value} (h:AP w b T cs) (k:a.heap[b]? =w.heap[b]?):AP a b T cs:=by unfold AP at*;rw [k];exact h
theorem AP.bl {w a:World} {b B:Nat} {T:TypeId} {cs:List Value} (h:AP w b T cs) (f:Below B w a) (c:b<B):AP a b T cs:=h.keep (f.block b c)
theorem AP.bs {w a:World} {b:Nat} {T:TypeId} {cs:List Value} (h:AP w b T cs) (c:Below w.heap.size w a):AP a b T cs:=h.bl c (BA h)
theorem AP.by {w c:World} {b:Nat} {T:TypeId} {cs:List Value} {r:Option Nat} (h:AP w b T cs) (f:w.grownBy c r) (a:some b≠r):AP c b T cs:=h.keep (f.block b (BA h) a)
theorem K8.keep {w g:World} {c:Option Addr} {b:List Value} (h:K8 w c b) (k:∀a,c=some a→b≠[]→g.heap[a.block]? =w.heap[a.block]?):K8 g c b:=fun a i j u l=>by
 have f:b≠[]:=by intro o;subst o;simp at l
 have m:=h a i j u l
 have:g.cell? (a.add j)=w.cell? (a.add j):=World.cell?_of_block (by rw [IU];exact k a i f)
 rw [this];exact m
theorem K8.lt {w:World} {a:Addr} {c:List Value} (h:K8 w (some a) c) (b:c≠[]):a.block<w.heap.size:=by
 obtain ⟨u,c,rfl⟩:=exists_cons_of_ne_nil b
 have:=World.block_lt_of_cell? w (a.add 0) (h a rfl 0 u (by simp))
 rwa [IU] at this
theorem Sl.keep {w f:World} {sz:Nat} {v:Value} {n:Nat} {xs:List Value} (h:Sl w sz v n xs) (k:∀b,b<w.heap.size→v.ownBlock=some b→f.heap[b]? =w.heap[b]?):Sl f sz v n xs:=by
 obtain ⟨o,i,cap,rfl,j,p,m,g⟩:=h
 refine ⟨o,i,cap,rfl,j,p,m,g.keep fun a l c=> ?_⟩
 subst l
 exact k _ (K8.lt g c) rfl
theorem Sl.bs {w c:World} {sz:Nat} {v:Value} {n:Nat} {xs:List Value} (h:Sl w sz v n xs) (f:Below w.heap.size w c):Sl c sz v n xs:=h.keep fun b a _=>f.block b a
theorem Sl.by {w f:World} {sz:Nat} {v:Value} {n:Nat} {xs:List Value} {r:Option Nat} (h:Sl w sz v n xs) (g:w.grownBy f r) (c:v.ownBlock=none∨v.ownBlock≠r):Sl f sz v n xs:=h.keep fun b a i=>g.block b a (by rcases c with h|h<;>simp_all)
theorem Sl.le {w:World} {sz:Nat} {v:Value} {n:Nat} {xs:List Value} (h:Sl w sz v n xs):n≤9223372036854775807:=by
 obtain ⟨_,b,cap,_,c,a,_⟩:=h
 unfold maxLen at a;omega
theorem Ck (w:World) (sz:Nat):Sl w sz (.slice none 0 0) 0 []:=⟨by simp,none,0,rfl,AU _,Nat.zero_le _,fun _=>rfl,fun a b=>by cases b⟩
theorem Sl.one {w:World} {sz:Nat} {v:Value} {n:Nat} {xs:List Value} (h:Sl w sz v n xs):v.cells=[v].toArray:=by
 obtain ⟨_,a,cap,rfl,_⟩:=h;rfl
theorem Sl.one' {w:World} {sz:Nat} {v:Value} {n:Nat} {xs:List Value} (h:Sl w sz v n xs):v.oneCell' =true:=by
 obtain ⟨_,a,cap,rfl,_⟩:=h;rfl
theorem AF {w:World} {base:Nat} {e:TypeId} {sz:Nat} {v:Value} {n:Nat} {xs:List Value} (h:w.ownsRow base e sz v n xs):Sl w sz v n xs:=by
 obtain ⟨k,o⟩:=h
 rcases o with ⟨rfl,rfl⟩|⟨g,cap,i,rfl,q,r,f,c,l,b⟩
 ·have:xs=[]:=eq_nil_of_length_eq_zero (by simpa using k)
  subst this;exact Ck w sz
 ·refine ⟨k,some ⟨g,0,none⟩,cap,rfl,f,c,(fun h=>by cases h),fun a m j u p=> ?_⟩
  simp only [Option.some.injEq] at m
  subst m
  exact World.ownsRow.cells ⟨k, .inr ⟨g,cap,i,rfl,q,r,f,c,l,b⟩⟩ (g:=g) rfl j u p
theorem AB {w:World} {base:Nat} {e:TypeId} {sz:Nat} {v:Value} {n:Nat} {xs:List Value} (h:w.ownsRow base e sz v n xs):∀b,v.ownBlock=some b→base≤b∧b<w.heap.size:=h.lt
theorem AI {w b:World} {base:Nat} {e:TypeId} {sz:Nat} {v:Value} {n:Nat} {xs:List Value} (h:w.ownsRow base e sz v n xs) (a:Below w.heap.size w b):b.ownsRow base e sz v n xs:=
 h.kept (row:=none) ⟨a.os,a.tape,a.output,a.size,fun k c _=>a.block k c⟩ (by cases f:v.ownBlock<;>simp)
theorem _root_.Go.World.ownsRow.bs {w a:World} {base:Nat} {e:TypeId} {sz:Nat} {v:Value} {n:Nat} {xs:List Value} (h:w.ownsRow base e sz v n xs) (b:Below w.heap.size w a):a.ownsRow base e sz v n xs:=AI h b
theorem _root_.Go.RowKit.Below.bs {a b c:World} (h:Below a.heap.size a b) (k:Below b.heap.size b c):Below a.heap.size a c:=h.trans (k.mono h.size)
theorem EU {w a:World} {r:Option Nat} (h:w.grownBy a r) {B:Nat} (c:B≤w.heap.size) (b:∀k,r=some k→B≤k):Below B w a:=(Below.refl B w).grown h c b
theorem DB {w b:World} (a:Below w.heap.size w b) (r:Option Nat):w.grownBy b r:=⟨a.os,a.tape,a.output,a.size,fun k c _=>a.block k c⟩
theorem ET {a b c:World} {r:Option Nat} (h:a.grownBy b r) (k:b.grownBy c r):a.grownBy c r:=
 ⟨k.os.trans h.os,k.tape.trans h.tape,k.output.trans h.output,Nat.le_trans h.size k.size,fun i g f=>(k.block i (Nat.lt_of_lt_of_le g h.size) f).trans (h.block i g f)⟩
theorem G8 (w:World) (r:Option Nat):w.grownBy w r:=⟨rfl,rfl,rfl,AU _,fun _ _ _=>rfl⟩
theorem AA {B:Nat} {w a:World} (h:Below B w a):w.heap.size≤a.heap.size:=h.size
theorem G6 (w:World) (o:Obj):Below w.heap.size w (w.alloc o):=(Below.refl _ _).alloc (AU _) o
theorem K6 {B:Nat} {a b c:World} (h:Below B a b) (k:Below b.heap.size b c) (f:B≤a.heap.size):Below B a c:=h.trans (k.mono (Nat.le_trans f h.size))
theorem bt {a b c:World} (h:Below a.heap.size a b) (k:Below b.heap.size b c):Below a.heap.size a c:=K6 h k (AU _)
structure FO (P:Program) (t e:TypeId) (sz:Nat):Prop where
 u:P.underlying t=some (.slice e)
 s:∀w,(sizeOf e).run P w= .ok sz w
structure Hg (P:Program) (e:TypeId) (z:List Value) (bytes:Nat):Prop where
 i:∃i,P.info? e=some i∧i.size=z.length∧i.bytes=bytes∧∃zv,i.zero=some zv∧zv.cells=z.toArray
section
variable {P : Program} {Q : BZ} {n : Nat} {E : CR} {w : World} {l0 rest : List Oper} {ty : TypeId} {pos : String} {af : Array Edge}
variable {x y z : Operand} {v u : Value} {t s e : TypeId} {sz : Nat}
theorem Ap {k:Nat} {xs:List Value} (c:FO P t e sz) (f:ev E x=some v) (h:Sl w sz v k xs):Ex P n E (.call {callee:= .builtin .len,args:= #[x],argTypes:= #[t]}) ty w (.int .i64 (k:Int)):=fun a b _ _ _ _=>by
 obtain ⟨_,g,cap,rfl,_⟩:=h
 simp [execOp,resolve,invoke,builtin,b.ev f,Builtin.len_,run_underlying c.u,goInt]
theorem E4 {b:Option Addr} {k cap:Nat} (f:FO P t e sz) (g:ev E x=some (.slice b k cap)):Ex P n E (.call {callee:= .builtin .cap,args:= #[x],argTypes:= #[t]}) ty w (.int .i64 (cap:Int)):=fun a c _ _ _ _=>by
 simp [execOp,resolve,invoke,builtin,c.ev g,Builtin.cap_,run_underlying f.u,goInt]
theorem Cl {k:IntKind} {m:Int} {c:Nat} {xs:List Value} (f:FO P t e sz) (q:ev E x=some v) (l:ev E y=some (.int k m)) (h:Sl w sz v c xs) (j:Nat) (g:m=(j:Int)) (o:j<c):
  Ex P n E (.indexAddr t x y) ty w (CH v (j*sz)):=fun a b _ _ _ _=>by
 obtain ⟨_,i,cap,rfl,B,_,r,_⟩:=h
 subst g
 cases i with
 |none=>have:=r rfl;omega
 |some ad=>
  have p:(0:Int)≤(j:Int)∧(j:Int)<(c:Int):=by omega
  have A:¬c≤j:=by omega
  simp [execOp,b.ev q,b.ev l,Instr.indexAt,asIntOf,run_underlying f.u,p,o,f.s w,CH]
theorem Dn {k:IntKind} {m:Int} {c:Nat} (f:FO P t e 1) (q:ev E x=some v) (l:ev E y=some (.int k m)) (h:OS v c) (j:Nat) (g:m=(j:Int)) (o:j<c):Ex P n E (.indexAddr t x y) ty w (CH v j):=fun a b _ _ _ _=>by
 obtain ⟨i,cap,rfl,A,_,r⟩:=h
 subst g
 cases i with
 |none=>have:=r rfl;omega
 |some ad=>
  have p:(0:Int)≤(j:Int)∧(j:Int)<(c:Int):=by omega
  simp [execOp,b.ev q,b.ev l,Instr.indexAt,asIntOf,run_underlying f.u,p,o,f.s w,CH]
theorem Fq {c:Nat} (f:FO P t e sz) (g:ev E x=some v) (h:OS v c):Ex P n E (.call {callee:= .builtin .len,args:= #[x],argTypes:= #[t]}) ty w (.int .i64 (c:Int)):=fun a b _ _ _ _=>by
 obtain ⟨i,cap,rfl,_⟩:=h
 simp [execOp,resolve,invoke,builtin,b.ev g,Builtin.len_,run_underlying f.u,goInt]
theorem Ea {c j:Nat} {xs:List Value} (i:(isAgg e).run P w= .ok false w) (p:ev E x=some (CH v j)) (h:Sl w sz v c xs) (k:xs[j]? =some u):Ex P n E (.load e x) ty w u:=fun a o _ _ _ _=>by
 obtain ⟨m,l,cap,rfl,A,_,q,g⟩:=h
 cases l with
 |none=>
  have r:=q rfl
  have b:j<xs.length:=by
   rcases Nat.lt_or_ge j xs.length with h|h
   ·exact h
   ·simp [getElem?_eq_none h] at k
  have:c=0:=by omega
  subst this;rw [m] at b;simp at b
 |some ad=>
  have b:=g ad rfl j u k
  have f:ev E x=some (.pointer (some (ad.add j))):=by simpa [CH] using p
  simp [execOp,o.ev f,Instr.loadAt,Instr.sureAddr,loadVar,i,b]
theorem Bh {α:Type} {enc:α→Value} {l:List α} {k:IntKind} {m:Int} (f:FO P t e 1) (g:ev E x=some v) (c:ev E y=some (.int k m)) (h:BO enc w v l) (j:Nat) (a:m=(j:Int)) (b:j<l.length):
  Ex P n E (.indexAddr t x y) ty w (CH v j):=by
 have:=Cl (ty:=ty) (n:=n) f g c h j a b
 rwa [Nat.mul_one] at this
theorem Bo {α:Type} [Inhabited α] {enc:α→Value} {l:List α} {j:Nat} (a:(isAgg e).run P w= .ok false w) (c:ev E x=some (CH v j)) (h:BO enc w v l) (b:j<l.length):
  Ex P n E (.load e x) ty w (enc (l.getD j default)):=Ea a c h (by simp [getElem?_eq_getElem b])
theorem Al {b o:Nat} {T:TypeId} {cs:List Value} (c:(isAgg e).run P w= .ok false w) (j:ev E x=some (.pointer (some ⟨b,o,none⟩))) (h:AP w b T cs) (f:cs[o]? =some u):Ex P n E (.load e x) ty w u:=fun a g _ _ _ _=>by
 have i:=(h.cell o).trans f
 simp [execOp,g.ev j,Instr.loadAt,Instr.sureAddr,loadVar,c,i]
theorem Cx {b k:Nat} {T:TypeId} {cs:List Value} (c:(isAgg e).run P w= .ok true w) (hs:(sizeOf e).run P w= .ok k w) (f:cs.length=k) (m:ev E x=some (.pointer (some ⟨b,0,none⟩))) (h:AP w b T cs):Ex P n E (.load e x) ty w (.agg cs.toArray):=fun a i _ _ _ _=>by
 subst f
 have l:=run_loadCells_list (P:=P) w ⟨b,0,none⟩ cs (fun j v g=>by rw [add_lit,Nat.zero_add,h.cell];exact g)
 simp [execOp,i.ev m,Instr.loadAt,Instr.sureAddr,loadVar,c,hs,l]
theorem Eh {f:Func} {R:Value→World→Prop} {p b k:Nat} {T:TypeId} {cs:List Value} {d:TypeDesc} (l:f.results= #[.cell p e]) (i:get E p=some (.pointer (some ⟨b,0,none⟩))) (o:AP w b T cs)
  (m:P.underlying e=some d) (g:(match d with| .struct _| .array _ _=>true|_=>false)=true) (q:(P.info? e).map (·.size)=some k) (j:cs.length=k) (h:R (.agg cs.toArray) w):Pw n E (SJ P f R .ret) w:=fun a c=>by
 subst j
 exact
 bodyPost_ret (v:= .agg cs.toArray) (results_cell_row l a.tmps w b T cs.toArray (0,0) d (by simp [Array.getD_eq_getD_getElem?,c.has _ _ i]) o m g (by simpa using q)) c.dfr ⟨_,rfl,h⟩
theorem Ex.idxB {k:IntKind} {m:Int} {b o c:Nat} (q:P.underlying t=some (.array c e)) (f:∀w,(sizeOf e).run P w= .ok sz w) (r:ev E x=some (.pointer (some ⟨b,o,none⟩))) (l:ev E y=some (.int k m)) (j:Nat) (h:m=(j:Int)) (i:j<c):
  Ex P n E (.indexAddr t x y) ty w (.pointer (some ⟨b,o+j*sz,none⟩)):=fun a g _ _ _ _=>by
 subst h
 have p:(0:Int)≤(j:Int)∧(j:Int)<(c:Int):=by omega
 have A:¬c≤j:=by omega
 simp [execOp,g.ev r,g.ev l,Instr.indexAt,asIntOf,run_underlying q,p,i,f w,Instr.sureAddr,add_lit]
theorem Fi {b o f q:Nat} {g:Array Field} {c:Field} (k:P.underlying t=some (.struct g)) (h:g[f]? =some c) (i:(sizeOf c.type).run P w= .ok (q+1) w) (l:ev E x=some (.pointer (some ⟨b,o,none⟩))):
  Ex P n E (.fieldAddr t x f) ty w (.pointer (some ⟨b,o+c.offset,none⟩)):=fun a j _ _ _ _=>by
 simp [execOp,j.ev l,Instr.fieldAt,Instr.sureAddr,fieldPlace,run_underlying k,h,i,add_lit]
theorem Xw.alloc {c:List Value} {zv:Value} (g:(zeroValue e).run P w= .ok zv w) (f:zv.cells=c.toArray):Xw P n E (.alloc e) ty w (fun v b=>v= .pointer (some ⟨w.heap.size,0,none⟩)∧AP b w.heap.size e c∧Below w.heap.size w b∧b.heap.size=w.heap.size+1):=fun a h=>by
 refine ⟨_,w.alloc (.cells c.toArray e),fun _ _ _ _=> ?_,rfl,heap_alloc_new w _,G6 w _,by simp⟩
 simp [execOp,Instr.alloc,g,newVar,newRow,f]
theorem Xw.new {c:List Value} {a:Nat} (j:Hg P e c a):Xw P n E (.alloc e) ty w (fun v b=>v= .pointer (some ⟨w.heap.size,0,none⟩)∧AP b w.heap.size e c∧Below w.heap.size w b∧b.heap.size=w.heap.size+1):=by
 obtain ⟨i,g,k,l,zv,f,h⟩:=j.i
 exact Xw.alloc (zv:=zv) (by simp [zeroValue,typeInfo,g,f]) h
theorem Xw.box {cs:List Value} (g:ev E x=some v) (f:v.cells=cs.toArray):Xw P n E (.box e x) ty w (fun v b=>v= .pointer (some ⟨w.heap.size,0,none⟩)∧AP b w.heap.size e cs∧Below w.heap.size w b∧b.heap.size=w.heap.size+1):=fun a c=>by
 refine ⟨_,w.alloc (.cells cs.toArray e),fun _ _ _ _=> ?_,rfl,heap_alloc_new w _,G6 w _,by simp⟩
 simp [execOp,c.ev g,Instr.box,newVar,newRow,f]
theorem IX {b o:Nat} {T:TypeId} {cs:List Value} (h:AP w b T cs) (u:Value):AP (w.setCell ⟨b,o,none⟩ u) b T (cs.set o u)∧w.grownBy (w.setCell ⟨b,o,none⟩ u) (some b):=by
 refine ⟨?_,⟨rfl,rfl,rfl,by simp,fun k _ a=>heap_setCell_other w ⟨b,o,none⟩ k u (fun e=>a (by simp [e]))⟩⟩
 have:=heap_setCell_same w b o cs.toArray T u h
 unfold AP
 rw [this]
 simp
theorem C5 {b o:Nat} {T:TypeId} {cs:List Value} (l:(sizeOf e).run P w= .ok 1 w) (r:ev E x=some (.pointer (some ⟨b,o,none⟩))) (q:ev E y=some u) (c:u.oneCell' =true) (h:AP w b T cs) (p:o<cs.length):
  Xu P n E (.store e x y) ty w (fun i=>AP i b T (cs.set o u)∧w.grownBy i (some b)∧i.heap.size=w.heap.size):=fun a m=>by
 refine ⟨w.setCell ⟨b,o,none⟩ u,fun _ _ _ _=> ?_,(IX h u).1,(IX h u).2,by simp⟩
 have f:w.cell? ⟨b,o,none⟩=some cs[o]:=by rw [h.cell,getElem?_eq_getElem p]
 have j:w.frozen? ⟨b,o,none⟩=false:=by simp [World.frozen?,show w.heap[b]? =_ from h]
 have k:u.cells= #[u]:=by cases u<;>first|rfl|simp [Value.oneCell'] at c
 have g:=run_store P w ⟨b,o,none⟩ u .plain c
 simp only [f,j] at g
 simp [execOp,m.ev r,m.ev q,Instr.storeAt,Instr.sureAddr,storeVar,l,k,storeCells,add_lit,g]
theorem C7 {b k:Nat} {T:TypeId} {c cs:List Value} (hs:(P.info? e).map (·.size)=some k) (i:cs.length=k) (p:ev E x=some (.pointer (some ⟨b,0,none⟩))) (o:ev E y=some (.agg cs.toArray)) (g:cs.all (·.oneCell')=true) (h:AP w b T c) (m:c.length=k):
  Xu P n E (.store e x y) ty w (fun j=>AP j b T cs∧w.grownBy j (some b)∧j.heap.size=w.heap.size):=fun a l=>by
 subst i
 have f:=run_storeVar_row (P:=P) w b T e c.toArray cs.toArray h (by simpa using hs) (by simpa using m) (by simpa using g)
 refine ⟨w.setRow b cs.toArray,fun _ _ _ _=> ?_,setRow_heap w b _ _ _ _ h,⟨rfl,rfl,rfl,by simp [World.setRow],fun k _ i=>setRow_other w b k _ (fun e=>i (by simp [e]))⟩,by simp [World.setRow]⟩
 simp [execOp,l.ev p,l.ev o,Instr.storeAt,Instr.sureAddr,f]
theorem Et {base c j:Nat} {T:TypeId} {xs:List Value} (q:(sizeOf e).run P w= .ok 1 w) (I:ev E x=some (CH v j)) (F:ev E y=some u) (f:u.oneCell' =true) (h:w.ownsRow base T sz v c xs) (A:j<xs.length):
  Xu P n E (.store e x y) ty w (fun o=>o.ownsRow base T sz v c (xs.set j u)∧w.grownBy o v.ownBlock∧o.heap.size=w.heap.size):=fun a B=>by
 rcases h.2 with ⟨rfl,rfl⟩|⟨g,cap,D,rfl,J,K,G,C,H,r⟩
 ·have:=h.1;simp at this;subst this;simp at A
 ·have k:=World.ownsRow.stored h j u
  refine ⟨w.setCell ⟨g,j,none⟩ u,fun _ _ _ _=> ?_,k.1,k.2,by simp⟩
  have m:ev E x=some (.pointer (some ⟨g,j,none⟩)):=by simpa [CH,add_lit] using I
  have i:w.cell? ⟨g,j,none⟩=some xs[j]:=by
   rw [World.ownsRow.cellAt h j (by rw [← h.1];exact A),getElem?_eq_getElem A]
  have p:=World.ownsRow.frozenAt h j
  have l:u.cells= #[u]:=by cases u<;>first|rfl|simp [Value.oneCell'] at f
  have b:=run_store P w ⟨g,j,none⟩ u .plain f
  simp only [i,p] at b
  simp [execOp,B.ev m,B.ev F,Instr.storeAt,Instr.sureAddr,storeVar,q,l,storeCells,add_lit,b]
theorem Eg {l c : Nat} {zs : List Value} {bytes : Nat} (hu : FO P t e sz) (hi : Hg P e zs bytes) (hzl : zs.length = sz) (hx : ev E x = some (.int .i64 (l : Int))) (hy : ev E y = some (.int .i64 (c : Int))) (hlc : l ≤ c) (hb : bytes * c ≤ 281474976710656) (hm : c ≤ 9223372036854775807) :
    Xw P n E (.makeSlice t x y) ty w (fun v w' =>w'.ownsRow w.heap.size e sz v l ((replicate l zs).flatten)∧v= .slice (some ⟨w.heap.size,0,none⟩) l c∧Below w.heap.size w w' ∧w'.heap.size=w.heap.size+1):=fun a ha=>by
  subst hzl
  obtain ⟨i,h1,h2,h3,zv,h4,h5⟩:=hi.i
  subst h3
  have hrun:=run_make (P:=P) w t e i zv hu.u h1 h4 .i64 .i64 l c (by omega) (by omega) (by have:=hb;omega) (by omega)
  simp only [Int.toNat_natCast] at hrun
  refine ⟨_,w.alloc (.cells (madeCells zv.cells (c*i.size)) e),fun _ _ _ _=>by simp [execOp,ha.ev hx,ha.ev hy,hrun], ?_,rfl,G6 w _,by simp⟩
  refine ⟨by simp, .inr ⟨w.heap.size,c,_,rfl,AU _,heap_alloc_new w _,hlc,by unfold maxLen;omega,by rw [size_madeCells,h2], ?_⟩⟩
  rw [h5,h2]
  apply ext_getElem?
  intro k
  by_cases hk:k<l*zs.length
  · have hk2:k<c*zs.length:=Nat.lt_of_lt_of_le hk (Nat.mul_le_mul_right _ hlc)
    have hz : 0 < zs.length := by rcases Nat.eq_zero_or_pos zs.length with h | h; · rw [h] at hk; simp at hk
                                  · exact h
    have hf:((replicate l zs).flatten)[k]? =zs[k % zs.length]? :=by
      clear hk2 hrun hb hm hlc hx hy
      induction l generalizing k with
      |zero=>simp at hk
      |succ l ih=>
        rw [replicate_succ,flatten_cons,getElem?_append]
        by_cases hlt:k<zs.length
        · simp [hlt,Nat.mod_eq_of_lt hlt]
        · simp only [hlt,if_false]
          rw [ih (k - zs.length) (by rw [Nat.succ_mul] at hk;omega)]
          rw [← Nat.mod_eq_sub_mod (by omega)]
    rw [hf]
    simp only [getElem?_take,hk,if_true]
    simp [madeCells,hk2,Nat.mod_lt k hz]
  · have:((replicate l zs).flatten).length=l*zs.length:=by simp
    rw [getElem?_eq_none (l:=(replicate l zs).flatten) (by rw [this];omega)]
    simp [getElem?_take,hk]
def Iy:Nat→List (Nat×Operand)→Option (List Operand)
 |_,[]=>some []
 |k,p::r=>match Nat.beq p.1 k,Iy (k+1) r with
  |true,some l=>some (p.2::l)
  |_,_=>none
def I8:Nat→List Value→List (Nat×Value)
 |_,[]=>[]
 |k,v::l=>(k,v)::I8 (k+1) l
theorem Ja {a:Act} (b:CE n E a):∀(ps:List (Nat×Operand)) (k:Nat) (xs:List Operand) (vs:List Value),Iy k ps=some xs→evs E xs=some vs→ps.map (fun p=>(p.1,a.eval p.2))=I8 k vs
 |[],k,xs,vs,h,hx=>by
  simp only [Iy,Option.some.injEq] at h
  subst h
  simp only [evs,Option.some.injEq] at hx
  subst hx;rfl
 |p::r,k,xs,vs,h,hx=>by
  simp only [Iy] at h
  split at h
  ·rename_i l i c
   simp only [Option.some.injEq] at h
   subst h
   simp only [evs] at hx
   split at hx
   ·rename_i v us g f
    simp only [Option.some.injEq] at hx
    subst hx
    have:=Nat.eq_of_beq_eq_true i
    simp [I8,this,b.ev g,Ja b r (k+1) l us c f]
   ·simp at hx
  ·simp at h
theorem Lp:∀(vs:List Value) (k:Nat) (a:Array Value),a.size=k+vs.length→vs.all (·.oneCell')=true→
  Instr.fill (fun i=>some (i*1,1)) a (I8 k vs)=some ((a.toList.take k++vs).toArray)
 |[],k,a,h,_=>by
  have:a.toList.take k=a.toList:=take_of_length_le (by simp at h ⊢;omega)
  simp [I8,Instr.fill,this]
 |v::vs,k,a,h,h1=>by
  simp only [all_cons,Bool.and_eq_true] at h1
  have p:v.cells= #[v]:=by cases v<;>first|rfl|simp [Value.oneCell'] at h1
  have g:k<a.size:=by simp at h;omega
  have r:¬(k+1>a.size):=by omega
  have b:=Lp vs (k+1) (a.setIfInBounds k v) (by simp at h ⊢;omega) h1.2
  simp only [I8,Instr.fill,p,Nat.mul_one]
  rw [if_neg (by simp;omega)]
  have q:(#[v].zipIdx.foldl (fun cs (c,j)=>cs.setIfInBounds (k+j) c) a)=a.setIfInBounds k v:=by simp [Array.zipIdx]
  simp only [q]
  simp only [Nat.mul_one] at b
  rw [b]
  congr 2
  apply ext_getElem?
  intro j
  simp only [Array.toList_setIfInBounds,getElem?_append,length_take,length_set,Array.length_toList,getElem?_take,getElem?_set]
  by_cases hj:j<k
  ·have l:j<min (k+1) a.size:=by omega
   have m:j<min k a.size:=by omega
   have o:j<k+1:=by omega
   have f:¬k=j:=by omega
   simp [hj,l,m,o,f]
  ·by_cases hj2:j=k
   ·subst hj2;simp [g,show min j a.size=j by omega,show min (j+1) a.size=j+1 by omega]
   ·simp [show ¬j<k by omega,show ¬j<k+1 by omega,show min k a.size=k by omega,show min (k+1) a.size=k+1 by omega,show j - k=(j - (k+1))+1 by omega]
theorem Cv {ps:List (Nat×Operand)} {xs:List Operand} {vs:List Value} {G:Value} {c k:Nat} (o:FO P t e 1) (D:Hg P e [G] c) (A:Iy 0 ps=some xs) (F:evs E xs=some vs) (l:vs.length=k) (g:vs.all (·.oneCell')=true) (h:Nat.ble k 16777216=true):
  Xw P n E (.buildSlice t k ps.toArray) ty w (fun v m=>m.ownsRow w.heap.size e 1 v k vs∧v= .slice (some ⟨w.heap.size,0,none⟩) k k∧Below w.heap.size w m∧m.heap.size=w.heap.size+1):=fun a H=>by
 obtain ⟨i,q,I,K,zv,p,J⟩:=D.i
 have f:¬(k*1>2 ^ 24):=by have:=Nat.le_of_ble_eq_true h;omega
 refine ⟨.slice (some ⟨w.heap.size,0,none⟩) k k,w.alloc (.cells vs.toArray e),fun _ _ _ _=> ?_,⟨by simpa using l, .inr ⟨w.heap.size,k,vs.toArray,rfl,AU _,heap_alloc_new w _,AU _,by have:=Nat.le_of_ble_eq_true h;unfold maxLen;omega,by simpa using l, ?_⟩⟩,rfl,G6 w _,by simp⟩
 ·have j:(ps.toArray.map fun (i,x)=>(i,a.eval x)).toList=I8 0 vs:=by
   rw [← Ja H ps 0 xs vs A F];simp
  have B:∀(b:Array Value),b.size=k→Instr.fill (fun i=>some (i*1,1)) b (I8 0 vs)=some vs.toArray:=fun b L=>by
   rw [Lp vs 0 b (by omega) g];simp
  have r:(zeroValue e).run P w= .ok zv w:=by simp [zeroValue,typeInfo,q,p]
  have hs:=o.s w
  simp only [execOp,Instr.buildSlice,Sem.run_bind,run_underlying o.u,Result.andThen_ok,hs,Sem.run_ite,if_neg f,Sem.run_pure,j]
  by_cases h0:k*1=0
  ·have:vs=[]:=eq_nil_of_length_eq_zero (by omega)
   subst this
   obtain rfl:k=0:=by simpa using l.symm
   have C:Array.range 0= #[]:=rfl
   simp [I8,Instr.fill,newRow,C]
  ·simp only [if_neg h0,r,Result.andThen_ok]
   rw [B _ (by simp)]
   simp [newRow]
 ·rw [take_of_length_le (by simp [l])]
end
section
variable {P : Program} {Q : BZ} {n : Nat} {E : CR} {w : World} {l0 rest : List Oper} {ty t : TypeId} {pos : String} {af : Array Edge} {x : Operand} {d : Nat}
theorem B8 {b o f:Nat} {c:Array Field} {a:Field} (i:P.underlying t=some (.struct c)) (h:(c[f]?,ev E x)=(some a,some (.pointer (some ⟨b,o,none⟩)))) (g:(sizeOf a.type).run P w= .ok (0+1) w):Ex P n E (.fieldAddr t x f) ty w (.pointer (some ⟨b,o+a.offset,none⟩)):=Fi (q:=0) i (congrArg Prod.fst h) g (congrArg Prod.snd h)
theorem Ba {b o f:Nat} {c:Array Field} {a:Field} (i:P.underlying t=some (.struct c)) (h:(c[f]?,ev E x,Nat.blt d n)=(some a,some (.pointer (some ⟨b,o,none⟩)),true)) (g:(sizeOf a.type).run P w= .ok (0+1) w) (k:Lw P l0 Q n rest ((d, .pointer (some ⟨b,o+a.offset,none⟩))::E) w):Lw P l0 Q n (⟨some d, .fieldAddr t x f,ty,pos,af,none⟩::rest) E w:=Aa (Fi (q:=0) i (congrArg (·.1) h) g (congrArg (·.2.1) h)) (congrArg (·.2.2) h) k
end

section
variable {P : Program} {ops : Array Oper} {md : Region.Mode} {C : World → Prop}
def Ig (P:Program) (md:Region.Mode) (ops:Array Oper) (C:World→Prop) (n:Nat) (L:Array Bool→Act→Prop):Nat→Array Bool→Act→Prop
 |0,listed,a=>L listed a
 |f+1,listed,a=>
  Region.ready md ops listed≠[]∧∀i ∈ Region.ready md ops listed,i<n∧qOp P ops C i (Ig P md ops C n L f (listed.setIfInBounds i true)) a
theorem Hk {n g:Nat} {L:Array Bool→Act→Prop} {Q' :Exit→Act→World→Prop} (l:∀b a w,C w→L b a→wpAny P md ops Q' g b a w):
  ∀(f:Nat) (b:Array Bool) (a:Act) (w:World),C w→Ig P md ops C n L f b a→wpAny P md ops Q' (f+g) b a w
 |0,b,a,w,hw,h=>by rw [Nat.zero_add];exact l _ _ _ hw h
 |f+1,b,a,w,hw,h=>by
  rw [show f+1+g=(f+g)+1 by omega]
  exact ⟨fun q=>absurd q h.1,fun i r=>wpOp_of_qOp hw (fun p o k m=>Hk l f _ p o k m) (h.2 i r).2⟩
theorem KA {n i:Nat} {M:Oper} {v:Value} {L:Array Bool→Act→Prop} (X:ops[i]? =some M) (B:∀(j:Nat) (o:Oper) cs b,ops[j]? =some o→o.op≠ .select cs b)
  (hs:Region.sinkB md ops n=true) (hc:Region.chainB md ops n=true) (Z:n<ops.size) (R:i<n)
  (G:∀g a,L g a→∀j ∈ Region.ready md ops g,n≤j):
  ∀(f:Nat) (g:Array Bool) (a:Act),HeadInv md ops n g→
   (∀j J,ops[j]? =some J→j≠i→g.getD j true=false→(∀e ∈ J.after,Region.binds md e=true→e.on≠i)→M.apart ops J=true)→
   i ∈ Region.ready md ops g→YieldsIn P ops C M v a→
   Ig P md ops C n L f (g.setIfInBounds i true) (a.put M.dst v)→Ig P md ops C n L (f+1) g a:=by
 intro f
 induction f with
 |zero=>
  intro g a q _ D T H
  have l:=(mem_ready.1 D).1
  refine ⟨fun h=>(by rw [h] at D;cases D),fun j I=> ?_⟩
  have r:j<n:=by
   rcases Nat.lt_or_ge j n with h|h
   ·exact h
   ·exact absurd I (tail_waits hs hc Z q _ i rfl R l j h)
  refine ⟨r, ?_⟩
  by_cases hji:j=i
  ·subst hji;exact T.qOp X H
  ·have:=G _ _ H j (ready_mono I hji)
   omega
 |succ f ih=>
  intro g a q m D T H
  have l:=(mem_ready.1 D).1
  refine ⟨fun h=>(by rw [h] at D;cases D),fun j I=> ?_⟩
  have r:j<n:=by
   rcases Nat.lt_or_ge j n with h|h
   ·exact h
   ·exact absurd I (tail_waits hs hc Z q _ i rfl R l j h)
  refine ⟨r, ?_⟩
  by_cases hji:j=i
  ·subst hji;exact T.qOp X H
  ·have S:=(H.2 j (ready_mono I hji)).2
   obtain ⟨A,J,F,hall⟩:=mem_ready.1 I
   have N:∀e ∈ J.after,Region.binds md e=true→e.on≠i:=fun e he hb W=>by
    have S:=hall e he hb
    rw [W,getD_both l] at S
    cases S
   have h2:=qOp_put F (m j J F hji A N) (fun cs b=>B i M cs b X) (fun cs b=>B j J cs b F) T S
   have p:∀k ok,ops[k]? =some ok→k≠i→(g.setIfInBounds j true).getD k true=false→
     (∀e ∈ ok.after,Region.binds md e=true→e.on≠i)→M.apart ops ok=true:=fun k ok hk V l U=>by
    refine m k ok hk V ?_ U
    by_cases hjk:j=k
    ·subst hjk;exact A
    ·rw [getD_set_ne true hjk] at l;exact l
   refine qOp_mono (fun a' Y=>ih (g.setIfInBounds j true) a' (q.set I r) p (ready_mono D (Ne.symm hji)) Y.1 ?_) h2
   rw [Array.setIfInBounds_comm _ _ hji]
   exact Y.2
theorem IW {n g:Nat} {D:Act→Prop} (m:Region.noSelect ops=true) (hs:Region.sinkB md ops n=true) (H:Region.chainB md ops n=true) (G:n<ops.size):
  ∀(l:List Oper) (k:Nat) (b:Array Bool) (a:Act),(∀j,j<l.length→l[j]? =ops[k+j]?)→k+l.length=n→HeadInv md ops n b→
  Region.lexHead md ops g l.length k b=true→wpQuiet P ops C D l a→
  Ig P md ops C n (fun f F=>Region.seqB md ops g n f=true∧D F) l.length b a
 |[],k,b,a,_,hk,_,hB,h=>by
  have:k=n:=by simpa using hk
  subst this
  exact ⟨by simpa [Region.lexHead] using hB,h⟩
 |o::l,k,b,a,hl,hk,inv,hB,h=>by
  have r:ops[k]? =some o:=by simpa using (hl 0 (by simp)).symm
  simp only [length_cons,Region.lexHead,Bool.and_eq_true] at hB
  obtain ⟨⟨L,I⟩,B⟩:=hB
  have p:k<n:=by simp only [length_cons] at hk;omega
  have q:k ∈ Region.ready md ops b:=by simpa using L
  have A:qOp P ops C k (wpQuiet P ops C D l) a:=by unfold qOp;simp only [r];exact h
  obtain ⟨v,J,M⟩:=yieldsIn_of_qOp r A
  exact KA r (Region.noSelect_spec m) hs H G p (fun f F N=>seqB_ready N.1) l.length b a inv (Region.free_spec r I) q J
   (IW m hs H G l (k+1) _ _ (fun j R=>by have:=hl (j+1) (by simp;omega);simpa [Nat.add_assoc,Nat.add_comm 1 j] using this) (by simp only [length_cons] at hk;omega) (inv.set q p) B M)
theorem Hj {N:Nat} {Q:Exit→Act→World→Prop} {a:Act} {w:World} {l:List Oper} (n:Nat) (S:P.follows .mixedOrders=true) (J:Region.lexTailB .any l.toArray n=true) (L:C {w with drawn:=w.drawn+1})
  (h:wpQuiet P l.toArray C (fun A=>∀k,C k→wpList P l.toArray Q (l.drop n) A k) (l.take n) a):(Code.region N l.toArray true).wp P Q a w:=by
 simp only [Region.lexTailB,Bool.and_eq_true,decide_eq_true_eq] at J
 obtain ⟨⟨⟨⟨p,G⟩,hs⟩,T⟩,o⟩:=J
 have R:n<l.length:=by simpa using G
 have b:(l.take n).length=n:=by simp;omega
 have q:(l.drop n).length=l.toArray.size - n:=by simp
 have m:HeadInv .any l.toArray n (Array.replicate l.toArray.size false):=
  ⟨by simp,fun j U _ F=>(by rw [getD_replicate_false] at F;cases F),fun t _ M=>getD_in (by simpa using M) (getD_replicate_false _ _)⟩
 have H:=IW (P:=P) (C:=C) (md:= .any) (g:=l.toArray.size - n) p hs T G (l.take n) 0 _ a (fun j I=>by
  have B:j<n:=by rw [b] at I;exact I
  simp [B]) (by simpa using b) m (by rw [b];exact o) h
 refine wp_region_any S ?_
 have:=Hk (Q' :=Q) (g:=l.toArray.size - n) (fun f A k r D=>by
  have:=wpAny_of_seq (md:= .any) (Q' :=Q) (l.drop n) n f A k (fun j=>by simp [getElem?_drop]) (by rw [q];exact D.1) (D.2 k r)
  rwa [q] at this) _ _ _ _ L H
 rw [b,show n+(l.toArray.size - n)=l.toArray.size by omega] at this
 exact this
end
section
variable {P : Program} {ops : Array Oper} {md : Region.Mode} {C : World → Prop}
end
def AG (Q:BZ):Prop:=∀c a w o v,Q (.panic c) (Act.put a o v) w→Q (.panic c) a w
theorem Br {P:Program} {a:Func} {R:Value→World→Prop}:AG (SJ P a R):=fun _ _ _ _ _ h=>by
 obtain ⟨_,v,b,_⟩:=h;cases b
theorem Am {K:Act→World→Prop} {Q:BZ} (h:AG Q):AG (CQ K Q):=fun c a w o v b=>h c a w o v b
theorem Bf {b:Nat} {Q:BZ} (h:AG Q):AG (HM b Q):=fun c a w o v f=>h c a w o v f
def Qw (P:Program) (l0:List Oper) (C:World→Prop) (K:Act→Prop) (n:Nat) (l:List Oper) (E:CR):Prop:=∀a,CE n E a→wpQuiet P l0.toArray C K l a
def Aw (P:Program) (l0:List Oper) (Q:BZ) (n fuel:Nat) (listed:Array Bool) (E:CR) (w:World):Prop:=∀a,CE n E a→wpAny P .any l0.toArray Q fuel listed a w
section
variable {P : Program} {Q : BZ} {n : Nat} {E : CR} {w : World} {l0 rest : List Oper} {ty : TypeId} {pos : String} {af : Array Edge} {C : World → Prop} {K : Act → Prop}
theorem G9 (w:World):Below w.heap.size w {w with drawn:=w.drawn+1}:=⟨rfl,rfl,rfl,AU _,fun _ _=>rfl⟩
theorem Da {f:Nat} {l:List Oper} (g:P.follows .mixedOrders=true) (o:Region.lexB .any l.toArray=true) (h:Qw P l (Below w.heap.size w) (fun m=>∀b,Below w.heap.size w b→Q .normal m b) n l E):
  Cw P Q n (.region f l.toArray true) E w:=fun a k=>wp_region_quiet (C:=Below w.heap.size w) g o (G9 w) (by simpa using h a k)
theorem Cw.tail {f:Nat} {l:List Oper} (k:Nat) (g:P.follows .mixedOrders=true) (p:Region.lexTailB .any l.toArray k=true)
  (h:Qw P l (Below w.heap.size w) (fun o=>∀b,Below w.heap.size w b→wpList P l.toArray Q (l.drop k) o b) n (l.take k) E):Cw P Q n (.region f l.toArray true) E w:=fun a m=>
 Hj (C:=Below w.heap.size w) k g p (G9 w) (h a m)
theorem C2 (h:∀b,C b→Pw n E (Q .normal) b):Qw P l0 C (fun k=>∀b,C b→Q .normal k b) n [] E:=fun a g=>wpQuiet_nil fun b f=>h b f a g
theorem D0 {l:List Oper} (h:∀b,C b→Lw P l0 Q n l E b):Qw P l0 C (fun k=>∀b,C b→wpList P l0.toArray Q l k b) n [] E:=fun a g=>wpQuiet_nil fun b f=>h b f a g
theorem Ah {d:Nat} {b:Op} {v:Value} (h:∀w,C w→Ex P n E b ty w v) (g:Nat.blt d n=true) (k:Qw P l0 C K n rest ((d,v)::E)):Qw P l0 C K n (⟨some d,b,ty,pos,af,none⟩::rest) E:=fun a f=>by
 refine wpQuiet_step fun o m=> ?_
 rw [if_pos (by simp [Region.wanted])]
 refine ⟨v,fun w l=> ?_,m _ (k _ (f.put v g))⟩
 unfold Oper.quietAt
 rw [h w l a f]
 exact ⟨rfl,rfl⟩
theorem Db {d:Nat} {f:FuncId} {xs:List Operand} {vs:List Value} {ts:Array TypeId} {v:Value} (B:evs E xs=some vs) (m:Nat.blt d n=true) (g:∀w,C w→AK P f vs w (fun r h=>r=v∧C h))
  (k:Qw P l0 C K n rest ((d,v)::E)):Qw P l0 C K n (⟨some d, .call {callee:= .value (.func f),args:=xs.toArray,argTypes:=ts},ty,pos,af,none⟩::rest) E:=fun a l=>by
 refine wpQuiet_step fun D p=> ?_
 rw [if_pos (by simp [Region.wanted])]
 refine ⟨v,fun w b=> ?_,p _ (k _ (l.put v m))⟩
 unfold Oper.quietAt
 rw [Xc.mk (g w b).1 B a l]
 exact ⟨rfl,(g w b).2.mono fun e h ⟨u,o,q,A⟩=>by subst o;subst q;exact ⟨rfl,A⟩⟩
theorem Ew {l:List Oper} (d:Nat) {v v' :Value} (g:get E d=some v) (k:v=v') (h:Qw P l0 C K n l ((d,v')::E)):Qw P l0 C K n l E:=fun a b=>h a<|by
 subst k
 refine ⟨b.dfr,b.size,fun i u f=> ?_⟩
 by_cases hi:d=i
 ·subst hi;rw [CN] at f;exact b.has _ _ (g.trans f)
 ·rw [DL _ _ hi] at f;exact b.has _ _ f
theorem Dj {l:List Oper} (d:Nat) {g:Bool} (b:get E d=some (.bool g)) (a:g=true→Qw P l0 C K n l ((d, .bool true)::E)) (f:g=false→Qw P l0 C K n l ((d, .bool false)::E)):Qw P l0 C K n l E:=by
 cases g with
 |true=>exact Ew d b rfl (a rfl)
 |false=>exact Ew d b rfl (f rfl)
theorem Bb {d:Option Tmp} {f:Op} {j dj:Nat} {g:Bool} (l:(DY l0 j).bind (·.dst)=some dj) (m:get E dj=some (.bool g))
  (h:Qw P l0 C K n (⟨d,f,ty,pos,af,none⟩::rest) E):Qw P l0 C K n (⟨d,f,ty,pos,af,some (j,g)⟩::rest) E:=fun a k=>by
 have b:=h a k
 unfold wpQuiet at b ⊢
 rw [if_pos (by simp [Region.wanted])] at b
 rw [if_pos (by simp [Region.wanted,FF k l m])]
 exact b
theorem Au {d:Nat} {l:Op} {j dj:Nat} {g b:Bool} (m:(DY l0 j).bind (·.dst)=some dj) (p:get E dj=some (.bool b)) (o:(g==b)=false) (k:Nat.blt d n=true)
  (h:Qw P l0 C K n rest ((d,undef)::E)):Qw P l0 C K n (⟨some d,l,ty,pos,af,some (j,g)⟩::rest) E:=fun a f=>by
 unfold wpQuiet
 rw [if_neg]
 ·exact h _ (f.put _ k)
 ·simp only [Region.wanted,FF f m p]
  cases g<;>cases b<;>simp_all
theorem Cw.any {f:Nat} {l:List Oper} (g:P.follows .mixedOrders=true) (h:∀b,Below w.heap.size w b→b.heap.size=w.heap.size→Aw P l Q n l.length (Array.replicate l.length false) E b):Cw P Q n (.region f l.toArray true) E w:=fun a k=>
 wp_region_any g (by simpa using h _ (G9 w) rfl a k)
theorem Aw.take {i d f:Nat} {g:Op} {v:Value} {b:Array Bool} (A:AG Q) (B:DY l0 i=some ⟨some d,g,ty,pos,af,none⟩) (hs:Region.noSelect l0.toArray=true) (p:Region.free .any l0.toArray b i=true)
  (r:(Region.ready .any l0.toArray b).contains i=true) (h:∀w,Ex P n E g ty w v) (o:Nat.blt d n=true) (k:Aw P l0 Q n f (b.setIfInBounds i true) ((d,v)::E) w):Aw P l0 Q n (f+1) b E w:=fun a m=>
 wpAny_take (by rw [getElem?_toArray,CX];exact B) hs p r (fun c D l q=>A _ _ _ _ _ q) (.inl ⟨by simp [Region.wanted],fun l=>h l a m (some d) pos af none⟩) (k _ (m.put v o))
theorem Aw.all {f:Nat} {b:Array Bool} (g:List Nat) (m:Region.ready .any l0.toArray b=g) (l:g≠[])
  (h:∀i ∈ g,∀o,DY l0 i=some o→Pw n E (fun a w=>wpOp P l0.toArray Q i (fun B r=>wpAny P .any l0.toArray Q f (b.setIfInBounds i true) B r) a w) w):Aw P l0 Q n (f+1) b E w:=fun a A=>
 wpAny_all m l fun i p=>by
  have k:i<l0.length:=by
   have:i ∈ Region.ready .any l0.toArray b:=m ▸ p
   obtain ⟨_,o,q,_⟩:=mem_ready.1 this
   have:=(Array.getElem?_eq_some_iff.1 q).1
   simpa using this
  exact h i p l0[i] (by rw [← CX,getElem?_eq_getElem k]) a A
theorem D7 {f:Nat} {b:Array Bool} (k:Region.ready .any l0.toArray b=[]) (h:Pw n E (Q .normal) w):Aw P l0 Q n f b E w:=fun a g=>wpAny_done k (h a g) f
theorem Pw.one {i f:Nat} {o:Oper} {b:Array Bool} (q:DY l0 i=some o) (h:Lw P l0 (CQ (fun k g=>wpAny P .any l0.toArray Q f (b.setIfInBounds i true) k g) Q) n [o] E w):
  Pw n E (fun a w=>wpOp P l0.toArray Q i (fun k g=>wpAny P .any l0.toArray Q f (b.setIfInBounds i true) k g) a w) w:=fun a A=>by
 have l:=h a A
 have p:l0.toArray[i]? =some o:=by rw [getElem?_toArray,CX];exact q
 unfold wpList at l
 unfold wpOp
 simp only [p]
 have B:wpList P l0.toArray (CQ (fun k g=>wpAny P .any l0.toArray Q f (b.setIfInBounds i true) k g) Q) []=fun k g=>wpAny P .any l0.toArray Q f (b.setIfInBounds i true) k g:=by
  funext k g;rfl
 rw [B] at l
 split at l
 ·rename_i m
  rw [if_pos m]
  refine l.imp (fun h=> ?_) (fun h=>h)
  unfold Oper.wp at*
  generalize (execOp a.eval o).run P w=r at*
  cases r with
  |ok nx g=>cases nx<;>exact h
  |halt x g=>cases x<;>exact h
 ·rename_i m
  rw [if_neg m];exact l
theorem Aw.only {i b:Nat} {o:Oper} {a:Array Bool} (p:Region.ready .any l0.toArray a=[i]) (g:DY l0 i=some o)
  (h:Lw P l0 (CQ (fun m k=>wpAny P .any l0.toArray Q b (a.setIfInBounds i true) m k) Q) n [o] E w):Aw P l0 Q n (b+1) a E w:=
 Aw.all [i] p (by simp) fun j l q f=>by
  obtain rfl:j=i:=by simpa using l
  obtain rfl:q=o:=Option.some.inj (f.symm.trans g)
  exact Pw.one g h
theorem F9 {i j b:Nat} {o q:Oper} {a:Array Bool} (D:Region.ready .any l0.toArray a=[i,j]) (r:DY l0 i=some o) (A:DY l0 j=some q)
  (h:Lw P l0 (CQ (fun p l=>wpAny P .any l0.toArray Q b (a.setIfInBounds i true) p l) Q) n [o] E w)
  (k:Lw P l0 (CQ (fun p l=>wpAny P .any l0.toArray Q b (a.setIfInBounds j true) p l) Q) n [q] E w):Aw P l0 Q n (b+1) a E w:=
 Aw.all [i,j] D (by simp) fun m g B f=>by
  rcases List.mem_cons.1 g with rfl|g
  ·obtain rfl:B=o:=Option.some.inj (f.symm.trans r)
   exact Pw.one r h
  ·obtain rfl:m=j:=by simpa using g
   obtain rfl:B=q:=Option.some.inj (f.symm.trans A)
   exact Pw.one A k
theorem Aw.back {f:Nat} {b:Array Bool} {l:List Oper} (h:Aw P l0 Q n f b E w):Lw P l (CQ (fun m g=>wpAny P .any l0.toArray Q f b m g) Q) n [] E w:=fun a k=>wpList_nil (h a k)
theorem BL {α:Type} {enc:α→Value} (h:∀x,(enc x).oneCell' =true) (l:List α):(l.map enc).all (·.oneCell')=true:=by simp [h]
def Twn {α:Type} (w:World) (base:Nat) (T:TypeId) (enc:α→Value) (mark:Value) (v:Value) (l:List α):Prop:=
 ∃b cap,v= .slice (some ⟨b,0,none⟩) l.length cap∧w.ownsRow base T 1 (.slice (some ⟨b,0,none⟩) (l.length+1) cap) (l.length+1) (l.map enc++[mark])
theorem H6 {b cap k m base:Nat} {T:TypeId} {xs r:List Value} (h:w.ownsRow base T 1 (.slice (some ⟨b,0,none⟩) (k+m) cap) (k+m) (xs++r)) (q:xs.length=k):w.ownsRow base T 1 (.slice (some ⟨b,0,none⟩) k cap) k xs:=by
 obtain ⟨I,B⟩:=h
 rcases B with ⟨F,_⟩|⟨g,p,f,A,G,H,D,l,o,a⟩
 ·cases F
 ·cases A
  refine ⟨by simpa using q, .inr ⟨b,cap,f,rfl,G,H,by omega,l,o, ?_⟩⟩
  have:=cngA (take k) a
  rw [take_take,Nat.min_eq_left (by omega)] at this
  simp only [Nat.mul_one] at this ⊢
  rw [this,← q,take_left]
theorem Twn.sl {α:Type} {base:Nat} {T:TypeId} {enc:α→Value} {a v:Value} {l:List α} (h:Twn w base T enc a v l):BO enc w v l:=by
 obtain ⟨b,cap,rfl,f⟩:=h
 exact AF (H6 f (by simp))
theorem Twn.bs {α:Type} {f:World} {base:Nat} {T:TypeId} {enc:α→Value} {a v:Value} {l:List α} (h:Twn w base T enc a v l) (k:Below w.heap.size w f):Twn f base T enc a v l:=by
 obtain ⟨b,cap,rfl,g⟩:=h
 exact ⟨b,cap,rfl,AI g k⟩
variable {x y z : Operand} {v u : Value} {t s e : TypeId} {sz base : Nat}
theorem Mj {P:Program} {w R:World} {base:Nat} {t ty e:TypeId} {i:TypeInfo} {z:Value} {size o:Nat} (G:P.underlying t=some (.slice e)) (H:P.info? e=some i) (N:i.zero=some z)
  (p:i.size=size) (J:i.bytes=o) (W:0<size) {v v' :Value} {n:Nat} {xs:List Value} (l:w.ownsRow base e size v n xs)
  {a:Addr} {m c:Nat} {b:List Value} (D:b.length=m*size) (h:∀j u,b[j]? =some u→w.cell? (a.add j)=some u) (V:∀u ∈ b,u.oneCell' =true)
  (I:n+m≤maxLen) (k:(n+m)*o≤140737488355328) (f:(Builtin.append_ #[t,t] ty #[v, .slice (some a) m c]).run P w= .ok v' R):
  v'.ownBlock=v.ownBlock∨v'.ownBlock=some w.heap.size:=by
 subst p
 subst J
 have F:n+m≤9223372036854775807:=by simp only [maxLen] at I;omega
 rcases l.2 with ⟨rfl,rfl⟩|⟨g,cap,A,rfl,X,U,Y,S,M,L⟩
 ·by_cases hm:m=0
  ·subst hm
   obtain rfl:b=[]:=eq_nil_of_length_eq_zero (by simpa using D)
   have r:(Builtin.append_ #[t,t] ty #[.slice none 0 0, .slice (some a) 0 c]).run P w= .ok (.slice none 0 0) w:=by
    simp [Builtin.append_,run_underlying G,sizeOf,typeInfo,H,Builtin.lenOf,Builtin.firstCells,loadCells,loadCellsFrom]
   rw [r] at f
   cases f
   exact .inl rfl
  ·have r:=run_append_nil (P:=P) w t ty e i z G H N a m c b D h (by omega) (by omega) (by have T:=k;simp only [Nat.zero_add] at T;omega)
   rw [r] at f
   cases f
   exact .inr rfl
 ·by_cases hroom:n+m≤cap
  ·have B:n*i.size+b.length≤A.size:=by rw [D,M,← Nat.add_mul];exact Nat.mul_le_mul_right _ hroom
   have r:=run_append_room (P:=P) w t ty e i G H g n cap A U a m c b D h V hroom B
   rw [r] at f
   cases f
   exact .inl rfl
  ·have q:∀j u,xs[j]? =some u→w.cell? ((⟨g,0,none⟩:Addr).add j)=some u:=l.cells (g:=g) rfl
   have r:=run_append_grow (P:=P) w t ty e i z G H N ⟨g,0,none⟩ n cap xs l.1 q a m c b D h (by omega) (by omega) (growslice_fits (by omega) k)
   rw [r] at f
   cases f
   exact .inr rfl
theorem Cn {k m:Nat} {xs b:List Value} {g:Nat} {A:List Value} (D:FO P t e sz) (hi:Hg P e A g) (M:A.length=sz) (W:0<sz) (Z:ev E x=some v) (X:ev E y=some u)
  (f:w.ownsRow base e sz v k xs) (G:Sl w sz u m b) (F:b.all (·.oneCell')=true) (p:(k+m)*g≤140737488355328) (hm:k+m≤9223372036854775807) (h:base≤w.heap.size):
  Xw P n E (.call {callee:= .builtin .append,args:= #[x,y],argTypes:= #[t,t]}) ty w (fun v' o=>o.ownsRow base e sz v' (k+m) (xs++b)∧Below base w o∧w.grownBy o v.ownBlock∧(v'.ownBlock=v.ownBlock∨v'.ownBlock=some w.heap.size)):=fun a I=>by
 subst M
 have q:∀o,w.grownBy o v.ownBlock→Below base w o:=fun o hg=>EU hg h fun k hk=>(AB f k hk).1
 obtain ⟨i,J,T,Y,zv,V,h5⟩:=hi.i
 obtain ⟨N,ao,cap,rfl,hc1,hc2,S,B⟩:=G
 have R:zv.cells.size=A.length:=by rw [h5];simp
 cases ao with
 |none=>
  have h0:=S rfl
  have L:m=0:=by omega
  subst L
  obtain rfl:b=[]:=eq_nil_of_length_eq_zero (by simpa using N)
  subst h0
  have H:=run_append_owned_none (P:=P) w base t ty e i A.length D.u J v k xs f
  refine ⟨v,w,fun _ _ _ _=>by simp [execOp,resolve,invoke,builtin,I.ev Z,I.ev X,H],by simpa using f,q _ (G8 _ _),G8 _ _, .inl rfl⟩
 |some ad=>
  have r:k+m≤maxLen:=by unfold maxLen;omega
  have l:∀u ∈ b,u.oneCell' =true:=fun u D=>List.all_eq_true.1 F u D
  obtain ⟨v',o,H,g1,U,g3⟩:=run_append_own (P:=P) w base t ty e i zv A.length g D.u J V T Y R W v k xs f ad m cap b N (B ad rfl) l r p h
  exact ⟨v',o,fun _ _ _ _=>by simp [execOp,resolve,invoke,builtin,I.ev Z,I.ev X,H],g1,q _ U,U,Mj D.u J V T Y W f N (B ad rfl) l r p H⟩
theorem De {k m:Nat} {xs b:List Value} {f:Nat} {A:List Value} (I:FO P t e sz) (L:Hg P e A f) (r:A.length=sz) (G:0<sz) (M:ev E x=some v) (H:ev E y=some u)
  (h:w.ownsRow base e sz v k xs) (q:Sl w sz u m b) (p:b.all (·.oneCell')=true) (o:(k+m)*f≤140737488355328) (N:k+m≤9223372036854775807) (g:base≤w.heap.size):
  Xw P n E (.call {callee:= .builtin .append,args:= #[x,y],argTypes:= #[t,t]}) ty w (fun v' l=>l.ownsRow base e sz v' (k+m) (xs++b)∧Below base w l∧w.grownBy l v.ownBlock):=fun a R=>by
 obtain ⟨v',l,F,B,J,D,_⟩:=Cn I L r G M H h q p o N g a R
 exact ⟨v',l,F,B,J,D⟩
def K9 (v u:Value):Prop:=∀b,v.ownBlock=some b→u.ownBlock≠some b
theorem K9.symm {v u:Value} (h:K9 v u):K9 u v:=fun b a f=>h b f a
theorem AK.q {f:FuncId} {args:List Value} {a:World} (h:AK P f args a (fun r b=>r=v∧Below a.heap.size a b)) (k:Below w.heap.size w a):AK P f args a (fun r b=>r=v∧Below w.heap.size w b):=
 h.mono fun _ _ g=>⟨g.1,K6 k g.2 (AU _)⟩
def cut (v:Value) (sz i j:Nat):Value:=match v with
 | .slice ao _ cap=> .slice (if cap=i then ao else ao.map (·.add (i*sz))) (j - i) (cap - i)
 |_=>undef
theorem Sl.cut {c i j:Nat} {xs:List Value} (h:Sl w sz v c xs) (q:i≤j) (o:j≤c):Sl w sz (cut v sz i j) (j - i) ((xs.drop (i*sz)).take ((j - i)*sz)):=by
 obtain ⟨m,l,cap,rfl,H,G,A,p⟩:=h
 refine ⟨?_,_,cap - i,rfl,by omega,by omega,fun D=> ?_,fun a f k u b=> ?_⟩
 ·have F:j*sz=i*sz+(j - i)*sz:=by rw [← Nat.add_mul];congr 1;omega
  have I:j*sz≤c*sz:=Nat.mul_le_mul_right _ o
  rw [length_take,length_drop,m];omega
 ·split at D
  ·omega
  ·have:=A (by cases l<;>simp_all);omega
 ·have g:k<(j - i)*sz:=by
   rw [getElem?_take] at b
   split at b
   ·assumption
   ·cases b
  rw [getElem?_take,if_pos g,getElem?_drop] at b
  split at f
  ·rename_i B
   have r:(j - i)=0:=by omega
   rw [r] at g;simp at g
  ·cases l with
   |none=>simp at f
   |some ad=>
    simp only [Option.map_some,Option.some.injEq] at f
    subst f
    rw [Hy]
    exact p ad rfl _ _ b
theorem BO.cut {α:Type} {enc:α→Value} {l:List α} {i j:Nat} (h:BO enc w v l) (a:i≤j) (b:j≤l.length):BO enc w (Dd.cut v 1 i j) ((l.drop i).take (j - i)):=by
 have:=Sl.cut h a b
 have e:((l.drop i).take (j - i)).length=j - i:=by simp;omega
 unfold BO
 rw [e]
 simpa [map_take,map_drop] using this
theorem BO.take {α:Type} {enc:α→Value} {l:List α} {j:Nat} (h:BO enc w v l) (a:j≤l.length):BO enc w (Dd.cut v 1 0 j) (l.take j):=by
 simpa using BO.cut h (Nat.zero_le j) a
theorem BO.drop {α:Type} {enc:α→Value} {l:List α} {i:Nat} (h:BO enc w v l) (a:i≤l.length):BO enc w (Dd.cut v 1 i l.length) (l.drop i):=by
 have:=BO.cut h a (AU _)
 rwa [take_of_length_le (by simp)] at this
section
variable {k1 k2 : IntKind} {c i j : Nat} {xs : List Value} {y2 : Operand}
theorem Ex.cutLHv (b:FO P t e sz) (r:ev E x=some v) (o:ev E y=some (.int k1 (i:Int))) (p:ev E y2=some (.int k2 (j:Int))) (h:OS v c) (q:i≤j) (B:j≤c):Ex P n E (.slice t x (some y) (some y2) none) ty w (cut v sz i j):=fun a f _ _ _ _=>by
 obtain ⟨l,cap,rfl,D,A,F⟩:=h
 have g:P.underlying t=some (.slice (P.elem t)):=by rw [Program.elem,b.u]
 have m:P.elem t=e:=by rw [Program.elem,b.u]
 have k:=run_slice_lh (P:=P) w t l c cap g k1 k2 (i:Int) (j:Int) (by omega) (by omega) (by omega)
 simp only [Int.toNat_natCast,m,b.s w,Result.andThen_ok] at k
 simp [execOp,f.ev r,f.ev o,f.ev p,Instr.sliceAt,run_underlying b.u,k,sliced,cut]
theorem Ex.cutLH (k:FO P t e sz) (l:ev E x=some v) (b:ev E y=some (.int k1 (i:Int))) (g:ev E y2=some (.int k2 (j:Int))) (h:Sl w sz v c xs) (a:i≤j) (f:j≤c):Ex P n E (.slice t x (some y) (some y2) none) ty w (cut v sz i j):=
 Ex.cutLHv k l b g h.shp a f
theorem Gf (b:FO P t e sz) (p:ev E x=some v) (o:ev E y2=some (.int k2 (j:Int))) (h:OS v c) (r:j≤c):Ex P n E (.slice t x none (some y2) none) ty w (cut v sz 0 j):=fun a g _ _ _ _=>by
 obtain ⟨l,cap,rfl,A,q,B⟩:=h
 have f:P.underlying t=some (.slice (P.elem t)):=by rw [Program.elem,b.u]
 have m:P.elem t=e:=by rw [Program.elem,b.u]
 have k:=run_slice_h (P:=P) w t l c cap f k2 (j:Int) (by omega) (by omega)
 simp only [Int.toNat_natCast,m,b.s w,Result.andThen_ok] at k
 simp [execOp,g.ev p,g.ev o,Instr.sliceAt,run_underlying b.u,k,sliced,cut]
theorem El (f:FO P t e sz) (g:ev E x=some v) (b:ev E y2=some (.int k2 (j:Int))) (h:Sl w sz v c xs) (a:j≤c):Ex P n E (.slice t x none (some y2) none) ty w (cut v sz 0 j):=Gf f g b h.shp a
theorem Ej {b cap:Nat} (f:FO P t e sz) (o:ev E x=some (.slice (some ⟨b,0,none⟩) c cap)) (m:ev E y2=some (.int k2 (j:Int))) (p:j≤cap):Ex P n E (.slice t x none (some y2) none) ty w (.slice (some ⟨b,0,none⟩) j cap):=fun a h _ _ _ _=>by
 have g:P.underlying t=some (.slice (P.elem t)):=by rw [Program.elem,f.u]
 have l:P.elem t=e:=by rw [Program.elem,f.u]
 have k:=run_slice_h (P:=P) w t (some ⟨b,0,none⟩) c cap g k2 (j:Int) (by omega) (by omega)
 simp only [Int.toNat_natCast,l,f.s w,Result.andThen_ok] at k
 simp [execOp,h.ev o,h.ev m,Instr.sliceAt,run_underlying f.u,k,sliced,add_lit]
theorem Fj (b:FO P t e sz) (p:ev E x=some v) (o:ev E y=some (.int k1 (i:Int))) (h:OS v c) (B:i≤c):Ex P n E (.slice t x (some y) none none) ty w (cut v sz i c):=fun a g _ _ _ _=>by
 obtain ⟨l,cap,rfl,r,q,A⟩:=h
 have f:P.underlying t=some (.slice (P.elem t)):=by rw [Program.elem,b.u]
 have m:P.elem t=e:=by rw [Program.elem,b.u]
 have k:=run_slice_l (P:=P) w t l c cap f k1 (i:Int) (by omega) (by omega)
 simp only [Int.toNat_natCast,m,b.s w,Result.andThen_ok] at k
 simp [execOp,g.ev p,g.ev o,Instr.sliceAt,run_underlying b.u,k,sliced,cut]
theorem Ey (b:FO P t e sz) (g:ev E x=some v) (a:ev E y=some (.int k1 (i:Int))) (h:Sl w sz v c xs) (f:i≤c):Ex P n E (.slice t x (some y) none none) ty w (cut v sz i c):=Fj b g a h.shp f
end
end
section
variable {P : Program} {Q : BZ} {n : Nat} {E : CR} {l0 rest : List Oper} {ty : TypeId} {pos : String} {af : Array Edge} {x : Operand} {v : Value} {d : Nat} {C : World → Prop} {K : Act → Prop}
theorem Bq (h:(ev E x,Nat.blt d n)=(some v,true)) (k:Qw P l0 C K n rest ((d,v)::E)):Qw P l0 C K n (⟨some d, .move x,ty,pos,af,none⟩::rest) E:=Ah (fun _ _=>B4 (congrArg Prod.fst h)) (congrArg Prod.snd h) k
theorem Dx (h:(ev E x,Nat.blt d n)=(some v,true)) (k:Qw P l0 C K n rest ((d,v)::E)):Qw P l0 C K n (⟨some d, .assign x,ty,pos,af,none⟩::rest) E:=Ah (fun _ _=>Ce (congrArg Prod.fst h)) (congrArg Prod.snd h) k
end
end Go.Dd

namespace Go.Proofs.YtblbopcaflaldaaGreatDoor
open Go Go.Dd List Go.Proofs.Tryz
set_option maxRecDepth 100000
theorem BB:Tryz.prog.follows .mixedOrders=true:=by kernel_rfl
theorem Jt:Tryz.prog.underlying 3=some (.int .i64):=underlying3
theorem Hc:(Tryz.prog.underlying 3).isSome=true:=by rw [Jt];rfl
theorem AO (w:World):(isAgg 3).run prog w= .ok false w:=isAgg3 w
theorem BC (w:World):(sizeOf 3).run prog w= .ok 1 w:=sizeOf3 w
theorem DO:Hg prog 3 [.int .i64 0] 8:=⟨⟨_,(show Tryz.prog.info? 3=some Tryz.t3 by kernel_rfl),rfl,rfl,_,rfl,rfl⟩⟩
theorem VD:Tryz.prog.underlying 4=some (.bool):=underlying4
theorem UM (w:World):(isAgg 4).run prog w= .ok false w:=isAgg4 w
theorem NG (w:World):(sizeOf 4).run prog w= .ok 1 w:=sizeOf4 w
theorem VH:Hg prog 4 [.bool false] 1:=⟨⟨_,(show Tryz.prog.info? 4=some Tryz.t4 by kernel_rfl),rfl,rfl,_,rfl,rfl⟩⟩
theorem GM:Tryz.prog.underlying 5=some (.int .u8):=underlying5
theorem Lx:(Tryz.prog.underlying 5).isSome=true:=by rw [GM];rfl
theorem Hf (w:World):(isAgg 5).run prog w= .ok false w:=isAgg5 w
theorem VE (w:World):(sizeOf 5).run prog w= .ok 1 w:=sizeOf5 w
theorem CY:Hg prog 5 [.int .u8 0] 1:=⟨⟨_,(show Tryz.prog.info? 5=some Tryz.t5 by kernel_rfl),rfl,rfl,_,rfl,rfl⟩⟩
theorem KS:Tryz.prog.underlying 21=some (.int .i32):=underlying21
theorem TU:(Tryz.prog.underlying 21).isSome=true:=by rw [KS];rfl
theorem HK (w:World):(isAgg 21).run prog w= .ok false w:=isAgg21 w
theorem QY (w:World):(sizeOf 21).run prog w= .ok 1 w:=sizeOf21 w
theorem HJ:Hg prog 21 [.int .i32 0] 4:=⟨⟨_,(show Tryz.prog.info? 21=some Tryz.t21 by kernel_rfl),rfl,rfl,_,rfl,rfl⟩⟩
theorem BE:FO prog 22 79 5:=⟨underlying22,sizeOf79⟩
theorem Vc:Tryz.prog.underlying 22=some (.slice 79):=underlying22
theorem CD (w:World):(isAgg 22).run prog w= .ok false w:=isAgg22 w
theorem BU (w:World):(sizeOf 22).run prog w= .ok 1 w:=sizeOf22 w
theorem Gx (w:World):(isAgg 24).run prog w= .ok true w:=isAgg24 w
theorem BX (w:World):(sizeOf 24).run prog w= .ok 1 w:=sizeOf24 w
theorem Vz:Hg prog 24 [.slice none 0 0] 24:=⟨⟨_,(show Tryz.prog.info? 24=some Tryz.t24 by kernel_rfl),rfl,rfl,_,rfl,rfl⟩⟩
theorem BK:FO prog 25 75 2:=⟨underlying25,sizeOf75⟩
theorem Vb:Tryz.prog.underlying 25=some (.slice 75):=underlying25
theorem DD (w:World):(isAgg 25).run prog w= .ok false w:=isAgg25 w
theorem CF (w:World):(sizeOf 25).run prog w= .ok 1 w:=sizeOf25 w
theorem DX (w:World):(isAgg 27).run prog w= .ok true w:=isAgg27 w
theorem DW (w:World):(sizeOf 27).run prog w= .ok 2 w:=sizeOf27 w
theorem Jh:Hg prog 27 [.slice none 0 0, .slice none 0 0] 48:=⟨⟨_,(show Tryz.prog.info? 27=some Tryz.t27 by kernel_rfl),rfl,rfl,_,rfl,rfl⟩⟩
theorem AL:FO prog 28 5 1:=⟨underlying28,sizeOf5⟩
theorem Va:Tryz.prog.underlying 28=some (.slice 5):=underlying28
theorem DM (w:World):(isAgg 28).run prog w= .ok false w:=isAgg28 w
theorem DG (w:World):(sizeOf 28).run prog w= .ok 1 w:=sizeOf28 w
theorem RP:Hg prog 28 [.slice none 0 0] 24:=⟨⟨_,(show Tryz.prog.info? 28=some Tryz.t28 by kernel_rfl),rfl,rfl,_,rfl,rfl⟩⟩
theorem Iq:FO prog 39 179 3:=⟨underlying39,sizeOf179⟩
theorem Jr (w:World):(isAgg 39).run prog w= .ok false w:=isAgg39 w
theorem HH (w:World):(sizeOf 39).run prog w= .ok 1 w:=sizeOf39 w
theorem Ip:FO prog 40 182 3:=⟨underlying40,sizeOf182⟩
theorem Jq (w:World):(isAgg 40).run prog w= .ok false w:=isAgg40 w
theorem HG (w:World):(sizeOf 40).run prog w= .ok 1 w:=sizeOf40 w
theorem Im:FO prog 41 185 3:=⟨underlying41,sizeOf185⟩
theorem Jp (w:World):(isAgg 41).run prog w= .ok false w:=isAgg41 w
theorem HF (w:World):(sizeOf 41).run prog w= .ok 1 w:=sizeOf41 w
theorem Rj:FO prog 42 188 3:=⟨underlying42,sizeOf188⟩
theorem SE (w:World):(isAgg 42).run prog w= .ok false w:=isAgg42 w
theorem QX (w:World):(sizeOf 42).run prog w= .ok 1 w:=sizeOf42 w
theorem Ri:FO prog 43 191 3:=⟨underlying43,sizeOf191⟩
theorem SD (w:World):(isAgg 43).run prog w= .ok false w:=isAgg43 w
theorem QW (w:World):(sizeOf 43).run prog w= .ok 1 w:=sizeOf43 w
theorem Il:FO prog 44 194 3:=⟨underlying44,sizeOf194⟩
theorem Jo (w:World):(isAgg 44).run prog w= .ok false w:=isAgg44 w
theorem HE (w:World):(sizeOf 44).run prog w= .ok 1 w:=sizeOf44 w
theorem Ik:FO prog 45 197 3:=⟨underlying45,sizeOf197⟩
theorem Jn (w:World):(isAgg 45).run prog w= .ok false w:=isAgg45 w
theorem HD (w:World):(sizeOf 45).run prog w= .ok 1 w:=sizeOf45 w
theorem Rh:FO prog 46 201 3:=⟨underlying46,sizeOf201⟩
theorem SC (w:World):(isAgg 46).run prog w= .ok false w:=isAgg46 w
theorem QV (w:World):(sizeOf 46).run prog w= .ok 1 w:=sizeOf46 w
theorem Rg:FO prog 47 208 3:=⟨underlying47,sizeOf208⟩
theorem SB (w:World):(isAgg 47).run prog w= .ok false w:=isAgg47 w
theorem QU (w:World):(sizeOf 47).run prog w= .ok 1 w:=sizeOf47 w
theorem Rf:FO prog 48 214 3:=⟨underlying48,sizeOf214⟩
theorem SA (w:World):(isAgg 48).run prog w= .ok false w:=isAgg48 w
theorem QT (w:World):(sizeOf 48).run prog w= .ok 1 w:=sizeOf48 w
theorem Re:FO prog 49 220 3:=⟨underlying49,sizeOf220⟩
theorem S9 (w:World):(isAgg 49).run prog w= .ok false w:=isAgg49 w
theorem QS (w:World):(sizeOf 49).run prog w= .ok 1 w:=sizeOf49 w
theorem Rd:FO prog 50 226 3:=⟨underlying50,sizeOf226⟩
theorem S8 (w:World):(isAgg 50).run prog w= .ok false w:=isAgg50 w
theorem QR (w:World):(sizeOf 50).run prog w= .ok 1 w:=sizeOf50 w
theorem Rb:FO prog 51 232 3:=⟨underlying51,sizeOf232⟩
theorem S7 (w:World):(isAgg 51).run prog w= .ok false w:=isAgg51 w
theorem QQ (w:World):(sizeOf 51).run prog w= .ok 1 w:=sizeOf51 w
theorem Ra:FO prog 52 237 3:=⟨underlying52,sizeOf237⟩
theorem S6 (w:World):(isAgg 52).run prog w= .ok false w:=isAgg52 w
theorem QP (w:World):(sizeOf 52).run prog w= .ok 1 w:=sizeOf52 w
theorem QZ:FO prog 53 240 3:=⟨underlying53,sizeOf240⟩
theorem S5 (w:World):(isAgg 53).run prog w= .ok false w:=isAgg53 w
theorem QO (w:World):(sizeOf 53).run prog w= .ok 1 w:=sizeOf53 w
theorem Vy:Hg prog 55 [.int .i64 0, .slice none 0 0, .slice none 0 0, .slice none 0 0, .slice none 0 0, .slice none 0 0, .slice none 0 0, .slice none 0 0, .slice none 0 0, .slice none 0 0, .slice none 0 0, .slice none 0 0, .slice none 0 0, .slice none 0 0, .slice none 0 0, .slice none 0 0] 368:=⟨⟨_,(show Tryz.prog.info? 55=some Tryz.t55 by kernel_rfl),rfl,rfl,_,rfl,rfl⟩⟩
theorem AE:FO prog 70 3 1:=⟨underlying70,sizeOf3⟩
theorem OW:Tryz.prog.underlying 70=some (.slice 3):=underlying70
theorem AN (w:World):(isAgg 70).run prog w= .ok false w:=isAgg70 w
theorem AT (w:World):(sizeOf 70).run prog w= .ok 1 w:=sizeOf70 w
theorem Jg:Hg prog 70 [.slice none 0 0] 24:=⟨⟨_,(show Tryz.prog.info? 70=some Tryz.t70 by kernel_rfl),rfl,rfl,_,rfl,rfl⟩⟩
theorem BP:FO prog 73 21 1:=⟨underlying73,sizeOf21⟩
theorem UZ:Tryz.prog.underlying 73=some (.slice 21):=underlying73
theorem DC (w:World):(isAgg 73).run prog w= .ok false w:=isAgg73 w
theorem CW (w:World):(sizeOf 73).run prog w= .ok 1 w:=sizeOf73 w
theorem FZ (w:World):(isAgg 75).run prog w= .ok true w:=isAgg75 w
theorem FX (w:World):(sizeOf 75).run prog w= .ok 2 w:=sizeOf75 w
theorem EC:Hg prog 75 [.slice none 0 0, .slice none 0 0] 48:=⟨⟨_,(show Tryz.prog.info? 75=some Tryz.t75 by kernel_rfl),rfl,rfl,_,rfl,rfl⟩⟩
theorem EX:Tryz.prog.underlying 77=some (.int .u8):=underlying77
theorem ED (w:World):(isAgg 77).run prog w= .ok false w:=isAgg77 w
theorem EA (w:World):(sizeOf 77).run prog w= .ok 1 w:=sizeOf77 w
theorem EK (w:World):(isAgg 79).run prog w= .ok true w:=isAgg79 w
theorem EH (w:World):(sizeOf 79).run prog w= .ok 5 w:=sizeOf79 w
theorem EJ:Hg prog 79 [.int .u8 0, .slice none 0 0, .slice none 0 0, .int .i64 0, .int .i64 0] 72:=⟨⟨_,(show Tryz.prog.info? 79=some Tryz.t79 by kernel_rfl),rfl,rfl,_,rfl,rfl⟩⟩
theorem Hn:Tryz.prog.underlying 82=some (.int .u32):=underlying82
theorem Ih:(Tryz.prog.underlying 82).isSome=true:=by rw [Hn];rfl
theorem Uf (w:World):(isAgg 82).run prog w= .ok false w:=isAgg82 w
theorem Pa (w:World):(sizeOf 82).run prog w= .ok 1 w:=sizeOf82 w
theorem MR:Hg prog 82 [.int .u32 0] 4:=⟨⟨_,(show Tryz.prog.info? 82=some Tryz.t82 by kernel_rfl),rfl,rfl,_,rfl,rfl⟩⟩
theorem Jm (w:World):(isAgg 97).run prog w= .ok false w:=isAgg97 w
theorem Ve (w:World):(sizeOf 97).run prog w= .ok 1 w:=sizeOf97 w
theorem Vx:Hg prog 97 [.pointer none] 8:=⟨⟨_,(show Tryz.prog.info? 97=some Tryz.t97 by kernel_rfl),rfl,rfl,_,rfl,rfl⟩⟩
theorem UA:Hg prog 106 [] 0:=⟨⟨_,(show Tryz.prog.info? 106=some Tryz.t106 by kernel_rfl),rfl,rfl,_,rfl,rfl⟩⟩
theorem AX:FO prog 149 70 1:=⟨underlying149,sizeOf70⟩
theorem OR (w:World):(isAgg 149).run prog w= .ok false w:=isAgg149 w
theorem JH (w:World):(sizeOf 149).run prog w= .ok 1 w:=sizeOf149 w
theorem EG:FO prog 161 82 1:=⟨underlying161,sizeOf82⟩
theorem SG (w:World):(isAgg 161).run prog w= .ok false w:=isAgg161 w
theorem U9:Hg prog 161 [.slice none 0 0] 24:=⟨⟨_,(show Tryz.prog.info? 161=some Tryz.t161 by kernel_rfl),rfl,rfl,_,rfl,rfl⟩⟩
theorem GH:FO prog 166 28 1:=⟨underlying166,sizeOf28⟩
theorem SF (w:World):(isAgg 166).run prog w= .ok false w:=isAgg166 w
theorem Uo (w:World):(sizeOf 166).run prog w= .ok 1 w:=sizeOf166 w
theorem OQ (w:World):(isAgg 179).run prog w= .ok true w:=isAgg179 w
theorem NM (w:World):(sizeOf 179).run prog w= .ok 3 w:=sizeOf179 w
theorem Ko:Hg prog 179 [.slice none 0 0, .slice none 0 0, .int .i64 0] 56:=⟨⟨_,(show Tryz.prog.info? 179=some Tryz.t179 by kernel_rfl),rfl,rfl,_,rfl,rfl⟩⟩
theorem OP (w:World):(isAgg 182).run prog w= .ok true w:=isAgg182 w
theorem NL (w:World):(sizeOf 182).run prog w= .ok 3 w:=sizeOf182 w
theorem Kn:Hg prog 182 [.slice none 0 0, .slice none 0 0, .int .i64 0] 56:=⟨⟨_,(show Tryz.prog.info? 182=some Tryz.t182 by kernel_rfl),rfl,rfl,_,rfl,rfl⟩⟩
theorem OO (w:World):(isAgg 185).run prog w= .ok true w:=isAgg185 w
theorem NJ (w:World):(sizeOf 185).run prog w= .ok 3 w:=sizeOf185 w
theorem Km:Hg prog 185 [.slice none 0 0, .slice none 0 0, .int .i64 0] 56:=⟨⟨_,(show Tryz.prog.info? 185=some Tryz.t185 by kernel_rfl),rfl,rfl,_,rfl,rfl⟩⟩
theorem ON (w:World):(isAgg 194).run prog w= .ok true w:=isAgg194 w
theorem NI (w:World):(sizeOf 194).run prog w= .ok 3 w:=sizeOf194 w
theorem Kl:Hg prog 194 [.slice none 0 0, .slice none 0 0, .int .i64 0] 56:=⟨⟨_,(show Tryz.prog.info? 194=some Tryz.t194 by kernel_rfl),rfl,rfl,_,rfl,rfl⟩⟩
theorem OM (w:World):(isAgg 197).run prog w= .ok true w:=isAgg197 w
theorem NH (w:World):(sizeOf 197).run prog w= .ok 3 w:=sizeOf197 w
theorem Kk:Hg prog 197 [.slice none 0 0, .slice none 0 0, .int .i64 0] 56:=⟨⟨_,(show Tryz.prog.info? 197=some Tryz.t197 by kernel_rfl),rfl,rfl,_,rfl,rfl⟩⟩
theorem UO (w:World):(isAgg 273).run prog w= .ok true w:=isAgg273 w
theorem Un (w:World):(sizeOf 273).run prog w= .ok 1 w:=sizeOf273 w
theorem U8:Hg prog 273 [.slice none 0 0] 24:=⟨⟨_,(show Tryz.prog.info? 273=some Tryz.t273 by kernel_rfl),rfl,rfl,_,rfl,rfl⟩⟩
theorem FN (w:World):(isAgg 275).run prog w= .ok true w:=isAgg275 w
theorem FG (w:World):(sizeOf 275).run prog w= .ok 6 w:=sizeOf275 w
theorem Hu:Hg prog 275 [.int .i64 0, .int .i64 0, .int .i64 0, .int .i64 0, .int .i64 0, .int .i64 0] 48:=⟨⟨_,(show Tryz.prog.info? 275=some Tryz.t275 by kernel_rfl),rfl,rfl,_,rfl,rfl⟩⟩
theorem JJ:FO prog 285 161 1:=⟨underlying285,sizeOf161⟩
theorem QF:Tryz.prog.underlying 287=some (.array 256 82):=underlying287
theorem UN (w:World):(isAgg 287).run prog w= .ok true w:=isAgg287 w
theorem Um (w:World):(sizeOf 287).run prog w= .ok 256 w:=sizeOf287 w
end Go.Proofs.YtblbopcaflaldaaGreatDoor

namespace Go.Dd
open Go Go.RowKit
open List hiding get
def Ls (P:Program) (f:FuncId) (args:List Value) (w:World) (pv:Value) (R:Value→World→Prop) (K:World→Prop):Prop:=
 (∃ fn, P.funcs[f]? = some fn ∧ (fn.name == "runtime.NumGoroutine") = false ∧ fn.body.isSome = true) ∧ Calls P f args.toArray w (fun e w' => (∃ v, e = .returned v ∧ R v w') ∨ (e = .panicked [{ v := pv, recovered := false }] ∧ K w'))
def SI (P:Program) (fn:Func) (pv:Value) (R:Value→World→Prop) (K:World→Prop):BZ:=bodyPost P fn (fun e w' =>(∃v,e= .returned v∧R v w')∨(e= .panicked [{v:=pv,recovered:=false}]∧K w'))
section
variable {P : Program} {Q : BZ} {n : Nat} {E : CR} {w : World} {l0 rest : List Oper} {ty : TypeId} {pos : String} {af : Array Edge} {x : Operand} {pv : Value}
theorem Ls.mono {f:FuncId} {args:List Value} {R d:Value→World→Prop} {K e:World→Prop} (h:Ls P f args w pv R K) (i:∀v a,R v a→d v a) (g:∀a,K a→e a):Ls P f args w pv d e:=
 ⟨h.1,h.2.mono fun _ _ q=>q.imp (fun ⟨v,c,b⟩=>⟨v,c,i _ _ b⟩) (fun ⟨c,b⟩=>⟨c,g _ b⟩)⟩
theorem E1 {f : FuncId} {b : Func} {c : Code} {args : List Value} {R : Value → World → Prop} {K : World → Prop} (g : P.funcs[f]? = some b) (a : (b.name == "runtime.NumGoroutine") = false) (j : b.body = some c)
  (m:b.ntmps=n) (l:Nat.ble args.length n=true) (h:Cw P (SI P b pv R K) n c (params 0 args) w):Ls P f args w pv R K:=by
 refine ⟨⟨b,g,a,by simp [j]⟩,calls_of_wp g j (h _ ⟨rfl, ?_,fun i v k=> ?_⟩)⟩
 ·have:args.length≤n:=Nat.le_of_ble_eq_true l
  simp [m];omega
 ·have e:=(EP args 0 i v k).2
  simp only [Nat.sub_zero] at e
  have d:i<args.length:=by
   rcases Nat.lt_or_ge i args.length with h|h
   ·exact h
   ·simp [getElem?_eq_none h] at e
  rw [Array.getElem?_append]
  simp only [size_toArray,d,if_true,getElem?_toArray]
  exact e
theorem Fs {c:Func} {R:Value→World→Prop} {K:World→Prop} {t:Nat} {v:Value} (e:c.results= #[.tmp t]) (d:get E t=some v) (h:R v w):Pw n E (SI P c pv R K .ret) w:=fun a b=>
 bodyPost_ret (v:=v) (by rw [results_tmp e];simp [Array.getD_eq_getD_getElem?,b.has _ _ d]) b.dfr (.inl ⟨v,rfl,h⟩)
theorem Pw.end0q {a:Func} {R:Value→World→Prop} {K:World→Prop} (c:a.results= #[]) (h:R (.tuple #[]) w):Pw n E (SI P a pv R K .normal) w:=fun _ b=>
 bodyPost_end (v:= .tuple #[]) (by rw [results_none c]) b.dfr (.inl ⟨_,rfl,h⟩)
theorem D9 {b:Func} {R:Value→World→Prop} {K:World→Prop} (h:K w):Pw n E (SI P b pv R K (.panic [{v:=pv,recovered:=false}])) w:=fun _ a=>⟨a.dfr, .inr ⟨rfl,h⟩⟩
theorem Ek {b:Func} {R:Value→World→Prop} {K:World→Prop}:AG (SI P b pv R K):=fun _ a _ o v h=>by
 cases o with
 |none=>exact h
 |some d=>exact h
theorem Cp {K:Act→World→Prop} {c:List PanicEntry} (h:Pw n E (Q (.panic c)) w):Pw n E (CQ K Q (.panic c)) w:=h
theorem D1 {a:Nat} {c:List PanicEntry} (h:Pw n E (Q (.panic c)) w):Pw n E (HM a Q (.panic c)) w:=h
theorem Lw.callQ {d:Nat} {j:Op} {f:FuncId} {vs:List Value} {R:Value→World→Prop} {K:World→Prop} (h:Xc P n E j ty w f vs) (l:Nat.blt d n=true) (m:Ls P f vs w pv R K)
  (o:∀b,K b→Pw n E (Q (.panic [{v:=pv,recovered:=false}])) b) (k:∀v b,R v b→Lw P l0 Q n rest ((d,v)::E) b):Lw P l0 Q n (⟨some d,j,ty,pos,af,none⟩::rest) E w:=
 fun a g=>wpList_plain rfl fun p i=>by
  unfold Oper.wp
  rw [h a g]
  refine m.2.mono fun e b q=> ?_
  rcases q with ⟨v,rfl,c⟩|⟨rfl,c⟩
  ·exact i _ _ (k v b c _ (g.put v l))
  ·exact o b c a g
theorem Dw {d:Nat} {f:FuncId} {xs:List Operand} {vs:List Value} {ts:Array TypeId} {R:Value→World→Prop} {K:World→Prop} (g:evs E xs=some vs) (c:Nat.blt d n=true) (b:Ls P f vs w pv R K)
  (e:∀a,K a→Pw n E (Q (.panic [{v:=pv,recovered:=false}])) a) (k:∀v a,R v a→Lw P l0 Q n rest ((d,v)::E) a):Lw P l0 Q n (⟨some d, .call {callee:= .value (.func f),args:=xs.toArray,argTypes:=ts},ty,pos,af,none⟩::rest) E w:=
 Lw.callQ (Xc.mk b.1 g) c b e k
theorem F3 {T:TypeId} {d:Array Field} {v:Value} (c:P.underlying T=some (.struct d)) (e:ev E x=some v):Ex P n E (.makeInterface T x) ty w (.iface T v):=fun a b _ _ _ _=>by
 simp [execOp,b.ev e,Instr.makeInterface,run_underlying c]
theorem Gd {d:Option Nat} {T:TypeId} {v:Value} (c:ev E x=some (.iface T v)) (h:Pw n E (Q (.panic [{v:= .iface T v,recovered:=false}])) w):Lw P l0 Q n (⟨d, .panic x,ty,pos,af,none⟩::rest) E w:=
 fun a b=>wpList_plain rfl fun f _=>by
  unfold Oper.wp
  have e:(execOp a.eval ⟨d, .panic x,ty,pos,af,none⟩).run P w= .halt (.panic (.iface T v)) w:=by simp [execOp,b.ev c,Instr.panic]
  rw [e]
  exact h a b
end
end Go.Dd

namespace Go.Dd.Shapes
def prod:List Int→Int
 |[]=>1
 |x::s=>x*prod s
def tim (n:Int):List Int→Int
 |[]=>n
 |x::l=>if x<1∨64<x then 0 else if 4096<n*x then 0 else tim (n*x) l
def size (s:List Int):Int:=if s.length<1∨4<s.length then 0 else tim 1 s
def good (s:List Int):Prop:=∀x ∈ s,1≤x∧x≤64
def ok (s:List Int):Bool:=decide (0<size s)
def idx:List Int→List Int→Int
 |_::s,a::t=>a*prod s+idx s t
 |_,_=>0
def M7:List Int→Int→List Int
 |[],_=>[]
 |x::s,i=>(i / prod s % x)::M7 s i
theorem good_cons {x:Int} {s:List Int}:good (x::s)↔(1≤x∧x≤64)∧good s:=by simp [good]
theorem good_append {s t:List Int}:good (s++t)↔good s∧good t:=by
 simp only [good,List.mem_append]
 exact ⟨fun h=>⟨fun x a=>h x (.inl a),fun x a=>h x (.inr a)⟩,fun h x a=>a.elim (h.1 x) (h.2 x)⟩
theorem Qq {s:List Int} (h:good s) (k:Nat):good (s.drop k):=fun x a=>h x (List.mem_of_mem_drop a)
theorem prod_append (s t:List Int):prod (s++t)=prod s*prod t:=by
 induction s with
 |nil=>simp [prod]
 |cons x s ih=>simp [prod,ih,Int.mul_assoc]
theorem prod_pos:∀{s:List Int},good s→1≤prod s
 |[],_=>by simp [prod]
 |x::s,h=>by
  have a:=(good_cons.1 h).1
  have b:=prod_pos (good_cons.1 h).2
  have:=Int.mul_le_mul a.1 b (by omega) (by omega)
  simpa [prod] using this
theorem L3:∀(s:List Int) (n:Int),1≤n→n≤4096→(good s∧n*prod s≤4096∧tim n s=n*prod s)∨(¬(good s∧n*prod s≤4096)∧tim n s=0)
 |[],n,h1,h2=> .inl ⟨by simp [good],by simpa [prod] using h2,by simp [tim,prod]⟩
 |x::s,n,h1,h2=>by
  by_cases hx:x<1∨64<x
  ·exact .inr ⟨fun h=>by have:=(good_cons.1 h.1).1;omega,by simp [tim,hx]⟩
  ·have b:1≤x:=by omega
   have a:1≤n*x:=by have:=Int.mul_le_mul h1 b (by omega) (by omega);simpa using this
   by_cases h4:4096<n*x
   ·refine .inr ⟨fun h=> ?_,by simp [tim,hx,h4]⟩
    have d:=prod_pos (good_cons.1 h.1).2
    have i:=Int.mul_le_mul (Int.le_refl (n*x)) d (by omega) (by omega)
    have c:=h.2
    simp only [prod,← Int.mul_assoc] at c
    omega
   ·have f:tim n (x::s)=tim (n*x) s:=by simp [tim,hx,h4]
    have e:n*prod (x::s)=n*x*prod s:=by simp [prod,Int.mul_assoc]
    rw [f,e]
    rcases L3 s (n*x) a (by omega) with ⟨g,l,t⟩|⟨g,t⟩
    ·exact .inl ⟨good_cons.2 ⟨by omega,g⟩,l,t⟩
    ·exact .inr ⟨fun h=>g ⟨(good_cons.1 h.1).2,h.2⟩,t⟩
theorem SY (s:List Int):0≤tim 1 s∧tim 1 s≤4096:=by
 rcases L3 s 1 (by omega) (by omega) with ⟨g,l,t⟩|⟨g,t⟩
 ·have:=prod_pos g;omega
 ·omega
theorem size_le (s:List Int):0≤size s∧size s≤4096:=by
 unfold size
 split
 ·omega
 ·exact SY s
theorem ok_iff (s:List Int):ok s=true↔(1≤s.length∧s.length≤4)∧good s∧prod s≤4096:=by
 unfold ok size
 rw [decide_eq_true_iff]
 split
 ·omega
 ·rcases L3 s 1 (by omega) (by omega) with ⟨g,l,t⟩|⟨g,t⟩
  ·have:=prod_pos g
   simp only [Int.one_mul] at l t
   rw [t];exact ⟨fun _=>⟨by omega,g,l⟩,fun _=>by omega⟩
  ·simp only [Int.one_mul] at g
   rw [t];exact ⟨fun h=>by omega,fun h=>absurd h.2 g⟩
theorem size_ok {s:List Int} (h:ok s=true):size s=prod s:=by
 have a:=(ok_iff s).1 h
 unfold size
 rw [if_neg (by omega)]
 rcases L3 s 1 (by omega) (by omega) with ⟨g,l,t⟩|⟨g,t⟩
 ·simpa using t
 ·exact absurd ⟨a.2.1,by simpa using a.2.2⟩ g
theorem size_no {s:List Int} (h:ok s=false):size s=0:=by
 have:=size_le s
 unfold ok at h
 have:=AD h
 omega
theorem ok_prod {s:List Int} (h:ok s=true) (k:Nat):1≤prod (s.drop k)∧prod (s.drop k)≤4096:=by
 obtain ⟨_,g,l⟩:=(ok_iff s).1 h
 have a:=prod_pos (Qq g k)
 refine ⟨a, ?_⟩
 have d:prod s=prod (s.take k)*prod (s.drop k):=by rw [← prod_append,List.take_append_drop]
 have b:=prod_pos (s:=s.take k) fun x c=>g x (List.mem_of_mem_take c)
 have:=Int.mul_le_mul b (Int.le_refl (prod (s.drop k))) (by omega) (by omega)
 omega
theorem prod_drop {s:List Int} {k:Nat} (h:k<s.length):prod (s.drop k)=s.getD k default*prod (s.drop (k+1)):=by
 rw [List.drop_eq_getElem_cons h];simp [prod,h]
end Go.Dd.Shapes

namespace Go.Dd
open Go Go.RowKit
open List hiding get
section
variable {P : Program} {n : Nat} {E : CR} {w : World} {ty t e : TypeId} {x y z : Operand} {v u : Value} {sz : Nat}
def pev (E:CR):List (Nat×Operand)→Option (List (Nat×Value))
 |[]=>some []
 |(i,x)::l=>match ev E x,pev E l with
  |some v,some vs=>some ((i,v)::vs)
  |_,_=>none
theorem CE.pev {a:Act} (h:CE n E a):∀{l:List (Nat×Operand)} {vs:List (Nat×Value)},pev E l=some vs→l.map (fun p=>(p.1,a.eval p.2))=vs
 |[],vs,hp=>by simp only [Dd.pev,Option.some.injEq] at hp;subst hp;rfl
 |(i,x)::l,vs,hp=>by
  simp only [Dd.pev] at hp
  split at hp
  ·rename_i v f b c
   simp only [Option.some.injEq] at hp
   subst hp
   rw [map_cons,h.pev c,h.ev b]
  ·cases hp
theorem C1 {ps:List (Nat×Operand)} {vs:List (Nat×Value)} {cs:List Value} (c:pev E ps=some vs) (h:P.built t vs=some cs.toArray):Ex P n E (.build t ps.toArray) ty w (.agg cs.toArray):=fun a f _ _ _ _=>by
 have b:ps.toArray.map (fun (i,x)=>(i,a.eval x))=vs.toArray:=by rw [map_toArray,← f.pev c]
 have g:=run_build (P:=P) w t vs.toArray cs.toArray (by simpa using h)
 simp only [execOp,b,Sem.run_bind,g,Result.andThen_ok]
 rfl
theorem E0 {ps:List (Nat×Operand)} {vs:List (Nat×Value)} {cs l:List Value} {c k:Nat} (p:FO P t e sz) (F:Hg P e l c) (B:pev E ps=some vs) (m:0<sz) (I:0<k) (D:k*sz≤16777216)
  (C:Instr.fill (fun i=>some (i*sz,sz)) ((Array.range (k*sz)).map (l.toArray[· % l.toArray.size]!)) vs=some cs.toArray) (b:cs.length=k*sz):
  Xw P n E (.buildSlice t k ps.toArray) ty w (fun v h=>h.ownsRow w.heap.size e sz v k cs∧v= .slice (some ⟨w.heap.size,0,none⟩) k k∧Below w.heap.size w h∧h.heap.size=w.heap.size+1):=fun a G=>by
 obtain ⟨i,r,H,J,zv,q,s⟩:=F.i
 have g:ps.toArray.map (fun (i,x)=>(i,a.eval x))=vs.toArray:=by rw [map_toArray,← G.pev B]
 have f:¬(k*sz>2 ^ 24):=by omega
 have o:k*1≤k*sz:=Nat.mul_le_mul_left k m
 have A:(zeroValue e).run P w= .ok zv w:=by simp [zeroValue,typeInfo,r,q]
 have j:¬(k*sz=0):=by omega
 refine ⟨.slice (some ⟨w.heap.size,0,none⟩) k k,w.alloc (.cells cs.toArray e),fun _ _ _ _=> ?_,⟨b, .inr ⟨w.heap.size,k,cs.toArray,rfl,AU _,heap_alloc_new w _,AU _,by unfold maxLen;omega,by simpa using b, ?_⟩⟩,rfl,G6 w _,by simp⟩
 ·simp only [execOp,Instr.buildSlice,Sem.run_bind,run_underlying p.u,Result.andThen_ok,p.s w,Sem.run_ite,if_neg f,Sem.run_pure,g,if_neg j,A,s,C]
  simp [newRow]
 ·rw [take_of_length_le (by simp [b])]
theorem Iv (d:Nat) (a:Option Addr) (c cap:Nat) (b:P.underlying t=some (.slice e)):(Op.equalIn (d+1) t (.slice a c cap) (.slice none 0 0)).run P w= .ok a.isNone w:=by
 cases a<;>simp [Op.equalIn,run_underlying b]
theorem Ex.nilS {f h:TypeId} {b:Option Addr} {c cap:Nat} (k:P.underlying f=some (.slice e)) (o:ev E x=some (.slice b c cap)) (i:ev E y=some (.slice none 0 0)):Ex P n E (.binOp .eql f x y h) ty w (.bool b.isNone):=fun a g _ _ _ _=>by
 have m:eqGuard .eql f x y (.slice b c cap) (.slice none 0 0)=pure ():=rfl
 have l:binOp .eql f (.slice b c cap) (.slice none 0 0)=(do pure (.bool (← Op.equal f (.slice b c cap) (.slice none 0 0)))):=rfl
 have j:=Iv (P:=P) (w:=w) 9999 b c cap k
 simp [execOp,g.ev o,g.ev i,m,l,Op.equal,Op.maxDepth,j]
def clip (v:Value):Value:=match v with
 | .slice ao k _=> .slice ao k k
 |_=>undef
theorem Sl.clip {c:Nat} {xs:List Value} (h:Sl w sz v c xs):Sl w sz (clip v) c xs:=by
 obtain ⟨b,a,cap,rfl,k,j,g,f⟩:=h
 exact ⟨b,a,c,rfl,AU _,by omega,fun i=>by have:=g i;omega,f⟩
theorem Fl {c:Nat} {m:Operand} {j k:IntKind} (f:FO P t e sz) (q:ev E x=some v) (p:ev E y=some (.int j (c:Int))) (r:ev E m=some (.int k (c:Int))) (h:OS v c):Ex P n E (.slice t x none (some y) (some m)) ty w (clip v):=fun a g _ _ _ _=>by
 obtain ⟨b,cap,rfl,B,A,C⟩:=h
 have i:P.underlying t=some (.slice (P.elem t)):=by rw [Program.elem,f.u]
 have o:P.elem t=e:=by rw [Program.elem,f.u]
 have l:=run_slice_hm (P:=P) w t b c cap i j k (c:Int) (c:Int) (by omega) (by omega) (by omega)
 simp only [Int.toNat_natCast,o,f.s w,Result.andThen_ok] at l
 have s:(if c=0 then b else b.map (·.add (0*sz)))=b:=by
  split
  ·rfl
  ·cases b<;>simp [Addr.add]
 simp [execOp,g.ev q,g.ev p,g.ev r,Instr.sliceAt,run_underlying f.u,l,sliced,Dd.clip]
 cases b<;>simp [Addr.add]
theorem C8 {c k o:Nat} {xs cs:List Value} (f:(isAgg e).run P w= .ok true w) (hs:(sizeOf e).run P w= .ok k w) (F:ev E x=some (CH v o)) (h:Sl w sz v c xs) (r:cs.length=k) (g:0<k) (b:∀i,i<k→∃q,cs[i]? =some q∧xs[o+i]? =some q):Ex P n E (.load e x) ty w (.agg cs.toArray):=fun a H _ _ _ _=>by
  subst r
  obtain ⟨_,s,cap,rfl,J,I,D,A⟩:=h
  cases s with
  |none=>
    have:=D rfl
    obtain ⟨q,_,m⟩:=b 0 g
    have p:=(List.getElem?_eq_some_iff.1 m).1
    have : xs.length = 0 := by subst this; obtain rfl : c = 0 := by omega
                               simp_all
    omega
  |some ad=>
    have C:=run_loadCells_list (P:=P) w (ad.add o) cs (fun j u l=>by
      have G:j<cs.length:=(List.getElem?_eq_some_iff.1 l).1
      obtain ⟨q,B,m⟩:=b j G
      rw [B] at l
      cases l
      rw [Hy]
      exact A ad rfl _ _ m)
    simp [execOp,H.ev F,CH,Instr.loadAt,Instr.sureAddr,loadVar,f,hs,C]
theorem C9 {o f q:Nat} {g:Array Field} {b:Field} (m:P.underlying t=some (.struct g)) (h:g[f]? =some b) (i:(sizeOf b.type).run P w= .ok (q+1) w) (p:ev E x=some (CH v o)) (j:∃ad c k,v= .slice (some ad) c k):
  Ex P n E (.fieldAddr t x f) ty w (CH v (o+b.offset)):=fun a l _ _ _ _=>by
 obtain ⟨ad,c,k,rfl⟩:=j
 simp [execOp,l.ev p,CH,Instr.fieldAt,Instr.sureAddr,fieldPlace,run_underlying m,h,i,Hy]
theorem KG {f:Func} {p q:Tmp} {a:TypeId} (h:f.results= #[.cell p a, .tmp q]) (tmps:Array Value) (w:World) (g:Nat) (c:TypeId) (cs:Array Value) (i:Nat×Nat) (d:TypeDesc)
  (k:tmps.getD p undef= .pointer (some ⟨g,0,none⟩)) (m:w.heap[g]? =some (.cells cs c i))
  (l:P.underlying a=some d) (j:(match d with| .struct _| .array _ _=>true|_=>false)=true) (o:(P.info? a).map (·.size)=some cs.size):
  (results f tmps).run P w= .ok (.tuple #[.agg cs,tmps.getD q undef]) w:=by
 have b:tmps[p]?.getD undef= .pointer (some ⟨g,0,none⟩):=by simpa using k
 simp [results,h,b,asAddr,run_loadVar_row w g c a cs i d m l j o]
theorem Di {f:Func} {R:Value→World→Prop} {p q b k:Nat} {T:TypeId} {cs:List Value} {d:TypeDesc} (m:f.results= #[.cell p e, .tmp q]) (i:get E p=some (.pointer (some ⟨b,0,none⟩))) (l:get E q=some u) (r:AP w b T cs)
  (o:P.underlying e=some d) (g:(match d with| .struct _| .array _ _=>true|_=>false)=true) (s:(P.info? e).map (·.size)=some k) (j:cs.length=k) (h:R (.tuple #[.agg cs.toArray,u]) w):Pw n E (SJ P f R .ret) w:=fun a c=>by
 subst j
 have:=KG m a.tmps w b T cs.toArray (0,0) d (by simp [Array.getD_eq_getD_getElem?,c.has _ _ i]) r o g (by simpa using s)
 rw [show a.tmps.getD q undef=u by simp [Array.getD_eq_getD_getElem?,c.has _ _ l]] at this
 exact bodyPost_ret this c.dfr ⟨_,rfl,h⟩
def VO (n:Nat) (F:CR) (I:World→Prop):BZ:=fun x a w=>x= .normal∧CE n F a∧I w
theorem Cw.mid {c:Code} {F:CR} {I:World→Prop} {K:Act→World→Prop} {Q:BZ} (h:Cw P (VO n F I) n c E w) (k:∀b,I b→Pw n F K b):Cw P (CQ K Q) n c E w:=fun a i=>
 Code.wp_mono (fun x j b f=>by
  obtain ⟨rfl,g,l⟩:=f
  exact k b l j g) (h a i)
theorem Pw.mid {F:CR} {I:World→Prop} (hs:Q5 E F) (b:I w):Pw n E (VO n F I .normal) w:=fun _ a=>⟨rfl,a.sub hs,b⟩
end
section
variable {P : Program} {Q : BZ} {n : Nat} {E : CR} {w : World} {l0 rest : List Oper} {ty t : TypeId} {pos : String} {af : Array Edge} {d : Nat}
theorem Ez {ps:List (Nat×Operand)} (h:(pev E ps,Nat.blt d n)=(some [],true)) (k:Lw P l0 Q n rest ((d, .agg ([.slice none 0 0, .slice none 0 0]:List Value).toArray)::E) w) (a:P.built t []=some ([.slice none 0 0, .slice none 0 0]:List Value).toArray:=by kernel_rfl):Lw P l0 Q n (⟨some d, .build t ps.toArray,ty,pos,af,none⟩::rest) E w:=Aa (C1 (congrArg Prod.fst h) a) (congrArg Prod.snd h) k
end

section
variable {P : Program} {Q : BZ} {n : Nat} {E : CR} {w : World} {l0 rest : List Oper} {ty ty2 e : TypeId} {pos pos2 : String} {af af2 : Array Edge} {x y : Operand} {v u : Value}
theorem Cz {d k a:Nat} {cs c:List Value} (hi:Hg P e c a) (hs:(P.info? e).map (·.size)=some k) (m:cs.length=k) (F:c.length=k) (j:Nat.blt d n=true) (q:∀v,ev ((d,v)::E) y=some (.agg cs.toArray)) (b:cs.all (·.oneCell')=true)
  (h:∀A w',A=w.heap.size→AP w' A e cs→Below w.heap.size w w' →w'.heap.size=w.heap.size+1→Lw P l0 Q n rest ((d, .pointer (some ⟨A,0,none⟩))::E) w'):
  Lw P l0 Q n (⟨some d, .alloc e,ty,pos,af,none⟩::⟨none, .store e (.tmp d) y,ty2,pos2,af2,none⟩::rest) E w:=by
 refine Bc (Xw.new hi) j fun v G ⟨p,r,g,o⟩=> ?_
 subst p
 refine Bv (C7 (cs:=cs) hs m (CN _ _ _) (q _) b r F) fun D ⟨t,B,z⟩=> ?_
 exact h _ D rfl t (g.grown B (AA g) (by rintro _ ⟨⟩;exact AU _)) (by omega)
theorem Lw.boxed1 {d a:Nat} {z:Value} (hi:Hg P e [z] a) (hs:∀w,(sizeOf e).run P w= .ok 1 w) (g:Nat.blt d n=true) (m:∀v,ev ((d,v)::E) y=some u) (b:u.oneCell' =true)
  (h:∀A w',A=w.heap.size→AP w' A e [u]→Below w.heap.size w w' →w'.heap.size=w.heap.size+1→Lw P l0 Q n rest ((d, .pointer (some ⟨A,0,none⟩))::E) w'):
  Lw P l0 Q n (⟨some d, .alloc e,ty,pos,af,none⟩::⟨none, .store e (.tmp d) y,ty2,pos2,af2,none⟩::rest) E w:=by
 refine Bc (Xw.new hi) g fun v B ⟨k,q,c,j⟩=> ?_
 subst k
 refine Bv (C5 (u:=u) (hs _) (CN _ _ _) (m _) b q (by simp)) fun r ⟨o,t,p⟩=> ?_
 exact h _ r rfl o (c.grown t (AA c) (by rintro _ ⟨⟩;exact AU _)) (by omega)
theorem Du {d a:Nat} {c:List Value} (hi:Hg P e c a) (g:Nat.blt d n=true)
  (h:∀A w',A=w.heap.size→AP w' A e c→Below w.heap.size w w' →w'.heap.size=w.heap.size+1→Lw P l0 Q n rest ((d, .pointer (some ⟨A,0,none⟩))::E) w'):
  Lw P l0 Q n (⟨some d, .alloc e,ty,pos,af,none⟩::rest) E w:=by
 refine Bc (Xw.new hi) g fun v j ⟨k,m,o,b⟩=> ?_
 subst k
 exact h _ j rfl m o b
theorem Cr {d:Nat} {cs:List Value} (m:ev E x=some v) (k:v.cells=cs.toArray) (b:Nat.blt d n=true)
  (h:∀A w',A=w.heap.size→AP w' A e cs→Below w.heap.size w w' →w'.heap.size=w.heap.size+1→Lw P l0 Q n rest ((d, .pointer (some ⟨A,0,none⟩))::E) w'):
  Lw P l0 Q n (⟨some d, .box e x,ty,pos,af,none⟩::rest) E w:=by
 refine Bc (Xw.box m k) b fun v c ⟨g,j,o,a⟩=> ?_
 subst g
 exact h _ c rfl j o a
end
theorem BD {α:Type} {w:World} {B:Nat} {e:TypeId} {k:Nat} {v:Value} {enc:α→Value} {l:List α} (h:w.ownsRow B e 1 v k (l.map enc)):BO enc w v l:=by
 have:k=l.length:=by have:=h.1;simpa using this.symm
 subst this
 exact AF h
theorem BY {w:World} {B b:Nat} {e:TypeId} {sz k:Nat} {v:Value} {xs:List Value} (h:w.ownsRow B e sz v k xs) (m:b≤B):w.ownsRow b e sz v k xs:=
 ⟨h.1,by
  rcases h.2 with h|⟨g,cap,a,j,d,c⟩
  ·exact .inl h
  ·exact .inr ⟨g,cap,a,j,Nat.le_trans m d,c⟩⟩
theorem AV {w w' :World} {base:Nat} {e:TypeId} {sz:Nat} {v:Value} {n:Nat} {xs:List Value} (h:w.ownsRow base e sz v n xs) (k:∀b,v.ownBlock=some b→w'.heap[b]? =w.heap[b]?):w'.ownsRow base e sz v n xs:=by
 obtain ⟨d,c⟩:=h
 rcases c with c|⟨b,cap,a,rfl,j,m,g⟩
 ·exact ⟨d, .inl c⟩
 ·exact ⟨d, .inr ⟨b,cap,a,rfl,j,(k b rfl).trans m,g⟩⟩
def AQ (w:World) (base:Nat) (e:TypeId) (sz:Nat) (v:Value) (n:Nat) (xs:List Value):Prop:=
 w.ownsRow base e sz v n xs∨∃g cur,v= .slice (some ⟨g,0,none⟩) n n∧base≤g∧AP w g e cur∧n*sz≤cur.length∧n≤maxLen∧xs=cur.take (n*sz)
namespace AQ
variable {w w' : World} {base : Nat} {e : TypeId} {sz : Nat} {v : Value} {n : Nat} {xs : List Value}
theorem len (h:AQ w base e sz v n xs):xs.length=n*sz:=by
 rcases h with h|⟨g,a,_,_,_,b,_,rfl⟩
 ·exact h.1
 ·rw [length_take];omega
theorem sl (h:AQ w base e sz v n xs):Sl w sz v n xs:=by
 have d:=h.len
 rcases h with h|⟨g,c,rfl,_,o,p,k,rfl⟩
 ·exact AF h
 ·refine ⟨d,some ⟨g,0,none⟩,n,rfl,AU _,k,(fun h=>by cases h),fun a m j u b=> ?_⟩
  cases m
  rw [add_lit,Nat.zero_add,o.cell]
  rw [getElem?_take] at b
  split at b
  ·exact b
  ·cases b
theorem lt (h:AQ w base e sz v n xs):∀b,v.ownBlock=some b→base≤b∧b<w.heap.size:=by
 rcases h with h|⟨g,a,rfl,c,d,_⟩
 ·exact AB h
 ·intro b e;cases e;exact ⟨c,BA d⟩
theorem heap (h:AQ w base e sz v n xs) (k:∀b,v.ownBlock=some b→w'.heap[b]? =w.heap[b]?):AQ w' base e sz v n xs:=by
 rcases h with h|⟨g,a,rfl,d,j,c⟩
 ·exact .inl (AV h k)
 ·exact .inr ⟨g,a,rfl,d,j.keep (k g rfl),c⟩
theorem bs (h:AQ w base e sz v n xs) (a:Below w.heap.size w w'):AQ w' base e sz v n xs:=h.heap fun b e=>a.block b (h.lt b e).2
theorem by' (h:AQ w base e sz v n xs) {r:Option Nat} (hg:w.grownBy w' r) (hne:v.ownBlock=none∨v.ownBlock≠r):AQ w' base e sz v n xs:=
  h.heap fun b e => hg.block b (h.lt b e).2 (by rcases hne with h | h; · rw [h] at e; cases e
                                                · rw [← e];exact h)
theorem mono (h:AQ w base e sz v n xs) {B:Nat} (j:B≤base):AQ w B e sz v n xs:=by
 rcases h with ⟨b,c⟩|⟨g,a,rfl,d,b⟩
 ·refine .inl ⟨b, ?_⟩
  rcases c with h|⟨g,cap,a,d,b,c⟩
  ·exact .inl h
  ·exact .inr ⟨g,cap,a,d,Nat.le_trans j b,c⟩
 ·exact .inr ⟨g,a,rfl,Nat.le_trans j d,b⟩
theorem clip (h:w.ownsRow base e sz v n xs):AQ w base e sz (Dd.clip v) n xs:=by
 obtain ⟨k,j⟩:=h
 rcases j with ⟨rfl,rfl⟩|⟨g,cap,b,rfl,o,p,a,c,d,m⟩
 ·exact .inl ⟨k, .inl ⟨rfl,rfl⟩⟩
 ·refine .inr ⟨g,b.toList,rfl,o,p, ?_,Nat.le_trans a c,m.symm⟩
  rw [Array.length_toList,d]
  exact Nat.mul_le_mul_right _ a
theorem slT {α:Type} {enc:α→Value} {l:List α} (h:AQ w base e 1 v n (l.map enc)):BO enc w v l:=by
 have:n=l.length:=by have:=h.len;simpa using this.symm
 subst this
 exact h.sl
end AQ
structure VJ {α:Type} (enc:α→Value) (w:World) (E:TypeId) (lo hi:Nat) (v:Value) (l:List α):Prop where
 own:w.ownsRow lo E 1 v l.length (l.map enc)
 blk:∀b,v.ownBlock=some b→lo≤b∧b<hi
namespace VJ
variable {α : Type} {enc : α → Value} {w w' : World} {E : TypeId} {lo hi : Nat} {v : Value} {l : List α}
end VJ
structure V5 (w:World) (T I E:TypeId) (lo hi A:Nat) (x y:Value) (s:List Int) (l:List (BitVec 32)):Prop where
 box:AP w A T [x,y]
 row:AQ w lo I 1 x s.length (s.map (Value.int .i64))
 lst:VJ i32 w E lo hi y l
 bA:lo≤A∧A<hi
 bx:∀b,x.ownBlock=some b→lo≤b∧b<hi∧b≠A
 yA:y.ownBlock≠some A
 yx:∀b,y.ownBlock=some b→x.ownBlock≠some b
namespace V5
variable {w w' : World} {T I E : TypeId} {lo hi A : Nat} {x y : Value} {s : List Int} {l : List (BitVec 32)}
end V5
section
variable {α : Type} {f l : List α} {i : Nat}
theorem ND [Inhabited α] (c:f.length=l.length) (hi:i<l.length):(f.take i++l.drop i).set i (f.getD i default)=f.take (i+1)++l.drop (i+1):=by
 have b:(f.take i).length=i:=by simp;omega
 have a:i<f.length:=by omega
 rw [set_append_right _ _ (by omega),b,Nat.sub_self,drop_eq_getElem_cons hi,set_cons_zero,take_succ_eq_append_getElem a,append_assoc]
 simp [a]
theorem L4:f.take 0++l.drop 0=l:=by simp
theorem NF (a:f.length=l.length):f.take l.length++l.drop l.length=f:=by rw [← a,take_length,a,drop_length,append_nil]
end
section
variable {P : Program} {Q : BZ} {n : Nat} {E : CR} {w : World} {l0 rest : List Oper} {ty : TypeId} {pos : String} {af : Array Edge} {C : World → Prop} {K : Act → Prop}
theorem N3 {a:Act} (c:CE n E a) {j dj:Nat} (d:(DY l0 j).bind (·.dst)=some dj) (b:get E dj=some undef):yielded l0.toArray a.tmps j=none:=by
 unfold yielded
 rw [getElem?_toArray,CX,d]
 simp [c.has _ _ b,undef]
theorem Ft {d:Nat} {k:Op} {j dj:Nat} {g:Bool} (m:(DY l0 j).bind (·.dst)=some dj) (o:get E dj=some undef) (c:Nat.blt d n=true)
  (h:Lw P l0 Q n rest ((d,undef)::E) w):Lw P l0 Q n (⟨some d,k,ty,pos,af,some (j,g)⟩::rest) E w:=fun a b=>by
 unfold wpList
 rw [if_neg]
 ·exact h _ (b.put _ c)
 ·simp [Region.wanted,N3 b m o]
end

def Gu (S:List Nat) (L:Array Bool):Array Bool:=((range L.size).map fun i=>L.getD i true|| !S.contains i).toArray
def L7:List Nat→Array Bool→Array Bool
 |[],L=>L
 |i::S,L=>L7 S (L.setIfInBounds i true)
theorem GE (S:List Nat) (L:Array Bool):(Gu S L).size=L.size:=by simp [Gu]
theorem ER {S:List Nat} {L:Array Bool} {i:Nat} (d:Bool) (h:i<L.size):(Gu S L).getD i d=(L.getD i true|| !S.contains i):=by
 simp [Gu,h]
theorem KW:∀(S:List Nat) (L:Array Bool),(L7 S L).size=L.size
 |[],_=>rfl
 |i::S,L=>by simp [L7,KW S]
theorem Jz (L:Array Bool) (i j:Nat) (d:Bool) (h:j<L.size):(L.setIfInBounds i true).getD j d=(L.getD j d||i==j):=by
 by_cases hij:i=j
 ·subst hij;simp [h]
 ·simp [Array.getElem?_setIfInBounds_ne hij,hij]
theorem M6 {d:Bool}:∀(S:List Nat) (L:Array Bool) (j:Nat),j<L.size→(L7 S L).getD j d=(L.getD j d||S.contains j)
 |[],L,j,_=>by simp [L7]
 |i::S,L,j,h=>by
  rw [L7,M6 S _ j (by simpa using h),Jz L i j d h,contains_cons,Bool.or_assoc]
  have e:(i==j)=(j==i):=by rw [Bool.eq_iff_iff];simp only [beq_iff_eq];exact eq_comm
  rw [e]
theorem Lr {A B:Array Bool} (hs:A.size=B.size) (h:∀i,i<A.size→A.getD i true=B.getD i true):A=B:=by
 apply Array.ext hs
 intro i a b
 have:=h i a
 simpa [a,b] using this
section
variable {P : Program} {ops : Array Oper} {Q : BZ} {T : Act → World → Prop}
theorem P1 {i:Nat} {a:Act} {w:World} {K e:Act→World→Prop} (h:wpOp P ops (CQ T Q) i K a w) (f:∀a w,K a w→e a w):wpOp P ops Q i e a w:=by
 refine wpOp_mono f ?_
 unfold wpOp at*
 split
 ·rename_i c;simp only [c] at h;exact h
 ·rename_i o c
  simp only [c] at h
  split
  ·rename_i b
   simp only [b,if_true] at h
   refine h.imp (fun h=> ?_) (fun h=>h)
   unfold Oper.wp at*
   generalize (execOp a.eval o).run P w=r at*
   cases r with
   |ok nx w' =>cases nx<;>exact h
   |halt x w' =>cases x<;>exact h
  ·rename_i b;simp only [b] at h;exact h
def LZ (ops:Array Oper) (S:List Nat) (L:Array Bool) (i:Nat):Bool:=match ops[i]? with
 |some o=>o.after.all fun e=> !Region.binds .any e||((L.getD e.on false||S.contains e.on) && decide (e.on<i))
 |none=>false
def MZ (ops:Array Oper) (S:List Nat) (L:Array Bool) (t:Nat):Bool:=match ops[t]? with
 |some o=>o.after.any fun e=>Region.binds .any e && (!L.getD e.on false && !S.contains e.on)
 |none=>true
def Te (ops:Array Oper) (S:List Nat) (b:Nat) (L:Array Bool):Bool:=
 decide (L.size=ops.size) && decide S.Nodup && S.all (fun i=>decide (i<ops.size) && !L.getD i true && LZ ops S L i && (range ops.size).any fun j=>decide (i<j) && (S.contains j||j==b) && Region.waitsFor .any ops j i) &&
 !S.contains b && (range ops.size).all fun t=>L.getD t true||S.contains t||t==b||MZ ops S L t
structure UQ (ops:Array Oper) (S:List Nat) (L0 L:Array Bool):Prop where
 size:L.size=ops.size
 ge:∀i,L0.getD i false=true→L.getD i false=true
 only:∀i,L.getD i false=true→L0.getD i false=true∨S.contains i=true
 closed:∀j o,S.contains j=true→ops[j]? =some o→L.getD j false=true→∀e ∈ o.after,Region.binds .any e=true→L.getD e.on false=true
theorem EZ {L:Array Bool} {i:Nat} (a:i<L.size):L.getD i true=L.getD i false:=by simp [a]
theorem Ro {S:List Nat} {b:Nat} {L0:Array Bool} {g:Nat} (hB:Te ops S b L0=true) (k:∀a w,T a w→wpAny P .any ops Q g (L7 S L0) a w):
  ∀(f:Nat) (L:Array Bool) (a:Act) (w:World),UQ ops S L0 L→(S.filter fun i=> !L.getD i true).length=f→
   wpAny P .any ops (CQ T Q) f (Gu S L) a w→wpAny P .any ops Q (f+g) L a w:=by
 simp only [Te,Bool.and_eq_true,decide_eq_true_eq,all_eq_true,mem_range,any_eq_true,Bool.or_eq_true,Bool.not_eq_true'] at hB
 obtain ⟨⟨⟨⟨hsz,I⟩,hS⟩,hbS⟩,J⟩:=hB
 intro f
 induction f with
 |zero=>
  intro L a w c hc h
  have hall:∀i ∈ S,L.getD i true=true:=fun i m=>by
   have s:=eq_nil_of_length_eq_zero hc
   rw [filter_eq_nil_iff] at s
   simpa using s i m
  have:L=L7 S L0:=by
   refine Lr (by rw [KW,c.size,hsz]) fun i m=> ?_
   have hi0:i<L0.size:=by rw [hsz,← c.size];exact m
   rw [M6 _ _ _ hi0,EZ m,EZ hi0]
   cases s:L.getD i false with
   |true=>
    rcases c.only i s with p|p
    ·rw [p];rfl
    ·rw [p,Bool.or_true]
   |false=>
    cases p:L0.getD i false with
    |true=>rw [c.ge i p] at s;cases s
    |false=>
     cases M:S.contains i with
     |false=>rfl
     |true=>
      have:=hall i (by simpa using M)
      rw [EZ m,s] at this
      cases this
  rw [Nat.zero_add,this]
  exact k a w h.2
 |succ f ih=>
  intro L a w c hc h
  -- the ready ones are the same
  have K:∀i,i ∈ Region.ready .any ops L↔i ∈ Region.ready .any ops (Gu S L):=by
   intro i
   rw [mem_ready,mem_ready]
   constructor
   ·rintro ⟨p,o,z,M⟩
    have m:i<ops.size:=(Array.getElem?_eq_some_iff.1 z).1
    have G:i<L.size:=by rw [c.size];exact m
    have D:S.contains i=true:=by
     refine Classical.byContradiction fun hn=> ?_
     have hn:S.contains i=false:=by simpa using hn
     rcases J i m with ((H|H)|H)|H
     ·have y:L0.getD i false=true:=by rw [← EZ (by omega)];exact H
      have:=c.ge i y
      rw [← EZ G,p] at this;cases this
     ·rw [hn] at H;cases H
     ·-- the barrier waits
      have H:i=b:=by simpa using H
      have key:∀d j,ops.size - j=d→S.contains j=true→L.getD j true=false→False:=by
       intro d
       induction d using Nat.strongRecOn with
       |_ d ihd=>
        intro j U l q
        obtain ⟨⟨⟨X,_⟩,_⟩,t,ht,⟨hjt,R⟩,hw⟩:=hS j (by simpa using l)
        obtain ⟨ot,Y,e,B,hbn,hon⟩:=Region.waitsFor_spec hw
        rcases R with R|htb
        ·cases hl:L.getD t true with
         |false=>exact ihd (ops.size - t) (by omega) t rfl R hl
         |true=>
          have htL:t<L.size:=by rw [c.size];exact ht
          have r:=c.closed t ot R Y (by rw [← EZ htL];exact hl) e B hbn
          rw [hon,← EZ (by rw [c.size];exact X),q] at r
          cases r
        ·have htb:t=b:=by simpa using htb
         have:ot=o:=by rw [htb,← H] at Y;exact Option.some.inj (Y.symm.trans z)
         subst this
         have r:=M e B hbn
         rw [hon,← EZ (by rw [c.size];exact X),q] at r
         cases r
      have hex:∃j ∈ S,L.getD j true=false:=by
       have F:(S.filter fun i=> !L.getD i true)≠[]:=fun s=>by rw [s] at hc;cases hc
       obtain ⟨j,l⟩:=exists_mem_of_ne_nil _ F
       rw [mem_filter] at l
       exact ⟨j,l.1,by simpa using l.2⟩
      obtain ⟨j,l,q⟩:=hex
      exact key _ j rfl (by simpa using l) q
     ·simp only [MZ,z] at H
      obtain ⟨e,B,A⟩:=Array.any_eq_true'.1 H
      simp only [Bool.and_eq_true,Bool.not_eq_true'] at A
      have y:=M e B A.1
      rcases c.only _ y with r|r
      ·rw [A.2.1] at r;cases r
      ·rw [A.2.2] at r;cases r
    refine ⟨by rw [ER _ G,p,D];rfl,o,z,fun e B A=> ?_⟩
    have y:=M e B A
    have u:e.on<L.size:=by
     rcases Nat.lt_or_ge e.on L.size with h|h
     ·exact h
     ·simp [Array.getElem?_eq_none h] at y
    rw [ER _ u,EZ u,y];rfl
   ·rintro ⟨p,o,z,M⟩
    have m:i<ops.size:=(Array.getElem?_eq_some_iff.1 z).1
    have G:i<L.size:=by rw [c.size];exact m
    rw [ER _ G,Bool.or_eq_false_iff] at p
    have D:S.contains i=true:=by simpa using p.2
    refine ⟨p.1,o,z,fun e B A=> ?_⟩
    have y:=M e B A
    have u:e.on<L.size:=by
     rcases Nat.lt_or_ge e.on L.size with h|h
     ·exact h
     ·simp [Array.getElem?_eq_none (show (Gu S L).size≤e.on by rw [GE];exact h)] at y
    rw [ER _ u,EZ u,Bool.or_eq_true] at y
    rcases y with y|y
    ·exact y
    ·have U:=(hS i (by simpa using D)).1.2
     simp only [LZ,z] at U
     have r:=Array.all_eq_true_iff_forall_mem.1 U e B
     simp only [A,Bool.not_true,Bool.false_or,Bool.and_eq_true,Bool.or_eq_true] at r
     rcases r.1 with h6|h6
     ·exact c.ge _ h6
     ·rw [h6] at y;cases y
  have W:Region.ready .any ops L=Region.ready .any ops (Gu S L):=by
   unfold Region.ready
   refine filter_congr fun i m=> ?_
   have p:=K i
   unfold Region.ready at p
   rw [mem_filter,mem_filter] at p
   have M:=List.mem_range.1 m
   simp only [m,true_and] at p
   exact Bool.eq_iff_iff.2 p
  -- one of them is there
  have F:Region.ready .any ops L≠[]:=by
   have hex:∃j ∈ S,L.getD j true=false:=by
    have F:(S.filter fun i=> !L.getD i true)≠[]:=fun s=>by rw [s] at hc;cases hc
    obtain ⟨j,l⟩:=exists_mem_of_ne_nil _ F
    rw [mem_filter] at l
    exact ⟨j,l.1,by simpa using l.2⟩
   have key:∀j,j ∈ S→L.getD j true=false→∃i,i ∈ Region.ready .any ops L:=by
    intro j
    induction j using Nat.strongRecOn with
    |_ j ihj=>
     intro l q
     obtain ⟨⟨⟨X,_⟩,U⟩,_⟩:=hS j l
     cases z:ops[j]? with
     |none=>simp [LZ,z] at U
     |some o=>
      simp only [LZ,z] at U
      by_cases hall:∀e ∈ o.after,Region.binds .any e=true→L.getD e.on false=true
      ·exact ⟨j,mem_ready.2 ⟨q,o,z,hall⟩⟩
      ·simp only [Classical.not_forall] at hall
       obtain ⟨e,B,A,hnl⟩:=hall
       have r:=Array.all_eq_true_iff_forall_mem.1 U e B
       simp only [A,Bool.not_true,Bool.false_or,Bool.and_eq_true,Bool.or_eq_true,decide_eq_true_eq] at r
       rcases r.1 with h6|h6
       ·exact absurd (c.ge _ h6) hnl
       ·have u:e.on<L.size:=by rw [c.size];omega
        exact ihj e.on r.2 (by simpa using h6) (by rw [EZ u];simpa using hnl)
   obtain ⟨j,l,q⟩:=hex
   obtain ⟨i,m⟩:=key j l q
   intro s;rw [s] at m;cases m
  rw [show f+1+g=(f+g)+1 by omega]
  refine ⟨fun s=>absurd s F,fun i m=> ?_⟩
  have Z:=(K i).1 m
  refine P1 (h.2 i Z) fun a' w' h' => ?_
  obtain ⟨q,o,z,hdeps⟩:=mem_ready.1 m
  have his:i<ops.size:=(Array.getElem?_eq_some_iff.1 z).1
  have G:i<L.size:=by rw [c.size];exact his
  have D:S.contains i=true:=by
   have:=(mem_ready.1 Z).1
   rw [ER _ G,Bool.or_eq_false_iff] at this
   simpa using this.2
  have hoth:Gu S (L.setIfInBounds i true)=(Gu S L).setIfInBounds i true:=by
   refine Lr (by simp [GE]) fun j l=> ?_
   have N:j<L.size:=by simpa [GE] using l
   rw [ER _ (by simpa using N),Jz L i j true N,Jz (Gu S L) i j true (by rw [GE];exact N),ER _ N,Bool.or_assoc,Bool.or_assoc,Bool.or_comm (i==j)]
  refine ih (L.setIfInBounds i true) a' w' ⟨by simpa using c.size,fun j l=>getD_set_true (c.ge j l),fun j l=> ?_,fun j oj hjS hoj l e B A=> ?_⟩ ?_ (by rw [hoth];exact h')
  ·by_cases hij:i=j
   ·subst hij;exact .inr D
   ·rw [getD_set_ne false hij] at l;exact c.only j l
  ·by_cases hij:i=j
   ·subst hij
    have:oj=o:=Option.some.inj (hoj.symm.trans z)
    subst this
    exact getD_set_true (hdeps e B A)
   ·rw [getD_set_ne false hij] at l
    exact getD_set_true (c.closed j oj hjS hoj l e B A)
  ·have V:i ∈ S:=by simpa using D
   have hsz' :∀j ∈ S,j<L.size:=fun j l=>by rw [c.size];exact (hS j l).1.1.1
   clear h h' W K F m Z k ih hS J
   have gen:∀(S:List Nat),S.Nodup→i ∈ S→(∀j ∈ S,j<L.size)→(S.filter fun j=> !(L.setIfInBounds i true).getD j true).length+1=(S.filter fun j=> !L.getD j true).length:=by
    intro S
    induction S with
    |nil=>intro _ h;cases h
    |cons x S ihS=>
     intro I m hlt
     rw [nodup_cons] at I
     have hx:=hlt x (by simp)
     by_cases hxi:x=i
     ·subst hxi
      have p:∀j ∈ S,(!(L.setIfInBounds x true).getD j true)= !L.getD j true:=fun j l=>by
       rw [getD_set_ne true (by rintro rfl;exact I.1 l)]
      have M:(!(L.setIfInBounds x true).getD x true)=false:=by rw [Jz _ _ _ _ hx];simp
      rw [filter_cons,filter_cons,M,filter_congr p]
      have H:(!L.getD x true)=true:=by rw [q];rfl
      rw [H]
      simp
     ·have hi' :i ∈ S:=by
       rcases List.mem_cons.1 m with h|h
       ·exact absurd h.symm hxi
       ·exact h
      have p:=ihS I.2 hi' fun j l=>hlt j (by simp [l])
      rw [filter_cons,filter_cons,getD_set_ne true (Ne.symm hxi)]
      cases hl:L.getD x true with
      |true=>simp only [Bool.not_true,Bool.false_eq_true,if_false];exact p
      |false=>simp only [Bool.not_false,if_true,length_cons];omega
   have:=gen S I V hsz'
   omega
end
section
variable {P : Program} {Q : BZ} {n : Nat} {E : CR} {w : World} {l0 : List Oper}
theorem Fc {St:Type} {f g:Nat} {e:Array Bool} (S:List Nat) (b:Nat) (u:St→CR) (I:St→World→Prop) (z:Te l0.toArray S b e=true) (q:S.length+g=f)
  (h:Aw P l0 (CQ (fun p c=>∃s,CE n (u s) p∧I s c) Q) n S.length (Gu S e) E w)
  (k:∀s c,I s c→Aw P l0 Q n g (L7 S e) (u s) c):Aw P l0 Q n f e E w:=fun a D=>by
 subst q
 have m:=z
 simp only [Te,Bool.and_eq_true,decide_eq_true_eq,all_eq_true] at m
 obtain ⟨⟨⟨⟨l,_⟩,y⟩,_⟩,_⟩:=m
 refine Ro z (fun p c ⟨s,q,t⟩=>k s c t p q) S.length e a w ⟨l,fun _ h=>h,fun _ h=> .inl h,fun j o F A B=> ?_⟩ ?_ (h a D)
 ·have r:=y j (by simpa using F)
  have x:e.getD j true=false:=by simpa using r.1.1.2
  rw [EZ (by rw [l];exact (Array.getElem?_eq_some_iff.1 A).1),B] at x
  cases x
 ·congr 1
  rw [filter_eq_self]
  intro i t
  exact (y i t).1.1.2
theorem E9 {St:Type} {a:St→CR} {I:St→World→Prop} (s:St) (b:Q5 E (a s)) (c:I s w):Pw n E (fun g e=>∃s,CE n (a s) g∧I s e) w:=fun _ f=>⟨s,f.sub b,c⟩
end
section
variable {P : Program} {ops : Array Oper} {Q : BZ} {C : World → Prop}
def Gs (P:Program) (ops:Array Oper) (Q:BZ) (C:World→Prop):Nat→Array Bool→Act→World→Prop
 |0,listed,a,w=>Region.ready .any ops listed=[]∧Q .normal a w
 |fuel+1,listed,a,w=>
  (Region.ready .any ops listed=[]→Q .normal a w)∧
  ∀i ∈ Region.ready .any ops listed,wpOp P ops Q i (fun a' w' =>C w' ∧Gs P ops Q C fuel (listed.setIfInBounds i true) a' w') a w
theorem JD:∀(fuel:Nat) (listed:Array Bool) (a:Act) (w:World),Gs P ops Q C fuel listed a w→wpAny P .any ops Q fuel listed a w
 |0,_,_,_,h=>h
 |fuel+1,_,_,_,h=>⟨h.1,fun i b=>wpOp_mono (fun _ _ c=>JD fuel _ _ _ c.2) (h.2 i b)⟩
def EN (P:Program) (ops:Array Oper) (C:World→Prop) (o:Oper) (v:Value) (a:Act):Prop:=
 (Region.wanted o (yielded ops a.tmps)=true∧∀w,C w→(execOp a.eval o).run P w= .ok (.value v) w)∨
 (Region.wanted o (yielded ops a.tmps)=false∧v=undef)
theorem EN.of_same {o:Oper} {v:Value} {a b:Act} (f:EN P ops C o v a) (e:execOp b.eval o=execOp a.eval o)
  (c:Region.wanted o (yielded ops b.tmps)=Region.wanted o (yielded ops a.tmps)):EN P ops C o v b:=by
 unfold EN at*
 rw [e,c]
 exact f
theorem EN.wpOp {i:Nat} {o:Oper} {v:Value} {a:Act} (g:ops[i]? =some o) (f:EN P ops C o v a)
  {K:Act→World→Prop} {w:World} (c:C w) (h:K (a.put o.dst v) w):wpOp P ops Q i K a w:=by
 unfold Go.wpOp
 simp only [g]
 rcases f with ⟨b,e⟩|⟨b,rfl⟩
 ·simp only [b,if_true,Oper.wp,e w c,Oper.upon];exact .inl h
 ·simp only [b,Bool.false_eq_true,if_false];exact h
theorem P2 {j:Nat} {k m:Oper} {v:Value} (L:ops[j]? =some m) (A:k.apart ops m=true)
  (F:∀cs b,k.op≠ .select cs b) (y:∀cs b,m.op≠ .select cs b)
  (H:∀c a w,Q (.panic c) (a.put k.dst v) w→Q (.panic c) a w) {K:Act→World→Prop} {a:Act} {w:World}
  (o:EN P ops C k v a) (h:wpOp P ops Q j K (a.put k.dst v) w):
  wpOp P ops Q j (fun I z=>EN P ops C k v I∧K (I.put k.dst v) z) a w:=by
 obtain ⟨B,s,J⟩:=Oper.apart_spec A
 have g:∀(a:Act),EN P ops C k v a→∀u,EN P ops C k v (a.put m.dst u):=fun a o u=>
  o.of_same (execOp_put k F a m.dst u J) (wanted_put k a m.dst u J)
 have p:∀d,EN P ops C k v {a with defers:=d::a.defers}:=fun d=>o.of_same rfl rfl
 unfold wpOp at*
 simp only [L] at*
 rw [wanted_put m a k.dst v B] at h
 split
 ·rename_i D
  simp only [D,if_true] at h
  rcases h with h|⟨l,q⟩
  case inr=>exact .inr ⟨by unfold Oper.asks at*;rw [execOp_put m y a k.dst v B] at l;exact l,q⟩
  refine .inl ?_
  unfold Oper.wp at*
  rw [execOp_put m y a k.dst v B] at h
  generalize (execOp a.eval m).run P w=r at*
  cases r with
  |ok n z=>
   cases n<;>simp only [Oper.upon] at h ⊢
   case value u=>exact ⟨g a o u,by rw [← Act.put_comm a v u s];exact h⟩
   case skip=>exact ⟨g a o _,by rw [← Act.put_comm a v undef s];exact h⟩
   case defer d=>
    refine ⟨g _ (p d) _, ?_⟩
    rw [← Act.put_comm _ v undef s,← Act.put_defers]
    exact h
   case enter f args=>
    refine Calls.mono h fun e G t=> ?_
    cases e with
    |returned u=>exact ⟨g a o u,by rw [← Act.put_comm a v u s];exact t⟩
    |panicked c=>exact H _ _ _ t
    |outgrown=>exact t
   case row row args=>exact Rows.mono h fun u G t=>⟨g a o u,by rw [← Act.put_comm a v u s];exact t⟩
  |halt x z=>
   cases x<;>simp only [Oper.upon] at h ⊢
   case panic u=>exact H _ _ _ h
 ·rename_i D
  simp only [D] at h
  exact ⟨g a o _,by rw [← Act.put_comm a v undef s];exact h⟩
theorem GW {i:Nat} {q:Oper} {v:Value} (J:ops[i]? =some q) (m:∀(j:Nat) (o:Oper) cs b,ops[j]? =some o→o.op≠ .select cs b)
  (R:∀c a w,Q (.panic c) (a.put q.dst v) w→Q (.panic c) a w):
  ∀(fuel:Nat) (listed:Array Bool) (a:Act) (w:World),C w→
   (∀j t,ops[j]? =some t→j≠i→listed.getD j true=false→(∀e ∈ t.after,Region.binds .any e=true→e.on≠i)→q.apart ops t=true)→
   i ∈ Region.ready .any ops listed→EN P ops C q v a→
   Gs P ops Q C fuel (listed.setIfInBounds i true) (a.put q.dst v) w→Gs P ops Q C (fuel+1) listed a w:=by
 intro fuel
 induction fuel with
 |zero=>
  intro listed a w u _ s z H
  refine ⟨fun h=>(by rw [h] at s;cases s),fun j B=> ?_⟩
  by_cases hji:j=i
  ·subst hji;exact z.wpOp J u ⟨u,H⟩
  ·have:=ready_mono B hji
   rw [H.1] at this
   cases this
 |succ fuel ih=>
  intro listed a w u f s z H
  refine ⟨fun h=>(by rw [h] at s;cases s),fun j B=> ?_⟩
  by_cases hji:j=i
  ·subst hji;exact z.wpOp J u ⟨u,H⟩
  ·have r:=H.2 j (ready_mono B hji)
   obtain ⟨l,t,p,hall⟩:=mem_ready.1 B
   have x:∀e ∈ t.after,Region.binds .any e=true→e.on≠i:=fun e V N G=>by
    have r:=hall e V N
    have K:=(mem_ready.1 s).1
    rw [G] at r
    rcases Nat.lt_or_ge i listed.size with I|I
    ·simp [I] at K r;rw [K] at r;cases r
    ·simp [Array.getElem?_eq_none I] at r
   have M:=P2 p (f j t p hji l x) (fun cs b=>m i q cs b J) (fun cs b=>m j t cs b p) R z r
   have g:∀k ok,ops[k]? =some ok→k≠i→(listed.setIfInBounds j true).getD k true=false→
     (∀e ∈ ok.after,Region.binds .any e=true→e.on≠i)→q.apart ops ok=true:=fun k ok S F y D=>by
    refine f k ok S F ?_ D
    by_cases hjk:j=k
    ·subst hjk;exact l
    ·rw [getD_set_ne true hjk] at y;exact y
   refine wpOp_mono (fun U L A=>⟨A.2.1,ih (listed.setIfInBounds j true) U L A.2.1 g (ready_mono s (Ne.symm hji)) A.1 ?_⟩) M
   rw [Array.setIfInBounds_comm _ _ hji]
   exact A.2.2
end
section
variable {P : Program} {Q : BZ} {n : Nat} {E : CR} {w : World} {l0 : List Oper} {ty : TypeId} {pos : String} {af : Array Edge} {C : World → Prop}
def AR (P:Program) (l0:List Oper) (Q:BZ) (C:World→Prop) (n fuel:Nat) (listed:Array Bool) (E:CR) (w:World):Prop:=C w∧∀a,CE n E a→Gs P l0.toArray Q C fuel listed a w
theorem Dg {fuel:Nat} {listed:Array Bool} (C:World→Prop) (h:C w→AR P l0 Q C n fuel listed E w) (c:C w):Aw P l0 Q n fuel listed E w:=fun a b=>JD _ _ _ _ ((h c).2 a b)
theorem AR.take {i d fuel:Nat} {op:Op} {v:Value} {listed:Array Bool} (p:AG Q) (g:DY l0 i=some ⟨some d,op,ty,pos,af,none⟩) (hs:Region.noSelect l0.toArray=true) (l:Region.free .any l0.toArray listed i=true)
  (o:(Region.ready .any l0.toArray listed).contains i=true) (h:∀w,C w→Ex P n E op ty w v) (j:Nat.blt d n=true) (k:AR P l0 Q C n fuel (listed.setIfInBounds i true) ((d,v)::E) w):AR P l0 Q C n (fuel+1) listed E w:=⟨k.1,fun a f=>
 GW (by rw [getElem?_toArray,CX];exact g) (Region.noSelect_spec hs) (fun c q e m=>p _ _ _ _ _ m) fuel listed a w k.1 (Region.free_spec (by rw [getElem?_toArray,CX];exact g) l) (by simpa using o)
  (.inl ⟨by simp [Region.wanted],fun e b=>h e b a f (some d) pos af none⟩) (k.2 _ (f.put v j))⟩
theorem C4 {i d j dj fuel:Nat} {op:Op} {v:Value} {g:Bool} {listed:Array Bool} (r:AG Q) (l:DY l0 i=some ⟨some d,op,ty,pos,af,some (j,g)⟩) (q:(DY l0 j).bind (·.dst)=some dj) (t:get E dj=some (.bool g)) (hs:Region.noSelect l0.toArray=true) (o:Region.free .any l0.toArray listed i=true)
  (s:(Region.ready .any l0.toArray listed).contains i=true) (h:∀w,C w→Ex P n E op ty w v) (m:Nat.blt d n=true) (k:AR P l0 Q C n fuel (listed.setIfInBounds i true) ((d,v)::E) w):AR P l0 Q C n (fuel+1) listed E w:=⟨k.1,fun a e=>
 GW (by rw [getElem?_toArray,CX];exact l) (Region.noSelect_spec hs) (fun c u f p=>r _ _ _ _ _ p) fuel listed a w k.1 (Region.free_spec (by rw [getElem?_toArray,CX];exact l) o) (by simpa using s)
  (.inl ⟨by simp [Region.wanted,FF e q t],fun f b=>h f b a e (some d) pos af (some (j,g))⟩) (k.2 _ (e.put v m))⟩
theorem Cy {i d j dj fuel:Nat} {op:Op} {g b:Bool} {listed:Array Bool} (q:AG Q) (f:DY l0 i=some ⟨some d,op,ty,pos,af,some (j,g)⟩) (p:(DY l0 j).bind (·.dst)=some dj) (s:get E dj=some (.bool b)) (o:(g==b)=false) (hs:Region.noSelect l0.toArray=true) (l:Region.free .any l0.toArray listed i=true)
  (r:(Region.ready .any l0.toArray listed).contains i=true) (h:Nat.blt d n=true) (k:AR P l0 Q C n fuel (listed.setIfInBounds i true) ((d,undef)::E) w):AR P l0 Q C n (fuel+1) listed E w:=⟨k.1,fun a e=>
 GW (by rw [getElem?_toArray,CX];exact f) (Region.noSelect_spec hs) (fun c u t m=>q _ _ _ _ _ m) fuel listed a w k.1 (Region.free_spec (by rw [getElem?_toArray,CX];exact f) l) (by simpa using r)
  (.inr ⟨by simp only [Region.wanted,FF e p s];cases g<;>cases b<;>simp_all,rfl⟩) (k.2 _ (e.put undef h))⟩
theorem Gj {fuel:Nat} {listed:Array Bool} (d:Nat) {g:Bool} (j:get E d=some (.bool g)) (f:g=true→AR P l0 Q C n fuel listed ((d, .bool true)::E) w) (k:g=false→AR P l0 Q C n fuel listed ((d, .bool false)::E) w):AR P l0 Q C n fuel listed E w:=by
 have key:∀b,g=b→AR P l0 Q C n fuel listed ((d, .bool b)::E) w→AR P l0 Q C n fuel listed E w:=fun b l h=>⟨h.1,fun a c=>h.2 a<|by
  subst l
  refine ⟨c.dfr,c.size,fun i u e=> ?_⟩
  by_cases hi:d=i
  ·subst hi;rw [CN] at e;exact c.has _ _ (j.trans e)
  ·rw [DL _ _ hi] at e;exact c.has _ _ e⟩
 cases g with
 |true=>exact key true rfl (f rfl)
 |false=>exact key false rfl (k rfl)
theorem Cq {fuel:Nat} {listed:Array Bool} (e:C w) (c:Region.ready .any l0.toArray listed=[]) (h:Pw n E (Q .normal) w):AR P l0 Q C n fuel listed E w:=⟨e,fun a b=>by
 cases fuel with
 |zero=>exact ⟨c,h a b⟩
 |succ f=>exact ⟨fun _=>h a b,by rw [c];simp⟩⟩
theorem AR.all {fuel:Nat} {listed:Array Bool} (s:C w) (f:List Nat) (p:Region.ready .any l0.toArray listed=f) (j:f≠[])
  (h:∀i ∈ f,∀o,DY l0 i=some o→Lw P l0 (CQ (fun c b=>C b∧Gs P l0.toArray Q C fuel (listed.setIfInBounds i true) c b) Q) n [o] E w):AR P l0 Q C n (fuel+1) listed E w:=⟨s,fun a t=>
 ⟨fun y=>absurd (p ▸ y) j,fun i q=>by
  have k:i ∈ f:=p ▸ q
  obtain ⟨_,o,m,_⟩:=mem_ready.1 q
  have l:DY l0 i=some o:=by rw [← CX,← getElem?_toArray];exact m
  have e:=h i k o l a t
  unfold wpList at e
  unfold wpOp
  simp only [m]
  have u:wpList P l0.toArray (CQ (fun c b=>C b∧Gs P l0.toArray Q C fuel (listed.setIfInBounds i true) c b) Q) []=fun c b=>C b∧Gs P l0.toArray Q C fuel (listed.setIfInBounds i true) c b:=by
   funext c b;rfl
  rw [u] at e
  split at e
  ·rename_i g
   rw [if_pos g]
   refine e.imp (fun h=> ?_) (fun h=>h)
   unfold Oper.wp at*
   generalize (execOp a.eval o).run P w=r at*
   cases r with
   |ok nx b=>cases nx<;>exact h
   |halt x b=>cases x<;>exact h
  ·rename_i g
   rw [if_neg g];exact e⟩⟩
theorem AR.only {i fuel:Nat} {o:Oper} {listed:Array Bool} (c:C w) (k:Region.ready .any l0.toArray listed=[i]) (e:DY l0 i=some o)
  (h:Lw P l0 (CQ (fun g b=>C b∧Gs P l0.toArray Q C fuel (listed.setIfInBounds i true) g b) Q) n [o] E w):AR P l0 Q C n (fuel+1) listed E w:=
 AR.all c [i] k (by simp) fun j f l a=>by
  obtain rfl:j=i:=by simpa using f
  obtain rfl:l=o:=Option.some.inj (a.symm.trans e)
  exact h
theorem Fo {i j fuel:Nat} {o q:Oper} {listed:Array Bool} (g:C w) (r:Region.ready .any l0.toArray listed=[i,j]) (l:DY l0 i=some o) (p:DY l0 j=some q)
  (h:Lw P l0 (CQ (fun e a=>C a∧Gs P l0.toArray Q C fuel (listed.setIfInBounds i true) e a) Q) n [o] E w)
  (k:Lw P l0 (CQ (fun e a=>C a∧Gs P l0.toArray Q C fuel (listed.setIfInBounds j true) e a) Q) n [q] E w):AR P l0 Q C n (fuel+1) listed E w:=
 AR.all g [i,j] r (by simp) fun m c f b=>by
  rcases List.mem_cons.1 c with rfl|c
  ·obtain rfl:f=o:=Option.some.inj (b.symm.trans l)
   exact h
  ·obtain rfl:m=j:=by simpa using c
   obtain rfl:f=q:=Option.some.inj (b.symm.trans p)
   exact k
theorem AR.back {fuel:Nat} {listed:Array Bool} {e:List Oper} (h:AR P l0 Q C n fuel listed E w):Lw P e (CQ (fun f b=>C b∧Gs P l0.toArray Q C fuel listed f b) Q) n [] E w:=fun a c=>wpList_nil ⟨h.1,h.2 a c⟩
end
section
variable {P : Program} {n : Nat} {E : CR} {w : World}
def UW {St:Type} (n:Nat) (Ei:St→CR) (I:St→World→Prop):BZ:=fun x a w=>x= .normal∧∃s,CE n (Ei s) a∧I s w
theorem Fm {St:Type} {c:Code} (e:St→CR) (I:St→World→Prop) {K:Act→World→Prop} {Q:BZ} (h:Cw P (UW n e I) n c E w) (k:∀s b,I s b→Pw n (e s) K b):Cw P (CQ K Q) n c E w:=fun a j=>
 Code.wp_mono (fun x l b f=>by
  obtain ⟨rfl,s,g,m⟩:=f
  exact k s b m l g) (h a j)
theorem Df {St:Type} {a:St→CR} {I:St→World→Prop} (s:St) (hs:Q5 E (a s)) (c:I s w):Pw n E (UW n a I .normal) w:=fun _ b=>⟨rfl,s,b.sub hs,c⟩
theorem Dc {St:Type} {a:St→CR} {I:St→World→Prop}:AG (UW n a I):=fun _ _ _ _ _ h=>by cases h.1
end
section
variable {P : Program} {Q : BZ} {n : Nat} {E : CR} {w : World} {l0 : List Oper} {ty : TypeId} {pos : String} {af : Array Edge} {C : World → Prop} {i d fuel : Nat} {op : Op} {v : Value} {listed : Array Bool}
def AJ (P:Program) (l0:List Oper) (Q:BZ) (C:World→Prop) (n fuel:Nat) (listed:Array Bool) (E:CR) (w:World):Prop:=AG Q→AR P l0 Q C n fuel listed E w
theorem Cf (a:AG Q) (k:AJ P l0 Q C n fuel listed E w):AR P l0 Q C n fuel listed E w:=k a
theorem B5 (k:AR P l0 Q C n fuel listed E w):AJ P l0 Q C n fuel listed E w:=fun _=>k
theorem Af (i : Nat) (f : DY l0 i = some ⟨some d, op, ty, pos, af, none⟩) (h : ∀ w, C w → Ex P n E op ty w v) (e : Nat.blt d n = true) (k : AJ P l0 Q C n fuel (listed.setIfInBounds i true) ((d, v) :: E) w)
    (hs:(Region.noSelect l0.toArray && Region.free .any l0.toArray listed i && (Region.ready .any l0.toArray listed).contains i)=true:=by kernel_rfl):AJ P l0 Q C n (fuel+1) listed E w:=fun c=>by
  have b:=(Bool.and_eq_true _ _).mp hs
  have a:=(Bool.and_eq_true _ _).mp b.1
  exact AR.take c f a.1 a.2 b.2 h e (k c)
end
end Go.Dd

namespace Go.Dd
open Go Go.RowKit
open List hiding get tail
def Ow (P:Program) (n:Nat) (E:CR) (o:Oper) (w:World) (R:Value→World→Prop):Prop:=
 ∀a,CE n E a→∀(K:Act→World→Prop) (Q:BZ),(∀v w',R v w' →K (a.put o.dst v) w')→o.wp P a w K Q
section
variable {P : Program} {Q : BZ} {n : Nat} {E : CR} {w : World} {ty : TypeId} {pos : String} {af : Array Edge} {op : Op} {R : Value → World → Prop} {gd : Option (Nat × Bool)}
theorem Ow.val {d:Nat} {v:Value} (h:Ex P n E op ty w v) (e:R v w):Ow P n E ⟨some d,op,ty,pos,af,gd⟩ w R:=fun a c K Q b=>by
 unfold Oper.wp;rw [h a c];exact b _ _ e
theorem Ow.mk {d:Nat} {c:Value→World→Prop} (h:Xw P n E op ty w c) (k:∀v b,c v b→R v b):Ow P n E ⟨some d,op,ty,pos,af,gd⟩ w R:=fun a e K Q i=>by
 obtain ⟨v,b,g,f⟩:=h a e
 unfold Oper.wp;rw [g];exact i _ _ (k _ _ f)
theorem D6 {c:World→Prop} (h:Xu P n E op ty w c) (k:∀b,c b→R undef b):Ow P n E ⟨none,op,ty,pos,af,gd⟩ w R:=fun a e K Q i=>by
 obtain ⟨b,g,f⟩:=h a e
 unfold Oper.wp;rw [g];exact i _ _ (k _ f)
theorem F6 {d:Nat} {f:FuncId} {args:List Value} {c:Value→World→Prop} (h:Xc P n E op ty w f args) (g:AK P f args w c) (k:∀v b,c v b→R v b):Ow P n E ⟨some d,op,ty,pos,af,gd⟩ w R:=fun a i K Q m=>by
 unfold Oper.wp;rw [h a i]
 exact g.2.mono fun e b ⟨v,j,l⟩=>by subst j;exact m _ _ (k _ _ l)
end
def CT (o:Oper):List Nat:=(o.after.toList.filter (Region.binds .any)).map (·.on)
def KK (l0:List Oper) (val:Nat→Value):List Nat→CR
 |[]=>[]
 |j::js=>match (DY l0 j).bind (·.dst) with
  |some d=>(d,val j)::KK l0 val js
  |none=>KK l0 val js
def BH (R:Nat→Oper→Prop):Nat→List Oper→Prop
 |_,[]=>True
 |k,o::l=>R k o∧BH R (k+1) l
theorem Cd {R:Nat→Oper→Prop} {k:Nat} {o:Oper} {l:List Oper} (h:R k o) (t:BH R (k+1) l):BH R k (o::l):=⟨h,t⟩
theorem Gq {R:Nat→Oper→Prop} {k:Nat}:BH R k []:=trivial
def N9 (L:Nat→Bool) (i:Nat):Nat→Bool:=fun j=>Nat.beq i j||L j
def DE (l:List Oper):List Nat:=l.filterMap (·.dst)
def JV:List Nat→Bool
 |[]=>true
 |x::l=> !l.contains x && JV l
def RS (l0:List Oper) (n:Nat):Bool:=
 (l0.zipIdx.all fun p=>p.1.guard.isNone && (CT p.1).all (fun j=>Nat.blt j p.2)) && (DE l0).all (fun d=>Nat.blt d n) && JV (DE l0)
def Ru (l0:List Oper) (n:Nat):Bool:=
 (l0.zipIdx.all fun p=>(match p.1.guard with
  |none=>true
  |some (j,_)=>(CT p.1).contains j && ((DY l0 j).bind (·.dst)).isSome) && (CT p.1).all (fun j=>Nat.blt j p.2)) && (DE l0).all (fun d=>Nat.blt d n) && JV (DE l0)
theorem J4 {l:List Oper} {i:Nat} {o:Oper} (h:DY l i=some o):o ∈ l:=by
 rw [← CX] at h;exact mem_of_getElem? h
theorem OL {R:Nat→Oper→Prop} {o:Oper}:∀(l:List Oper) (k i:Nat),BH R k l→DY l i=some o→R (k+i) o:=by
 intro l
 induction l with
 |nil=>intro k i _ e;simp [DY] at e
 |cons q l ih=>
  intro k i h e
  cases i with
  |zero=>
   have:q=o:=by simpa [DY] using e
   rw [← this];exact h.1
  |succ i=>
   have:=ih (k+1) i h.2 (by simpa [DY] using e)
   rwa [show k+1+i=k+(i+1) by omega] at this
theorem Hr:∀{l:List Nat},JV l=true→l.Nodup
 |[],_=>nodup_nil
 |x::l,h=>by
  simp only [JV,Bool.and_eq_true,Bool.not_eq_true'] at h
  exact List.nodup_cons.2 ⟨by simpa using h.1,Hr h.2⟩
theorem TE {o q:Oper} {d:Nat} (m:o.dst=some d) (p:q.dst=some d):∀(l:List Oper) (i j:Nat),(DE l).Nodup→DY l i=some o→DY l j=some q→i=j:=by
 intro l
 induction l with
 |nil=>intro i j _ h;simp [DY] at h
 |cons x l ih=>
  intro i j s g f
  have b:∀{k:Nat} {r:Oper},DY l k=some r→r.dst=some d→d ∈ DE l:=fun v A=>List.mem_filterMap.2 ⟨_,J4 v,A⟩
  have a:(DE l).Nodup∧(x.dst=some d→d ∉ DE l):=by
   cases hx:x.dst with
   |none=>exact ⟨by simpa [DE,hx] using s,fun h=>by cases h⟩
   |some e=>
    have:(e::DE l).Nodup:=by simpa [DE,hx] using s
    exact ⟨(List.nodup_cons.1 this).2,fun h=>by cases h;exact (List.nodup_cons.1 this).1⟩
  cases i with
  |zero=>
   have c:x=o:=by simpa [DY] using g
   cases j with
   |zero=>rfl
   |succ j=>exact absurd (b (by simpa [DY] using f) p) (a.2 (by rw [c];exact m))
  |succ i=>
   cases j with
   |zero=>
    have c:x=q:=by simpa [DY] using f
    exact absurd (b (by simpa [DY] using g) m) (a.2 (by rw [c];exact p))
   |succ j=>rw [ih i j a.1 (by simpa [DY] using g) (by simpa [DY] using f)]
section
variable {P : Program} {Q : BZ} {n : Nat} {E : CR} {w : World} {l0 : List Oper}
theorem IR {val:Nat→Value} {a:Act} (h:CE n E a):∀(c:List Nat),(∀j ∈ c,∀o d,DY l0 j=some o→o.dst=some d→a.tmps[d]? =some (val j))→CE n (KK l0 val c++E) a
 |[],_=>h
 |j::c,hv=>by
  have b:=IR h c (fun k g=>hv k (mem_cons_of_mem _ g))
  unfold KK
  cases hj:(DY l0 j).bind (·.dst) with
  |none=>exact b
  |some d=>
   obtain ⟨o,l,f⟩:∃o,DY l0 j=some o∧o.dst=some d:=by
    cases hn:DY l0 j with
    |none=>rw [hn] at hj;cases hj
    |some o=>rw [hn] at hj;exact ⟨o,rfl,hj⟩
   refine ⟨b.dfr,b.size,fun i v e=> ?_⟩
   simp only [cons_append,Dd.get] at e
   split at e
   ·rename_i m
    have:d=i:=Nat.eq_of_beq_eq_true m
    subst this;cases e
    exact hv j (by simp) o d l f
   ·exact b.has i v e
structure V7 {St:Type} (l0:List Oper) (n:Nat) (E:CR) (val:St→Nat→Value) (I:St→(Nat→Bool)→World→Prop) (s:St) (listed:Array Bool) (a:Act) (w:World):Prop where
 size:listed.size=l0.length
 fits:CE n E a
 vals:∀j o d,DY l0 j=some o→listed.getD j false=true→o.dst=some d→a.tmps[d]? =some (val s j)
 closed:∀j o,DY l0 j=some o→listed.getD j false=true→∀e ∈ CT o,listed.getD e false=true
 inv:I s (fun i=>listed.getD i false) w
theorem JU {l:List Oper} {i:Nat} {o:Oper} (h:DY l i=some o):i<l.length:=by
 rw [← CX] at h
 exact (List.getElem?_eq_some_iff.1 h).1
theorem JZ {o:Oper} {j:Nat}:j ∈ CT o↔∃e ∈ o.after,Region.binds .any e=true∧e.on=j:=by
 unfold CT
 simp only [mem_map,mem_filter,Array.mem_toList_iff]
 exact ⟨fun ⟨e,⟨b,a⟩,c⟩=>⟨e,b,a,c⟩,fun ⟨e,b,a,c⟩=>⟨e,⟨b,a⟩,c⟩⟩
theorem ID {i:Nat} {a:Array Bool} (hs:a.size=l0.length):i ∈ Region.ready .any l0.toArray a↔a.getD i false=false∧∃o,DY l0 i=some o∧∀e ∈ CT o,a.getD e false=true:=by
 rw [mem_ready]
 constructor
 ·rintro ⟨g,o,b,f⟩
  rw [getElem?_toArray,CX] at b
  have:=JU b
  refine ⟨by rw [← EZ (by omega)];exact g,o,b,fun j l=> ?_⟩
  obtain ⟨e,c,h,rfl⟩:=JZ.1 l
  exact f e c h
 ·rintro ⟨g,o,b,f⟩
  have:=JU b
  exact ⟨by rw [EZ (by omega)];exact g,o,by rw [getElem?_toArray,CX];exact b,fun e c h=>f _ (JZ.2 ⟨e,c,h,rfl⟩)⟩
theorem JL {a:Array Bool} (hs:a.size=l0.length) (f:∀i o,DY l0 i=some o→∀j ∈ CT o,j<i):∀(m i:Nat),i<m→i<l0.length→a.getD i false=false→Region.ready .any l0.toArray a≠[]
 |0,_,h,_,_=>by omega
 |m+1,i,hm,hi,hl=>by
  obtain ⟨o,g⟩:∃o,DY l0 i=some o:=⟨l0[i],by rw [← CX,getElem?_eq_getElem hi]⟩
  by_cases hall:∀e ∈ CT o,a.getD e false=true
  ·intro p
   have:i ∈ Region.ready .any l0.toArray a:=(ID hs).2 ⟨hl,o,g,hall⟩
   rw [p] at this;cases this
  ·obtain ⟨e,b⟩:=Classical.not_forall.1 hall
   obtain ⟨b,c⟩:=Classical.not_imp.1 b
   have l:=f i o g e b
   exact JL hs f m e (by omega) (by omega) (by cases h:a.getD e false with
    |false=>rfl
    |true=>exact absurd h c)
theorem RR {St:Type} {val:St→Nat→Value} {I:St→(Nat→Bool)→World→Prop} (hd:∀i o,DY l0 i=some o→(∀j g,o.guard=some (j,g)→j ∈ CT o∧∃dj,(DY l0 j).bind (·.dst)=some dj)∧∀j ∈ CT o,j<i) (hn:∀i o d,DY l0 i=some o→o.dst=some d→d<n) (C:(DE l0).Nodup) (hE:∀i o d,DY l0 i=some o→o.dst=some d→get E d=none)
  (X:∀i o,DY l0 i=some o→∀s L w,I s L w→L i=false→(∀e ∈ CT o,L e=true)→(∀j q,DY l0 j=some q→L j=true→∀e ∈ CT q,L e=true)→(∀j g,o.guard=some (j,g)→val s j= .bool g)∧
   Ow P n (KK l0 (val s) (CT o)++E) o w (fun v w' =>∃V,I V (N9 L i) w' ∧(∀j,L j=true→val V j=val s j)∧(o.dst.isSome=true→v=val V i)))
  (fin:∀s L w,I s L w→(∀i,i<l0.length→L i=true)→Pw n (KK l0 (val s) (range l0.length)++E) (Q .normal) w):
  ∀(f:Nat) (s:St) (b:Array Bool) (a:Act) (w:World),V7 l0 n E val I s b a w→((range l0.length).filter fun i=> !b.getD i false).length=f→wpAny P .any l0.toArray Q f b a w:=by
 intro f
 induction f with
 |zero=>
  intro s b a w h hf
  have hall:∀i,i<l0.length→b.getD i false=true:=fun i hi=>by
   cases r:b.getD i false with
   |true=>rfl
   |false=>
    have T:i ∈ (range l0.length).filter fun i=> !b.getD i false:=List.mem_filter.2 ⟨List.mem_range.2 hi,by simp [r]⟩
    rw [List.length_eq_zero_iff.1 hf] at T
    cases T
  have hr:Region.ready .any l0.toArray b=[]:=by
   cases hr:Region.ready .any l0.toArray b with
   |nil=>rfl
   |cons i rs=>
    have hi:i ∈ Region.ready .any l0.toArray b:=by rw [hr];simp
    obtain ⟨J,o,m, -⟩:=(ID h.size).1 hi
    rw [hall i (JU m)] at J;cases J
  refine ⟨hr,fin s _ w h.inv hall a (IR h.fits _ fun j U o d m G=>h.vals j o d m (hall j (JU m)) G)⟩
 |succ f ih=>
  intro s b a w h hf
  refine ⟨fun h0=> ?_,fun i hi=> ?_⟩
  ·exfalso
   obtain ⟨i,T⟩:∃i,i ∈ (range l0.length).filter fun i=> !b.getD i false:=by
    cases r:(range l0.length).filter fun i=> !b.getD i false with
    |nil=>rw [r] at hf;cases hf
    |cons i _=>exact ⟨i,by simp⟩
   obtain ⟨J,N⟩:=List.mem_filter.1 T
   exact JL h.size (fun i o m=>(hd i o m).2) (i+1) i (by omega) (List.mem_range.1 J) (by simpa using N) h0
  ·obtain ⟨J,o,m,N⟩:=(ID h.size).1 hi
   have W:=JU m
   have st:=X i o m s _ w h.inv J N h.closed
   have hgd:=st.1
   have st:=st.2 a (IR h.fits _ fun j U q d A c=>h.vals j q d A (N j U) c)
   unfold wpOp
   rw [getElem?_toArray,CX,m]
   simp only
   have H:Region.wanted o (yielded l0.toArray a.tmps)=true:=by
    unfold Region.wanted
    cases hog:o.guard with
    |none=>rfl
    |some p=>
     obtain ⟨j,g⟩:=p
     obtain ⟨U,dj,F⟩:=(hd i o m).1 j g hog
     obtain ⟨q,A,c⟩:∃q,DY l0 j=some q∧q.dst=some dj:=by
      cases hn:DY l0 j with
      |none=>rw [hn] at F;cases F
      |some q=>rw [hn] at F;exact ⟨q,rfl,F⟩
     have hv:=h.vals j q dj A (N j U) c
     have hy:yielded l0.toArray a.tmps j=some g:=by
      unfold yielded
      rw [getElem?_toArray,CX,F]
      simp [hv,hgd j g hog]
     simp only [hy]
     simp
   rw [if_pos H]
   refine .inl (st _ Q ?_)
   rintro v w' ⟨V,hI,Z,hv⟩
   have hsz:i<b.size:=by rw [h.size];exact W
   have D:∀j,(b.setIfInBounds i true).getD j false=N9 (fun i=>b.getD i false) i j:=fun j=>by
    unfold N9
    by_cases hij:i=j
    ·subst hij;simp [hsz]
    ·have:Nat.beq i j=false:=by
      cases hb:Nat.beq i j with
      |false=>rfl
      |true=>exact absurd (Nat.eq_of_beq_eq_true hb) hij
     rw [this,Bool.false_or,getD_set_ne false hij]
   refine ih V _ _ w' ⟨by simp [h.size], ?_, ?_, ?_, ?_⟩ ?_
   ·cases G:o.dst with
    |none=>exact h.fits
    |some d=>
     refine ⟨h.fits.dfr,by simp [Act.put,h.fits.size],fun k u hu=> ?_⟩
     have Y:d≠k:=fun e=>by subst e;rw [hE i o d m G] at hu;cases hu
     simp only [Act.put,Array.getElem?_setIfInBounds,if_neg Y]
     exact h.fits.has k u hu
   ·intro j q d A r c
    rw [D] at r
    by_cases hij:i=j
    ·subst hij
     obtain rfl:q=o:=Option.some.inj (A.symm.trans m)
     rw [hv (by rw [c];rfl),c]
     have:=hn i q d A c
     simp [Act.put,h.fits.size,this]
    ·have K:b.getD j false=true:=by
      unfold N9 at r
      have:Nat.beq i j=false:=by
       cases hb:Nat.beq i j with
       |false=>rfl
       |true=>exact absurd (Nat.eq_of_beq_eq_true hb) hij
      rw [this,Bool.false_or] at r;exact r
     have B:=Z j K
     cases G:o.dst with
     |none=>rw [B];exact h.vals j q d A K c
     |some e=>
      have Y:e≠d:=fun e' =>by subst e';exact hij (TE G c _ _ _ C m A)
      simp only [Act.put,Array.getElem?_setIfInBounds,if_neg Y]
      rw [B];exact h.vals j q d A K c
   ·intro j q A r e he
    rw [D] at r ⊢
    unfold N9 at r ⊢
    by_cases hij:i=j
    ·subst hij
     obtain rfl:q=o:=Option.some.inj (A.symm.trans m)
     rw [Bool.or_eq_true];exact .inr (N e he)
    ·have:Nat.beq i j=false:=by
      cases hb:Nat.beq i j with
      |false=>rfl
      |true=>exact absurd (Nat.eq_of_beq_eq_true hb) hij
     rw [this,Bool.false_or] at r
     rw [Bool.or_eq_true];exact .inr (h.closed j q A r e he)
   ·have:(fun j=>(b.setIfInBounds i true).getD j false)=N9 (fun i=>b.getD i false) i:=funext D
    rw [this];exact hI
   ·have key:∀(l:List Nat),l.Nodup→i ∈ l→(l.filter fun j=> !(b.setIfInBounds i true).getD j false).length+1=(l.filter fun j=> !b.getD j false).length:=by
     intro l
     induction l with
     |nil=>intro _ h;cases h
     |cons j l ihl=>
      intro C T
      obtain ⟨U,C⟩:=List.nodup_cons.1 C
      by_cases hij:i=j
      ·subst hij
       have e1:(l.filter fun j=> !(b.setIfInBounds i true).getD j false)=l.filter fun j=> !b.getD j false:=filter_congr fun k Y=>by
        have:i≠k:=fun e=>by subst e;exact U Y
        rw [getD_set_ne false this]
       have e2:(b.setIfInBounds i true).getD i false=true:=by simp [hsz]
       rw [filter_cons,filter_cons,e2,J,e1]
       simp
      ·have:=ihl C ((List.mem_cons.1 T).resolve_left hij)
       rw [filter_cons,filter_cons,getD_set_ne false hij]
       split
       ·simp only [length_cons];omega
       ·exact this
    have:=key _ nodup_range (List.mem_range.2 W)
    omega
theorem Qi (h:RS l0 n=true):(∀i o,DY l0 i=some o→o.guard=none∧∀j ∈ CT o,j<i)∧(∀i o d,DY l0 i=some o→o.dst=some d→d<n)∧(DE l0).Nodup:=by
 simp only [RS,Bool.and_eq_true,all_eq_true] at h
 obtain ⟨⟨g,f⟩,l⟩:=h
 refine ⟨fun i o b=> ?_,fun i o d b c=> ?_,Hr l⟩
 ·have a:(o,i) ∈ l0.zipIdx:=by
   rw [mem_zipIdx_iff_getElem?,CX];exact b
  have:=g _ a
  refine ⟨by simpa using this.1,fun j e=>by have:=this.2 j e;simpa [Nat.blt_eq] using this⟩
 ·have a:d ∈ DE l0:=List.mem_filterMap.2 ⟨o,J4 b,c⟩
  have:=f d a
  simpa [Nat.blt_eq] using this
theorem Qh (h:Ru l0 n=true):(∀i o,DY l0 i=some o→(∀j g,o.guard=some (j,g)→j ∈ CT o∧∃dj,(DY l0 j).bind (·.dst)=some dj)∧∀j ∈ CT o,j<i)∧(∀i o d,DY l0 i=some o→o.dst=some d→d<n)∧(DE l0).Nodup:=by
 simp only [Ru,Bool.and_eq_true,all_eq_true] at h
 obtain ⟨⟨m,l⟩,p⟩:=h
 refine ⟨fun i o b=> ?_,fun i o d b e=> ?_,Hr p⟩
 ·have a:(o,i) ∈ l0.zipIdx:=by
   rw [mem_zipIdx_iff_getElem?,CX];exact b
  have:=m _ a
  refine ⟨fun j g q=> ?_,fun j f=>by have:=this.2 j f;simpa [Nat.blt_eq] using this⟩
  have c:=this.1
  simp only [q,Bool.and_eq_true] at c
  exact ⟨by simpa using c.1,Option.isSome_iff_exists.1 c.2⟩
 ·have a:d ∈ DE l0:=List.mem_filterMap.2 ⟨o,J4 b,e⟩
  have:=l d a
  simpa [Nat.blt_eq] using this
def MC (l:List Oper) (E:CR):CR:=E.filter fun p=> !(DE l).contains p.1
theorem LV {l:List Oper}:∀(E:CR) (i:Nat),get (MC l E) i=if (DE l).contains i then none else get E i
 |[],i=>by simp [MC,Dd.get]
 |(j,v)::E,i=>by
  have b:=LV (l:=l) E i
  unfold MC at*
  rw [filter_cons]
  by_cases hj:(DE l).contains j=true
  ·simp only [hj,Bool.not_true,Bool.false_eq_true,if_false]
   rw [b]
   split
   ·rfl
   ·rename_i h
    have:j≠i:=fun e=>h (e ▸ hj)
    rw [DL v E this]
  ·have a:(DE l).contains j=false:=by simpa using hj
   simp only [a,Bool.not_false,if_true]
   by_cases e:j=i
   ·subst e
    rw [CN,CN,if_neg hj]
   ·rw [DL v _ e,DL v _ e,b]
theorem Cw.invG {K:Nat} {l:List Oper} {St:Type} (val:St→Nat→Value) (I:St→(Nat→Bool)→World→Prop) (D:St) (C:P.follows .mixedOrders=true) (T:Ru l n=true)
  (H:∀m,Below w.heap.size w m→I D (fun _=>false) m)
  (c:BH (fun i o=>∀s L w,I s L w→L i=false→(∀e ∈ CT o,L e=true)→(∀j q,DY l j=some q→L j=true→∀e ∈ CT q,L e=true)→(∀j g,o.guard=some (j,g)→val s j= .bool g)∧
   Ow P n (KK l (val s) (CT o)++MC l E) o w (fun v m=>∃r,I r (N9 L i) m∧(∀j,L j=true→val r j=val s j)∧(o.dst.isSome=true→v=val r i))) 0 l)
  (A:∀s L w,I s L w→(∀i,i<l.length→L i=true)→Pw n (KK l (val s) (range l.length)++MC l E) (Q .normal) w):Cw P Q n (.region K l.toArray true) E w:=fun a f=>by
 obtain ⟨J,G,N⟩:=Qh T
 refine wp_region_any C ?_
 have p:∀i,(Array.replicate l.length false).getD i false=false:=fun i=>getD_replicate_false _ _
 have f:CE n (MC l E) a:=⟨f.dfr,f.size,fun i v h=>f.has i v (by
  rw [LV] at h
  split at h
  ·cases h
  ·exact h)⟩
 refine RR (val:=val) (I:=I) J G N (fun i o d B F=> ?_) (fun i o B=>by have:=OL _ _ _ c B;rwa [Nat.zero_add] at this) A _ D _ a _ ⟨by simp,f,fun j o d _ b=> ?_,fun j o _ b=> ?_, ?_⟩ ?_
 ·have C:d ∈ DE l:=List.mem_filterMap.2 ⟨o,J4 B,F⟩
  rw [LV,if_pos (by simpa using C)]
 ·have:=p j;simp only [size_toArray] at b;rw [this] at b;cases b
 ·have:=p j;simp only [size_toArray] at b;rw [this] at b;cases b
 ·have:(fun i=>(Array.replicate l.toArray.size false).getD i false)=fun _=>false:=funext fun i=>by simpa using p i
  rw [this];exact H _ (G9 w)
 ·have:((range l.length).filter fun i=> !(Array.replicate l.toArray.size false).getD i false)=range l.length:=List.filter_eq_self.2 fun i _=>by
   have:=p i;simp only [size_toArray];rw [this];rfl
  rw [this];simp
theorem Jl {R a:Nat→Oper→Prop}:∀(l:List Oper) (k:Nat),(∀i o,DY l i=some o→R (k+i) o→a (k+i) o)→BH R k l→BH a k l
 |[],_,_,_=>trivial
 |o::l,k,h,⟨h1,h2⟩=>⟨h 0 o rfl h1,Jl l (k+1) (fun i q b c=>by have:=h (i+1) q b (by rwa [show k+1+i=k+(i+1) by omega] at c);rwa [show k+1+i=k+(i+1) by omega]) h2⟩
theorem UB (h:RS l0 n=true):Ru l0 n=true:=by
 simp only [RS,Ru,Bool.and_eq_true,all_eq_true] at h ⊢
 refine ⟨⟨fun p a=>⟨?_,(h.1.1 p a).2⟩,h.1.2⟩,h.2⟩
 have:=(h.1.1 p a).1
 cases hg:p.1.guard with
 |none=>rfl
 |some q=>rw [hg] at this;cases this
theorem Cw.inv {F:Nat} {l:List Oper} {St:Type} (val:St→Nat→Value) (I:St→(Nat→Bool)→World→Prop) (m:St) (K:P.follows .mixedOrders=true) (p:RS l n=true)
  (A:∀b,Below w.heap.size w b→I m (fun _=>false) b)
  (a:BH (fun i o=>∀s L w,I s L w→L i=false→(∀e ∈ CT o,L e=true)→(∀j q,DY l j=some q→L j=true→∀e ∈ CT q,L e=true)→
   Ow P n (KK l (val s) (CT o)++MC l E) o w (fun v b=>∃c,I c (N9 L i) b∧(∀j,L j=true→val c j=val s j)∧(o.dst.isSome=true→v=val c i))) 0 l)
  (f:∀s L w,I s L w→(∀i,i<l.length→L i=true)→Pw n (KK l (val s) (range l.length)++MC l E) (Q .normal) w):Cw P Q n (.region F l.toArray true) E w:=
 Cw.invG val I m K (UB p) A (Jl l 0 (fun i o G H s L w C r J B=>⟨fun j g h=>(by
  have D:=((Qi p).1 i o G).1
  rw [D] at h;cases h),H s L w C r J B⟩) a) f
end
def EF (w:World) (M:Nat) (d:TypeDesc) (S:Value→Value→Prop):Prop:=
 ∃es c,w.heap[M]? =some (.map es c)∧(∀x ∈ es.toList,MapKept.IsKey d x.key)∧∀k v,(∃x ∈ es.toList,x.key=k∧x.val=v)↔S k v
theorem EF.lt {w:World} {M:Nat} {d:TypeDesc} {S:Value→Value→Prop} (h:EF w M d S):M<w.heap.size:=by
 obtain ⟨a,c,h, -⟩:=h;exact (Array.getElem?_eq_some_iff.1 h).1
theorem EF.bs {w a:World} {M:Nat} {d:TypeDesc} {S:Value→Value→Prop} (h:EF w M d S) (g:Below w.heap.size w a):EF a M d S:=by
 have b:=h.lt
 obtain ⟨f,c,h,e⟩:=h
 exact ⟨f,c,by rw [g.block M b];exact h,e⟩
theorem EF.congr {w:World} {M:Nat} {d:TypeDesc} {S T:Value→Value→Prop} (h:EF w M d S) (b:∀k v,S k v↔T k v):EF w M d T:=by
 obtain ⟨e,c,h,a,f⟩:=h
 exact ⟨e,c,h,a,fun k v=>(f k v).trans (b k v)⟩
section
variable {P : Program} {n : Nat} {E : CR} {w : World} {ty : TypeId} {t kt et : TypeId} {d : TypeDesc} {M : Nat} {S : Value → Value → Prop} {x y z : Operand} {k u : Value}
theorem Gk:Xw P n E (.makeMap t none) ty w (fun v b=>v= .map (some w.heap.size)∧EF b w.heap.size d (fun _ _=>False)∧Below w.heap.size w b∧b.heap.size=w.heap.size+1):=fun a c=>by
 refine ⟨.map (some w.heap.size),w.alloc (.map #[] 0),fun _ _ _ _=> ?_,rfl,⟨#[],0,(MapKept.heap_alloc w _).1,by simp,by simp⟩,G6 w _,by simp⟩
 have:(Instr.makeMap t none).run P w= .ok (.map (some w.heap.size)) (w.alloc (.map #[] 0)):=rfl
 simp [execOp,this]
theorem Dk (K:P.underlying t=some (.map kt et)) (C:P.underlying kt=some d) (f:ev E x=some (.map (some M))) (I:ev E y=some k) (G:ev E z=some u) (q:MapKept.IsKey d k) (h:EF w M d S) (l:∀v,¬S k v):
  Xu P n E (.insert t x y z) ty w (fun m=>EF m M d (fun r v' =>S r v' ∨(r=k∧v' =u))∧w.grownBy m (some M)∧m.heap.size=w.heap.size):=fun a A=>by
 obtain ⟨s,c,i,g,B⟩:=h
 obtain ⟨H, -⟩|⟨j,e, -,L,p⟩:=MapKept.findNow_spec q s.toList 0 g
 ·refine ⟨{w with heap:=w.heap.setIfInBounds M (.map (s.push {key:=k,val:=u,born:=c}) (c+1))},fun _ _ _ _=> ?_,⟨_,_,(MapKept.heap_set i).1,fun x f=> ?_,fun r v' => ?_⟩,⟨rfl,rfl,rfl,by simp,fun b _ o=>(MapKept.heap_set i).2 b (fun e=>o (by rw [e]))⟩,by simp⟩
  ·have J:(Instr.mapUpdate t (.map (some M)) k u).run P w= .ok () {w with heap:=w.heap.setIfInBounds M (.map (s.push {key:=k,val:=u,born:=c}) (c+1))}:=by
    unfold Instr.mapUpdate
    simp only [Sem.run_bind,run_underlying K,Result.andThen,MapKept.run_getObj_map i,MapKept.run_checkKey C q,MapKept.run_findKey C H,MapKept.run_setObj_map _ i]
   simp [execOp,A.ev f,A.ev I,A.ev G,J]
  ·rw [Array.toList_push,mem_append] at f
   rcases f with f|f
   ·exact g x f
   ·rw [List.mem_singleton.1 f];exact q
  ·rw [Array.toList_push]
   constructor
   ·rintro ⟨x,f,rfl,rfl⟩
    rcases List.mem_append.1 f with f|f
    ·exact .inl ((B _ _).1 ⟨x,f,rfl,rfl⟩)
    ·rw [List.mem_singleton.1 f];exact .inr ⟨rfl,rfl⟩
   ·rintro (h|⟨rfl,rfl⟩)
    ·obtain ⟨x,f,F,D⟩:=(B _ _).2 h
     exact ⟨x,mem_append_left _ f,F,D⟩
    ·exact ⟨_,mem_append_right _ (List.mem_singleton.2 rfl),rfl,rfl⟩
 ·exact absurd ((B k e.val).1 ⟨e,mem_of_getElem? L,p,rfl⟩) (l _)
theorem HQ (o:P.underlying t=some (.map kt et)) (a:P.underlying kt=some d) (m:MapKept.IsKey d k) (h:EF w M d S) (b:Bool) {z:Value} (D:(zeroValue et).run P w= .ok z w):
  (∃v,S k v∧(Instr.lookup t (.map (some M)) k b).run P w= .ok (if b then .tuple #[v, .bool true] else v) w)∨((∀v,¬S k v)∧(Instr.lookup t (.map (some M)) k b).run P w= .ok (if b then .tuple #[z, .bool false] else z) w):=by
 obtain ⟨B,c,q,g,p⟩:=h
 obtain ⟨i,f⟩|⟨j,e,i,r,l⟩:=MapKept.findNow_spec m B.toList 0 g
 ·right
  refine ⟨fun v s=> ?_, ?_⟩
  ·obtain ⟨x,C,A, -⟩:=(p k v).2 s
   exact f x C A
  ·unfold Instr.lookup
   simp only [Sem.run_bind,run_underlying o,Result.andThen,MapKept.run_getObj_map q,MapKept.run_checkKey a m,MapKept.run_findKey a i,D,Sem.run_pure]
 ·left
  refine ⟨e.val,(p _ _).1 ⟨e,mem_of_getElem? r,l,rfl⟩, ?_⟩
  unfold Instr.lookup
  simp only [Sem.run_bind,run_underlying o,Result.andThen,MapKept.run_getObj_map q,MapKept.run_checkKey a m,MapKept.run_findKey a i,Sem.run_pure]
theorem Ex.look2 {v:Value} (g:P.underlying t=some (.map kt et)) (f:P.underlying kt=some d) (p:ev E x=some (.map (some M))) (l:ev E y=some k) (j:MapKept.IsKey d k) (h:EF w M d S) (q:∃i z,P.info? et=some i∧i.zero=some z) (m:S k v) (o:∀v',S k v' →v' =v):Ex P n E (.lookup t x y true) ty w (.tuple #[v, .bool true]):=fun a e _ _ _ _=>by
 obtain ⟨i,z,b,c⟩:=q
 rcases HQ g f j h true (z:=z) (by simp [zeroValue,typeInfo,b,c]) with ⟨v',b,c⟩|⟨b, -⟩
 ·rw [o v' b] at c
  simp [execOp,e.ev p,e.ev l,c]
 ·exact absurd m (b v)
theorem Ex.look2n {i:TypeInfo} {z:Value} (g:P.underlying t=some (.map kt et)) (f:P.underlying kt=some d) (o:ev E x=some (.map (some M))) (l:ev E y=some k) (j:MapKept.IsKey d k) (h:EF w M d S) (c:P.info? et=some i) (b:i.zero=some z) (m:∀v,¬S k v):Ex P n E (.lookup t x y true) ty w (.tuple #[z, .bool false]):=fun a e _ _ _ _=>by
 rcases HQ g f j h true (z:=z) (by simp [zeroValue,typeInfo,c,b]) with ⟨v',c,b⟩|⟨-,b⟩
 ·exact absurd c (m v')
 ·simp [execOp,e.ev o,e.ev l,b]
theorem Ex.look1 {v:Value} (g:P.underlying t=some (.map kt et)) (f:P.underlying kt=some d) (p:ev E x=some (.map (some M))) (l:ev E y=some k) (j:MapKept.IsKey d k) (h:EF w M d S) (q:∃i z,P.info? et=some i∧i.zero=some z) (m:S k v) (o:∀v',S k v' →v' =v):Ex P n E (.lookup t x y false) ty w v:=fun a e _ _ _ _=>by
 obtain ⟨i,z,b,c⟩:=q
 rcases HQ g f j h false (z:=z) (by simp [zeroValue,typeInfo,b,c]) with ⟨v',b,c⟩|⟨b, -⟩
 ·rw [o v' b] at c
  simp [execOp,e.ev p,e.ev l,c]
 ·exact absurd m (b v)
end
end Go.Dd

namespace Go.Dd
abbrev VC:=BitVec 32
def sm:Nat→(Nat→VC)→VC
 |0,_=>0#32
 |n+1,f=>sm n f+f n
def ad (n:Nat) (a b:List VC):List VC:=(List.range n).map fun i=>a.getD i default+b.getD i default
end Go.Dd

namespace Go.Dd
open Go Go.RowKit List
def RQ (f:Nat→Int):Nat→Int
 |0=>0
 |n+1=>RQ f n+f n
def I5 (f:Nat→Int):List Nat→Int
 |[]=>0
 |x::l=>f x+I5 f l
theorem Je (f:Nat→Int):∀(l m:List Nat),I5 f (l++m)=I5 f l+I5 f m
 |[],m=>by simp [I5]
 |x::l,m=>by simp only [cons_append,I5];rw [Je f l m];omega
theorem PW {f:Nat→Int} {l m:List Nat} (h:l.Perm m):I5 f l=I5 f m:=by
 induction h with
 |nil=>rfl
 |cons x _ ih=>simp only [I5];rw [ih]
 |swap x y l=>simp only [I5];omega
 |trans _ _ h1 h2=>rw [h1,h2]
theorem Kd (f:Nat→Int):∀n,I5 f (range n)=RQ f n
 |0=>rfl
 |n+1=>by rw [range_succ,Je,Kd f n];simp [RQ,I5]
theorem PL {l m:List Int} (h:l.Perm m):Shapes.prod l=Shapes.prod m:=by
 induction h with
 |nil=>rfl
 |cons x _ ih=>simp only [Shapes.prod];rw [ih]
 |swap x y l=>simp only [Shapes.prod];rw [← Int.mul_assoc,← Int.mul_assoc,Int.mul_comm x y]
 |trans _ _ h1 h2=>rw [h1,h2]
theorem UH {s:List Int} (h:Shapes.good s) {k:Nat} (a:k<s.length):1≤s.getD k default∧s.getD k default≤64:=by
 have:s.getD k default ∈ s:=by simp [a]
 exact h _ this
def R2 (o:List Int) (j:Nat):Bool:=decide (0≤o.getD j default) && decide (o.getD j default<(o.length:Int)) && !(o.take j).contains (o.getD j default)
def GR (o:List Int):Bool:=(range o.length).all (R2 o)
theorem IF {o:List Int}:GR o=true↔∀j,j<o.length→R2 o j=true:=by
 unfold GR
 rw [all_eq_true]
 exact ⟨fun h j a=>h j (List.mem_range.2 a),fun h j a=>h j (List.mem_range.1 a)⟩
theorem JR {o:List Int} (h:GR o=true) {j:Nat} (a:j<o.length):0≤o.getD j default∧o.getD j default<(o.length:Int):=by
 have:=IF.1 h j a
 simp only [R2,Bool.and_eq_true,decide_eq_true_eq] at this
 exact this.1
theorem U0 {o:List Int} (h:GR o=true) {i j:Nat} (g:i<j) (c:j<o.length):o.getD i default≠o.getD j default:=by
 intro e
 have:=IF.1 h j c
 simp only [R2,Bool.and_eq_true,Bool.not_eq_true'] at this
 have a:=this.2
 have b:o.getD j default ∈ o.take j:=by
  rw [← e]
  have d:i<o.length:=by omega
  have f:i<(o.take j).length:=by rw [length_take];omega
  have:(o.take j)[i]=o.getD i default:=by simp [d]
  rw [← this]
  exact getElem_mem f
 have:(o.take j).contains (o.getD j default)=true:=by simpa using b
 rw [this] at a
 cases a
def R0 (o:List Int):List Nat:=o.map Int.toNat
theorem Vl:∀a:Fin 1,[a.val].isPerm [0]=true:=by decide
theorem Vk:∀a b:Fin 2,a≠b→[a.val,b.val].isPerm [0,1]=true:=by decide
theorem Vj:∀a b c:Fin 3,a≠b→a≠c→b≠c→[a.val,b.val,c.val].isPerm [0,1,2]=true:=by decide+kernel
theorem Uz:∀a b c d:Fin 4,(a==b||a==c||a==d||b==c||b==d||c==d||[a.val,b.val,c.val,d.val].isPerm [0,1,2,3])=true:=by decide+kernel
theorem Vi (a b c d:Fin 4) (h:a≠b) (f:a≠c) (j:a≠d) (g:b≠c) (i:b≠d) (e:c≠d):[a.val,b.val,c.val,d.val].isPerm [0,1,2,3]=true:=by
 have:=Uz a b c d
 rw [beq_false_of_ne h,beq_false_of_ne f,beq_false_of_ne j,beq_false_of_ne g,beq_false_of_ne i,beq_false_of_ne e] at this
 exact this
theorem GJ {n:Nat} {a b:Fin n} (h:a.val≠b.val):a≠b:=fun e=>h (cngA Fin.val e)
theorem MB {o:List Int} (h:GR o=true) (m:o.length≤4):(R0 o).Perm (range o.length):=by
 have f:∀{j:Nat},j<o.length→(o.getD j default).toNat<o.length:=fun k=>by have:=JR h k;omega
 have g:∀{i j:Nat},i<j→j<o.length→(o.getD i default).toNat≠(o.getD j default).toNat:=fun l k e=>by
  have p:=JR h (j:=_) (Nat.lt_trans l k)
  have n:=JR h k
  exact U0 h l k (by omega)
 match o,m, @f, @g with
 |[],_,_,_=>exact List.Perm.refl _
 |[a],_,f,_=>exact List.isPerm_iff.1 (Vl ⟨_,f (j:=0) (by simp)⟩)
 |[a,b],_,f,g=>exact List.isPerm_iff.1 (Vk ⟨_,f (j:=0) (by simp)⟩ ⟨_,f (j:=1) (by simp)⟩ (GJ (g (i:=0) (j:=1) (by simp) (by simp))))
 |[a,b,c],_,f,g=>exact List.isPerm_iff.1 (Vj ⟨_,f (j:=0) (by simp)⟩ ⟨_,f (j:=1) (by simp)⟩ ⟨_,f (j:=2) (by simp)⟩ (GJ (g (i:=0) (j:=1) (by simp) (by simp))) (GJ (g (i:=0) (j:=2) (by simp) (by simp))) (GJ (g (i:=1) (j:=2) (by simp) (by simp))))
 |[a,b,c,d],_,f,g=>exact List.isPerm_iff.1 (Vi ⟨_,f (j:=0) (by simp)⟩ ⟨_,f (j:=1) (by simp)⟩ ⟨_,f (j:=2) (by simp)⟩ ⟨_,f (j:=3) (by simp)⟩ (GJ (g (i:=0) (j:=1) (by simp) (by simp))) (GJ (g (i:=0) (j:=2) (by simp) (by simp))) (GJ (g (i:=0) (j:=3) (by simp) (by simp))) (GJ (g (i:=1) (j:=2) (by simp) (by simp))) (GJ (g (i:=1) (j:=3) (by simp) (by simp))) (GJ (g (i:=2) (j:=3) (by simp) (by simp))))
 |_::_::_::_::_::_,m,_,_=>simp at m
def turn (s o:List Int):List Int:=o.map fun k=>s.getD k.toNat default
theorem GD (s o:List Int):(turn s o).length=o.length:=by simp [turn]
theorem SS {s o:List Int} {j:Nat} (h:j<o.length):(turn s o).getD j default=s.getD (o.getD j default).toNat default:=by simp [turn,h]
theorem NT (s:List Int):(range s.length).map (fun k=>s.getD k default)=s:=by
 apply ext_getElem (by simp)
 intro i b a
 simp [a]
theorem P5 {s o:List Int} (h:GR o=true) (a:o.length=s.length) (b:s.length≤4):Shapes.prod (turn s o)=Shapes.prod s:=by
 have p:=(MB h (by omega)).map fun k=>s.getD k default
 rw [a,NT] at p
 have e:turn s o=(R0 o).map fun k=>s.getD k default:=by simp [turn,R0]
 rw [e]
 exact PL p
theorem SR {s o:List Int} (hs:Shapes.ok s=true) (h:GR o=true) (b:o.length=s.length):Shapes.ok (turn s o)=true:=by
 have S:=(Shapes.ok_iff s).1 hs
 rw [Shapes.ok_iff,GD,P5 h b S.1.2,b]
 refine ⟨S.1, ?_,S.2.2⟩
 intro y d
 obtain ⟨k,c,rfl⟩:=List.mem_map.1 d
 obtain ⟨j,a,e⟩:=getElem_of_mem c
 have g:=JR h a
 rw [show o.getD j default=k by simp [a,e]] at g
 have f:k.toNat<s.length:=by omega
 refine S.2.1 _ ?_
 simp [f]
def FR (s:List Int) (k:Nat):List Int:=if s.length=1 then [1] else s.take k++s.drop (k+1)
theorem NU {s:List Int} {k:Nat} (h:k<s.length):Shapes.prod s=Shapes.prod (s.take k)*(s.getD k default*Shapes.prod (s.drop (k+1))):=by
 rw [← Shapes.prod_drop h,← Shapes.prod_append,take_append_drop]
theorem Lv {s:List Int} {k:Nat} (h:k<s.length):Shapes.prod (FR s k)=Shapes.prod (s.take k)*Shapes.prod (s.drop (k+1)):=by
 unfold FR
 split
 ·rename_i a
  obtain rfl:k=0:=by omega
  rw [take_zero,drop_of_length_le (by omega)];rfl
 ·exact Shapes.prod_append _ _
theorem N7 {s:List Int} {k:Nat} (hs:Shapes.ok s=true) (h:k<s.length):Shapes.ok (FR s k)=true:=by
 have S:=(Shapes.ok_iff s).1 hs
 rw [Shapes.ok_iff]
 have g:=Shapes.prod_pos (s:=s.take k) fun x a=>S.2.1 x (mem_of_mem_take a)
 have f:=(Shapes.ok_prod hs (k+1)).1
 have d:=UH S.2.1 h
 refine ⟨?_, ?_, ?_⟩
 ·unfold FR
  split
  ·simp
  ·rw [length_append,length_take,length_drop];omega
 ·unfold FR
  split
  ·intro x a;simp at a;subst a;omega
  ·intro x a
   rcases List.mem_append.1 a with a|a
   ·exact S.2.1 x (mem_of_mem_take a)
   ·exact S.2.1 x (mem_of_mem_drop a)
 ·rw [Lv h]
  have e:=NU h
  have c:1*Shapes.prod (s.drop (k+1))≤s.getD k default*Shapes.prod (s.drop (k+1)):=Int.mul_le_mul_of_nonneg_right d.1 (by omega)
  have b:Shapes.prod (s.take k)*(1*Shapes.prod (s.drop (k+1)))≤Shapes.prod (s.take k)*(s.getD k default*Shapes.prod (s.drop (k+1))):=Int.mul_le_mul_of_nonneg_left c (by omega)
  rw [Int.one_mul] at b
  omega

section
variable {P : Program} {n : Nat} {E : CR} {w : World} {ty t s : TypeId} {x y : Operand}
end
end Go.Dd

namespace Go.Dd.Crc
def NV:BitVec 32:=3988292384#32
def Q7 (r:BitVec 32):BitVec 32:=if r.getLsbD 0=true then (r>>>1) ^^^ NV else r>>>1
def iter:Nat→BitVec 32→BitVec 32
 |0,r=>r
 |k+1,r=>iter k (Q7 r)
def feed (r:BitVec 32) (c:BitVec 8):BitVec 32:=iter 8 (r ^^^ c.setWidth 32)
def run (r:BitVec 32) (l:List (BitVec 8)):BitVec 32:=l.foldl feed r
def on (s:BitVec 32) (l:List (BitVec 8)):BitVec 32:= ~~~ run (~~~ s) l
def of (l:List (BitVec 8)):BitVec 32:=on 0#32 l
theorem iter_succ' (k:Nat) (r:BitVec 32):iter (k+1) r=Q7 (iter k r):=by
 induction k generalizing r with
 |zero=>rfl
 |succ k ih=>rw [iter,ih];rfl
theorem TM (a b:BitVec 32):Q7 (a ^^^ b)=Q7 a ^^^ Q7 b:=by
 unfold Q7
 rw [BitVec.getLsbD_xor,BitVec.ushiftRight_xor_distrib]
 cases ha:a.getLsbD 0<;>cases hb:b.getLsbD 0<;>simp
 ·rw [BitVec.xor_assoc]
 ·rw [BitVec.xor_assoc,BitVec.xor_assoc,BitVec.xor_comm NV]
 ·have:(a>>>1 ^^^ NV) ^^^ (b>>>1 ^^^ NV)=(a>>>1 ^^^ b>>>1) ^^^ (NV ^^^ NV):=by
   ac_rfl
  rw [this,BitVec.xor_self,BitVec.xor_zero]
theorem RO (k:Nat) (a b:BitVec 32):iter k (a ^^^ b)=iter k a ^^^ iter k b:=by
 induction k generalizing a b with
 |zero=>rfl
 |succ k ih=>rw [iter,TM,ih];rfl
theorem Kj:∀(k:Nat) (r:BitVec 32),(∀i,i<k→r.getLsbD i=false)→iter k r=r>>>k
 |0,r,_=>by simp [iter]
 |k+1,r,h=>by
  have a:Q7 r=r>>>1:=by unfold Q7;rw [if_neg (by rw [h 0 (by omega)];simp)]
  rw [iter,a,Kj k (r>>>1) (fun i b=>by rw [BitVec.getLsbD_ushiftRight,Nat.add_comm];exact h (i+1) (by omega))]
  rw [← BitVec.shiftRight_add,Nat.add_comm]
def tab (c:BitVec 8):BitVec 32:=iter 8 (c.setWidth 32)
theorem feed_tab (r:BitVec 32) (c:BitVec 8):feed r c=tab (r.setWidth 8 ^^^ c) ^^^ r>>>8:=by
 unfold feed tab
 have h:r ^^^ c.setWidth 32=(r.setWidth 8 ^^^ c).setWidth 32 ^^^ (r &&& 4294967040#32):=by
  apply BitVec.eq_of_getLsbD_eq
  intro i a
  have b:(4294967040#32).getLsbD i=decide (8≤i):=by
   have:∀i:Fin 32,(4294967040#32).getLsbD i.val=decide (8≤i.val):=by decide
   exact this ⟨i,a⟩
  simp only [BitVec.getLsbD_xor,BitVec.getLsbD_setWidth,BitVec.getLsbD_and,b,a,decide_true,Bool.true_and]
  by_cases h8:i<8
  ·simp [h8,show ¬8≤i by omega]
  ·simp [h8,show 8≤i by omega]
 rw [h,RO,Kj 8 (r &&& 4294967040#32)]
 ·congr 1
  apply BitVec.eq_of_getLsbD_eq
  intro i a
  rw [BitVec.getLsbD_ushiftRight,BitVec.getLsbD_ushiftRight,BitVec.getLsbD_and]
  by_cases h24:8+i<32
  ·have:∀i:Fin 24,(4294967040#32).getLsbD (8+i.val)=true:=by decide
   rw [this ⟨i,by omega⟩,Bool.and_true]
  ·rw [BitVec.getLsbD_of_ge r _ (by omega),Bool.false_and]
 ·intro i a
  rw [BitVec.getLsbD_and]
  have:∀i:Fin 8,(4294967040#32).getLsbD i.val=false:=by decide
  rw [this ⟨i,a⟩,Bool.and_false]
theorem Pi (r:BitVec 32):(r.getLsbD 0=true∧r &&& 1#32=1#32)∨(r.getLsbD 0=false∧r &&& 1#32=0#32):=by
 have b:∀i,i<32→(1#32).getLsbD i=decide (i=0):=fun i a=>by
  have:∀i:Fin 32,(1#32).getLsbD i.val=decide (i.val=0):=by decide
  exact this ⟨i,a⟩
 cases h:r.getLsbD 0
 ·right
  refine ⟨rfl, ?_⟩
  apply BitVec.eq_of_getLsbD_eq
  intro i a
  rw [BitVec.getLsbD_and,b i a,BitVec.getLsbD_zero]
  by_cases h0:i=0
  ·subst h0;rw [h];rfl
  ·simp [h0]
 ·left
  refine ⟨rfl, ?_⟩
  apply BitVec.eq_of_getLsbD_eq
  intro i a
  rw [BitVec.getLsbD_and,b i a]
  by_cases h0:i=0
  ·subst h0;rw [h];rfl
  ·simp [h0]
theorem bit_prog (r:BitVec 32):r>>>1 ^^^ (3988292384#32 &&& -(r &&& 1#32))=Q7 r:=by
 unfold Q7
 rcases Pi r with ⟨h,a⟩|⟨h,a⟩
 ·rw [a,h,if_pos rfl]
  have:3988292384#32 &&& -(1#32)=NV:=by decide
  rw [this]
 ·rw [a,h,if_neg (by simp)]
  have:3988292384#32 &&& -(0#32)=0#32:=by decide
  rw [this,BitVec.xor_zero]
theorem bit_ref (r:BitVec 32):(if r &&& 1#32=1#32 then r>>>1 ^^^ 3988292384#32 else r>>>1)=Q7 r:=by
 unfold Q7
 rcases Pi r with ⟨h,a⟩|⟨h,a⟩
 ·rw [a,h,if_pos rfl,if_pos rfl];rfl
 ·rw [a,h,if_neg (by decide),if_neg (by simp)]
theorem run_append (r:BitVec 32) (a b:List (BitVec 8)):run r (a++b)=run (run r a) b:=List.foldl_append
def four (n:BitVec 32):List (BitVec 8):=[n.setWidth 8,(n>>>8).setWidth 8,(n>>>16).setWidth 8,(n>>>24).setWidth 8]
end Go.Dd.Crc

namespace Go.Dd
open Go Go.RowKit List
def Ts (a b c d:BitVec 8):BitVec 32:=a.setWidth 32|||b.setWidth 32<<<8|||c.setWidth 32<<<16|||d.setWidth 32<<<24
theorem LJ (a b c d:BitVec 8):(Ts a b c d).toNat=a.toNat+256*b.toNat+65536*c.toNat+16777216*d.toNat:=by
 have m:=a.isLt;have k:=b.isLt;have o:=c.isLt;have l:=d.isLt
 have f:a.setWidth 32|||b.setWidth 32<<<8=a.setWidth 32+b.setWidth 32<<<8:=by
  refine (BitVec.add_eq_or_of_and_eq_zero _ _ ?_).symm
  ext i hi
  simp only [BitVec.getElem_and,BitVec.getElem_shiftLeft,BitVec.getElem_setWidth,BitVec.getElem_zero]
  by_cases h:i<8
  ·simp [h]
  ·simp [BitVec.getLsbD_of_ge a i (by omega)]
 have g:(a.setWidth 32+b.setWidth 32<<<8)|||c.setWidth 32<<<16=(a.setWidth 32+b.setWidth 32<<<8)+c.setWidth 32<<<16:=by
  refine (BitVec.add_eq_or_of_and_eq_zero _ _ ?_).symm
  rw [← f]
  ext i hi
  simp only [BitVec.getElem_and,BitVec.getElem_or,BitVec.getElem_shiftLeft,BitVec.getElem_setWidth,BitVec.getElem_zero]
  by_cases h:i<16
  ·simp [h]
  ·simp [BitVec.getLsbD_of_ge a i (by omega),BitVec.getLsbD_of_ge b (i - 8) (by omega)]
 have j:((a.setWidth 32+b.setWidth 32<<<8)+c.setWidth 32<<<16)|||d.setWidth 32<<<24=((a.setWidth 32+b.setWidth 32<<<8)+c.setWidth 32<<<16)+d.setWidth 32<<<24:=by
  refine (BitVec.add_eq_or_of_and_eq_zero _ _ ?_).symm
  rw [← g,← f]
  ext i hi
  simp only [BitVec.getElem_and,BitVec.getElem_or,BitVec.getElem_shiftLeft,BitVec.getElem_setWidth,BitVec.getElem_zero]
  by_cases h:i<24
  ·simp [h]
  ·simp [BitVec.getLsbD_of_ge a i (by omega),BitVec.getLsbD_of_ge b (i - 8) (by omega),BitVec.getLsbD_of_ge c (i - 16) (by omega)]
 unfold Ts
 rw [f,g,j]
 simp only [BitVec.toNat_add,BitVec.toNat_setWidth,BitVec.toNat_shiftLeft,Nat.shiftLeft_eq]
 omega
theorem RF (n:BitVec 32):Ts (n.setWidth 8) ((n>>>8).setWidth 8) ((n>>>16).setWidth 8) ((n>>>24).setWidth 8)=n:=by
 apply BitVec.eq_of_toNat_eq
 rw [LJ]
 have:=n.isLt
 simp only [BitVec.toNat_setWidth,BitVec.toNat_ushiftRight,Nat.shiftRight_eq_div_pow]
 omega
theorem Sf (a b c d:BitVec 8):Crc.four (Ts a b c d)=[a,b,c,d]:=by
 have f:=a.isLt;have g:=b.isLt;have i:=c.isLt;have h:=d.isLt
 have e:=LJ a b c d
 unfold Crc.four
 congr 1
 ·apply BitVec.eq_of_toNat_eq;simp only [BitVec.toNat_setWidth];omega
 congr 1
 ·apply BitVec.eq_of_toNat_eq;simp only [BitVec.toNat_setWidth,BitVec.toNat_ushiftRight,Nat.shiftRight_eq_div_pow];omega
 congr 1
 ·apply BitVec.eq_of_toNat_eq;simp only [BitVec.toNat_setWidth,BitVec.toNat_ushiftRight,Nat.shiftRight_eq_div_pow];omega
 congr 1
 apply BitVec.eq_of_toNat_eq;simp only [BitVec.toNat_setWidth,BitVec.toNat_ushiftRight,Nat.shiftRight_eq_div_pow];omega
def CG (l:List (BitVec 32)):List (BitVec 8):=(l.map Crc.four).flatten
theorem FM (l:List (BitVec 32)):(CG l).length=4*l.length:=by
 unfold CG
 induction l with
 |nil=>rfl
 |cons x l ih=>rw [map_cons,flatten_cons,length_append,ih,length_cons];simp [Crc.four];omega
theorem HZ (x:BitVec 32) (l:List (BitVec 32)):CG (x::l)=Crc.four x++CG l:=rfl
theorem I9 (l m:List (BitVec 32)):CG (l++m)=CG l++CG m:=by unfold CG;simp
def nums:List (BitVec 8)→List (BitVec 32)
 |a::b::c::d::l=>Ts a b c d::nums l
 |_=>[]
theorem Kx:∀(n:Nat) (l:List (BitVec 8)),l.length=4*n→CG (nums l)=l
 |0,l,h=>by
  obtain rfl:l=[]:=eq_nil_of_length_eq_zero (by omega)
  rfl
 |n+1,a::b::c::d::l,h=>by
  have f:=Kx n l (by simp at h;omega)
  show CG (Ts a b c d::nums l)=_
  rw [HZ,Sf,f]
  rfl
 |n+1,[],h=>by simp at h
 |n+1,[_],h=>by simp at h;omega
 |n+1,[_,_],h=>by simp at h;omega
 |n+1,[_,_,_],h=>by simp at h;omega
theorem JT:∀(n:Nat) (l:List (BitVec 8)),l.length=4*n→(nums l).length=n:=fun n l h=>by
 have:=cngA length (Kx n l h)
 rw [FM] at this
 omega
theorem PR:∀(l:List (BitVec 8)) (i:Nat),4*i+4≤l.length→nums (l.drop (4*i))=Ts (l.getD (4*i) default) (l.getD (4*i+1) default) (l.getD (4*i+2) default) (l.getD (4*i+3) default)::nums (l.drop (4*(i+1))):=fun l i h=>by
 rw [drop_eq_getElem_cons (show 4*i<l.length by omega),drop_eq_getElem_cons (show 4*i+1<l.length by omega),drop_eq_getElem_cons (show 4*i+1+1<l.length by omega),drop_eq_getElem_cons (show 4*i+1+1+1<l.length by omega)]
 show Ts _ _ _ _::nums _=_
 rw [show 4*i+1+1+1+1=4*(i+1) by omega]
 simp [show 4*i<l.length by omega,show 4*i+1<l.length by omega,show 4*i+2<l.length by omega,show 4*i+3<l.length by omega]
theorem JS {l:List (BitVec 8)} (h:l.length<4):nums l=[]:=by
 match l,h with
 |[],_=>rfl
 |[_],_=>rfl
 |[_,_],_=>rfl
 |[_,_,_],_=>rfl
 |_::_::_::_::_,h=>simp at h;omega
theorem IB {α:Type} {ps:List (Value×List α)} {i:Nat} (h:i<ps.length):((ps.take (i+1)).map (·.2)).flatten=((ps.take i).map (·.2)).flatten++(ps.getD i default).2:=by
 rw [take_succ_eq_append_getElem h,map_append,flatten_append]
 congr 1
 simp [h]
theorem Me {α:Type} {ps:List (Value×List α)} (i:Nat):((ps.take i).map (·.2)).flatten.length≤(ps.map (·.2)).flatten.length:=by
 have h:ps.map (·.2)=(ps.take i).map (·.2)++(ps.drop i).map (·.2):=by rw [← map_append,take_append_drop]
 rw [h,flatten_append,length_append]
 omega
theorem GU {α:Type} [Inhabited α] {l:List α} {i:Nat} (h:i<l.length):l.getD i default ∈ l:=by
 simp [h]
theorem Iw {α:Type} {enc:α→Value} {z:α}:∀(n:Nat),(replicate n [enc z]).flatten=(replicate n z).map enc
 |0=>rfl
 |n+1=>by rw [replicate_succ,replicate_succ,flatten_cons,Iw n];rfl
section
variable {P : Program} {Q : BZ} {n : Nat} {E : CR} {w : World} {l0 rest : List Oper} {ty : TypeId} {pos : String} {af : Array Edge}
variable {x y z : Operand} {v u : Value} {t s e : TypeId} {sz : Nat} {p q : BitVec 32}
theorem Ex.mul32 (b:ev E x=some (u32 p)) (a:ev E y=some (u32 q)):Ex P n E (.binOp .mul t x y s) ty w (u32 (p*q)):=by
 refine (Ex.mul b a).as ?_
 have:IntKind.u32.wrap ((p.toNat:Int)*q.toNat)=((p*q).toNat:Int):=by rw [IntKind.wrap_u32,BitVec.toNat_mul];simp
 rw [this]
theorem Ex.quo32 (f:ev E x=some (u32 p)) (b:ev E y=some (u32 q)) (d:q≠0):Ex P n E (.binOp .quo t x y s) ty w (u32 (p / q)):=Dz f b (by
 have c:¬q.toNat=0:=fun h=>d (BitVec.eq_of_toNat_eq (by simpa using h))
 have a:IntKind.u32.wrap ((p.toNat:Int) / q.toNat)=((p / q).toNat:Int):=by
  rw [show (p / q).toNat=p.toNat / q.toNat from BitVec.toNat_udiv ..,IntKind.wrap_u32,← Int.natCast_ediv]
  have:=Nat.div_le_self p.toNat q.toNat
  have:=p.isLt
  generalize p.toNat / q.toNat=r at*
  omega
 simp [go_sem,Op.intDiv,c,a])
theorem Ex.rem32 (f:ev E x=some (u32 p)) (b:ev E y=some (u32 q)) (d:q≠0):Ex P n E (.binOp .rem t x y s) ty w (u32 (p % q)):=Dz f b (by
 have c:¬q.toNat=0:=fun h=>d (BitVec.eq_of_toNat_eq (by simpa using h))
 have a:(p.toNat:Int).tmod q.toNat=((p % q).toNat:Int):=by
  rw [show (p % q).toNat=p.toNat % q.toNat from BitVec.toNat_umod ..,Int.tmod_eq_emod_of_nonneg (by omega),← Int.natCast_emod]
 simp [go_sem,Op.intDiv,c,a])
theorem E5 (a:FO P t e sz) (b:ev E x=some (.slice none 0 0)):Ex P n E (.call {callee:= .builtin .cap,args:= #[x],argTypes:= #[t]}) ty w (.int .i64 0):=E4 a b
theorem Ga {k b:Nat} {B kn:IntKind} {tn:TypeId} {d:List Value} (J:FO P t e sz) (L:Hg P e d b) (l:d.length=sz) (S:0<sz) (j:P.underlying tn=some (.int kn)) (M:ev E x=some (.slice none 0 0)) (I:ev E y=some (.int B (k:Int))) (C:0<k) (R:k*b≤140737488355328) (T:k≤4611686018427387904):
  Xw P n E (.call {callee:= .builtin .append,args:= #[x,y],argTypes:= #[t,tn]}) ty w (fun v r=>∃cap xs,v= .slice (some ⟨w.heap.size,0,none⟩) k cap∧r.ownsRow w.heap.size e sz v k xs∧Below w.heap.size w r):=fun a A=>by
 subst l
 obtain ⟨i,G,N,K,zv,F,H⟩:=L.i
 subst K
 have g:=Lib.run_append_nil_zeros (P:=P) w t tn ty e i zv B kn J.u j G F k C (by omega) (by omega) (by omega)
 have f:=grownCap_ge w k 0 e
 have h:=grownCap_le_maxLen w k 0 e (by unfold maxLen;omega)
 have o:zv.cells.size=d.length:=by rw [H];simp
 have c:∀m,(Builtin.zeroCells zv.cells m).size=m*d.length:=fun m=>by simp [Builtin.zeroCells,o]
 refine ⟨_,_,fun _ _ _ _=>by simp [execOp,resolve,invoke,builtin,A.ev M,A.ev I,g],grownCap w k 0 e,((Builtin.zeroCells zv.cells k++Builtin.zeroCells zv.cells (grownCap w k 0 e - k)).toList.take (k*d.length)),rfl,⟨?_, .inr ⟨w.heap.size,_,_,rfl,AU _,heap_alloc_new w.drew _,f,h, ?_,rfl⟩⟩, ?_⟩
 ·simp only [length_take,Array.length_toList,Array.size_append,c];omega
 ·simp only [Array.size_append,c];rw [← Nat.add_mul];congr 1;omega
 ·exact ⟨rfl,rfl,rfl,by simp,fun k D=>heap_alloc_old w.drew _ D⟩
theorem Xw.copy {k m base:Nat} {K:TypeId} {xs c:List Value} (H:FO P t e 1) (U:(P.info? e).map (·.size)=some 1) (V:ev E x=some v) (S:ev E y=some u) (d:w.ownsRow base e 1 v k xs) (J:Sl w 1 u m c) (T:m≤k) (I:c.all (·.oneCell')=true):
  Xw P n E (.call {callee:= .builtin .copy,args:= #[x,y],argTypes:= #[t,K]}) ty w (fun r L=>r= .int .i64 (m:Int)∧L.ownsRow base e 1 v k (c++xs.drop m)∧w.grownBy L v.ownBlock∧L.heap.size=w.heap.size):=fun a B=>by
 obtain ⟨l,N,cap,rfl,hc1,Z,W,R⟩:=J
 have C:=d.1
 rw [Nat.mul_one] at l C
 by_cases hm:m=0
 ·subst hm
  obtain rfl:c=[]:=eq_nil_of_length_eq_zero l
  rcases d.2 with ⟨rfl,rfl⟩|⟨g,h,i,rfl,X,M,G,D,o,f⟩
  ·have b:=run_copy_none (P:=P) w t K ty e none N 0 0 0 cap H.u U (by simp)
   exact ⟨_,w,fun _ _ _ _=>by simp [execOp,resolve,invoke,builtin,B.ev V,B.ev S,b,goInt],rfl,by simpa using d,G8 _ _,rfl⟩
  ·have b:=run_copy_none (P:=P) w t K ty e (some ⟨g,0,none⟩) N k h 0 cap H.u U (by simp)
   exact ⟨_,w,fun _ _ _ _=>by simp [execOp,resolve,invoke,builtin,B.ev V,B.ev S,b,goInt],rfl,by simpa using d,G8 _ _,rfl⟩
 ·rcases d.2 with ⟨rfl,rfl⟩|⟨g,h,i,rfl,X,M,G,D,o,f⟩
  ·omega
  ·cases N with
   |none=>have:=W rfl;omega
   |some ad=>
    rw [Nat.mul_one] at f
    rw [Nat.mul_one] at o
    have A:∀u ∈ c,u.oneCell' =true:=fun u H=>List.all_eq_true.1 I u H
    have F:Nat.min m k=m:=Nat.min_eq_left T
    have b:=run_copy_row (P:=P) w t K ty e g 0 k h ad m cap i e c H.u U M (by rw [l,F]) (R ad rfl) (by omega) A
    rw [l] at b
    simp only [take_zero,nil_append,Nat.zero_add] at b
    refine ⟨.int .i64 (m:Int),w.setRow g (c++i.toList.drop m).toArray,fun _ _ _ _=>by simp only [execOp,resolve,invoke,builtin,Array.map_push,map_toArray,map_cons,map_nil,B.ev V,B.ev S];simp [b,goInt],rfl,⟨by simp [l,C];omega, .inr ⟨g,h,_,rfl,X,setRow_heap w g _ _ _ _ M,G,D, ?_, ?_⟩⟩,⟨rfl,rfl,rfl,by simp [World.setRow],fun k _ Y=>setRow_other w g k _ (fun e=>Y (by simp [e,Value.ownBlock]))⟩,by simp [World.setRow]⟩
    ·simp [l,o];omega
    ·rw [← f]
     apply ext_getElem?
     intro j
     simp only [Nat.mul_one,getElem?_take,getElem?_append,getElem?_drop,l]
     by_cases h1:j<m
     ·simp [h1,show j<k by omega]
     ·simp only [h1,if_false]
      by_cases h2:j<k
      ·simp [h2,show m+(j - m)<k by omega]
      ·simp [h2,show ¬(m+(j - m)<k) by omega]
end

section
variable {P : Program} {n : Nat} {E : CR} {w : World} {e ty : TypeId} {x : Operand}
theorem D3 {b o k:Nat} {T:TypeId} {cs ds:List Value} (d:(isAgg e).run P w= .ok true w) (hs:(sizeOf e).run P w= .ok k w) (g:ds.length=k) (m:ev E x=some (.pointer (some ⟨b,o,none⟩))) (h:AP w b T cs) (f:(cs.drop o).take k=ds):
  Ex P n E (.load e x) ty w (.agg ds.toArray):=fun a l _ _ _ _=>by
 subst g
 have i:=run_loadCells_list (P:=P) w ⟨b,o,none⟩ ds (fun j v c=>by
  rw [add_lit,h.cell]
  rw [← f,getElem?_take] at c
  split at c
  ·rw [getElem?_drop] at c;exact c
  ·cases c)
 simp [execOp,l.ev m,Instr.loadAt,Instr.sureAddr,loadVar,d,hs,i]
end

def GO (xs:List Value) (o:Nat) (ds:List Value):List Value:=xs.take o++ds++xs.drop (o+ds.length)
theorem Ir {xs ds:List Value} {o:Nat} (h:o+ds.length≤xs.length):(GO xs o ds).length=xs.length:=by
 simp only [GO,length_append,length_take,length_drop];omega
theorem It {xs ds:List Value} {o i:Nat} (h:o+ds.length≤xs.length):(GO xs o ds)[i]? =if i<o then xs[i]? else if i<o+ds.length then ds[i - o]? else xs[i]? :=by
 have a:(xs.take o).length=o:=by rw [length_take];omega
 unfold GO
 by_cases hi:i<o
 ·rw [if_pos hi,append_assoc,getElem?_append_left (by omega),getElem?_take,if_pos hi]
 ·rw [if_neg hi]
  by_cases hj:i<o+ds.length
  ·rw [if_pos hj,getElem?_append_left (by rw [length_append];omega),getElem?_append_right (by omega),a]
  ·rw [if_neg hj,getElem?_append_right (by rw [length_append];omega),length_append,a,getElem?_drop]
   congr 1;omega
theorem Pb {xs:List Value} {o:Nat} {u:Value} (h:o<xs.length):GO xs o [u]=xs.set o u:=by
 apply ext_getElem?
 intro i
 rw [It (by simp;omega),getElem?_set]
 by_cases h1:i<o
 ·rw [if_pos h1,if_neg (by omega)]
 ·rw [if_neg h1]
  by_cases h2:i=o
  ·subst h2;simp [h]
  ·rw [if_neg (by simp;omega),if_neg (fun e=>h2 e.symm)]
theorem JK {xs ds:List Value} {o m:Nat} (h:o+ds.length≤m) (a:m≤xs.length):(GO xs o ds).take m=GO (xs.take m) o ds:=by
 apply ext_getElem?
 intro i
 rw [getElem?_take,It (by omega),It (by rw [length_take];omega),getElem?_take]
 by_cases h1:i<m
 ·rw [if_pos h1,if_pos h1]
 ·rw [if_neg h1,if_neg h1,if_neg (by omega),if_neg (by omega)]
def GI {α:Type} (f:α→List Value) (l:List α):List Value:=(l.map f).flatten
section
variable {α : Type} {f : α → List Value} {k : Nat}
theorem Kz {a:α} {l:List α}:GI f (a::l)=f a++GI f l:=rfl
theorem J7:∀{l:List α} {j i:Nat},(∀a ∈ l,(f a).length=k)→(c:j<l.length)→i<k→(GI f l)[j*k+i]? =(f l[j])[i]?
 |a::l,0,i,h,_,hi=>by
  rw [Kz,Nat.zero_mul,Nat.zero_add,getElem?_append_left (by rw [h a (by simp)];exact hi)];rfl
 |a::l,j+1,i,h,c,hi=>by
  rw [Kz,getElem?_append_right (by rw [h a (by simp),Nat.succ_mul];omega),h a (by simp),show (j+1)*k+i - k=j*k+i by rw [Nat.succ_mul];omega,J7 (fun b d=>h b (mem_cons_of_mem _ d)) (by simpa using c) hi];rfl
end
theorem Ng:∀(vs:List Value) (k off:Nat) (a:Array Value),off+k+vs.length≤a.size→(vs.zipIdx k).foldl (fun cs x=>cs.setIfInBounds (off+x.2) x.1) a=(GO a.toList (off+k) vs).toArray
 |[],k,off,a,_=>by simp [GO]
 |v::vs,k,off,a,h=>by
  have b:off+k<a.size:=by simp at h;omega
  rw [zipIdx_cons,foldl_cons,Ng vs (k+1) off _ (by simp at h ⊢;omega)]
  congr 1
  simp only [Array.toList_setIfInBounds]
  apply ext_getElem?
  intro i
  rw [It (by simp at h ⊢;omega),It (by simp at h ⊢;omega),getElem?_set]
  simp only [Array.length_toList,length_cons]
  by_cases c1:i<off+k
  ·rw [if_pos (by omega),if_pos c1,if_neg (by omega)]
  ·rw [if_neg c1]
   by_cases c2:i=off+k
   ·subst c2
    rw [if_pos (by omega),if_pos rfl,if_pos b,if_pos (by omega),Nat.sub_self,getElem?_cons_zero]
   ·rw [if_neg (show ¬i<off+(k+1) by omega)]
    by_cases c3:i<off+k+(vs.length+1)
    ·rw [if_pos (show i<off+(k+1)+vs.length by omega),if_pos c3,show i - (off+k)=(i - (off+(k+1)))+1 by omega,getElem?_cons_succ]
    ·rw [if_neg (show ¬i<off+(k+1)+vs.length by omega),if_neg (show ¬off+k=i by omega),if_neg c3]
theorem Sk {M7:Nat→Option (Nat×Nat)} {a:Array Value} {i off:Nat} {v:Value} {ds:List Value} (b:v.cells=ds.toArray) (d:M7 i=some (off,ds.length)) (h:off+ds.length≤a.size):Instr.fill M7 a [(i,v)]=some (GO a.toList off ds).toArray:=by
 have g:=Ng ds 0 off a (by omega)
 have e:v.cells.zipIdx.foldl (fun cs (c,j)=>cs.setIfInBounds (off+j) c) a=(GO a.toList off ds).toArray:=by
  rw [b]
  have:ds.toArray.zipIdx=(ds.zipIdx).toArray:=by simp
  rw [this,foldl_toArray]
  simpa using g
 unfold Instr.fill
 simp only [d,b,size_toArray]
 rw [if_neg (by simp;omega)]
 rw [b] at e
 rw [e]
 rfl
theorem Td {xs ds:List Value} (h:xs.length=ds.length):GO xs 0 ds=ds:=by
 unfold GO
 rw [take_zero,nil_append,drop_of_length_le (by omega),append_nil]
section
variable {P : Program} {n : Nat} {E : CR} {w : World} {ty t e : TypeId} {x : Operand} {sz : Nat}
theorem D8 {cs i:List Value} {a:Nat} (g:FO P t e sz) (j:Hg P e i a) (l:ev E x=some (.agg cs.toArray)) (c:cs.length=sz) (d:0<sz) (h:sz≤16777216):
  Xw P n E (.buildSlice t 1 #[(0,x)]) ty w (fun v b=>b.ownsRow w.heap.size e sz v 1 cs∧v= .slice (some ⟨w.heap.size,0,none⟩) 1 1∧Below w.heap.size w b∧b.heap.size=w.heap.size+1):=by
 subst c
 refine E0 (ps:=[(0,x)]) (vs:=[(0, .agg cs.toArray)]) g j (by simp [pev,l]) d Nat.zero_lt_one (by omega) ?_ (by omega)
 rw [Sk (off:=0) (ds:=cs) rfl (by simp) (by simp)]
 rw [Td (by simp)]
end
theorem FH {w:World} {base:Nat} {T:TypeId} {sz n g:Nat} {v:Value} {xs:List Value} (h:w.ownsRow base T sz v n xs) (l:v.ownBlock=some g):
  ∃cap a,v= .slice (some ⟨g,0,none⟩) n cap∧AP w g T a∧a.take (n*sz)=xs∧n≤cap∧cap≤maxLen∧a.length=cap*sz∧base≤g:=by
 rcases h.2 with ⟨rfl,_⟩|⟨o,cap,a,rfl,m,i,d,c,j,b⟩
 ·cases l
 ·obtain rfl:o=g:=by simpa [Value.ownBlock] using l
  exact ⟨cap,a.toList,rfl,by unfold AP;simpa using i,b,d,c,by simpa using j,m⟩
theorem Ix {w:World} {base:Nat} {T:TypeId} {sz n g cap:Nat} {a:List Value} (h:AP w g T a) (b:a.length=cap*sz) (c:n≤cap) (i:cap≤maxLen) (d:base≤g):w.ownsRow base T sz (.slice (some ⟨g,0,none⟩) n cap) n (a.take (n*sz)):=
 ⟨by rw [length_take,b];exact Nat.min_eq_left (Nat.mul_le_mul_right _ c), .inr ⟨g,cap,a.toArray,rfl,d,h,c,i,by simpa using b,by simp⟩⟩
section
variable {P : Program} {n : Nat} {E : CR} {w : World} {e ty t : TypeId} {x y z : Operand} {u v : Value}
theorem F8 {k:IntKind} {m:Int} {base sz c g:Nat} {T:TypeId} {xs:List Value} (l:FO P t e sz) (r:ev E x=some v) (i:ev E y=some (.int k m)) (h:w.ownsRow base T sz v c xs) (o:v.ownBlock=some g) (j:Nat) (b:m=(j:Int)) (d:j<c):
  Ex P n E (.indexAddr t x y) ty w (.pointer (some ⟨g,j*sz,none⟩)):=by
 obtain ⟨cap,a,rfl, -⟩:=FH h o
 refine (Cl l r i (AF h) j b d).as ?_
 simp [CH,add_lit]
theorem Ex.ldO {base sz c g o:Nat} {T:TypeId} {xs:List Value} (d:(isAgg e).run P w= .ok false w) (m:ev E x=some (.pointer (some ⟨g,o,none⟩))) (h:w.ownsRow base T sz v c xs) (l:v.ownBlock=some g) (a:xs[o]? =some u):Ex P n E (.load e x) ty w u:=by
 obtain ⟨cap,i,rfl,j,b, -⟩:=FH h l
 refine Al d m j ?_
 rw [← b,getElem?_take] at a
 split at a
 ·exact a
 ·cases a
theorem Xu.stAt {b o k:Nat} {T:TypeId} {cs ds:List Value} (hs:(P.info? e).map (·.size)=some k) (g:ds.length=k) (C:ev E x=some (.pointer (some ⟨b,o,none⟩))) (B:ev E y=some (.agg ds.toArray)) (d:ds.all (·.oneCell')=true) (h:AP w b T cs) (A:o+ds.length≤cs.length):
  Xu P n E (.store e x y) ty w (fun j=>AP j b T (GO cs o ds)∧w.grownBy j (some b)∧j.heap.size=w.heap.size):=fun a r=>by
 subst g
 have c:=run_storeCells_at P b o T ds 0 cs.toArray w h (by simpa using A) (fun v l=>List.all_eq_true.1 d v l)
 simp only [Nat.add_zero] at c
 refine ⟨w.setRow b (GO cs o ds).toArray,fun _ _ _ _=> ?_,setRow_heap w b _ _ _ _ h,⟨rfl,rfl,rfl,by simp [World.setRow],fun k _ g=>setRow_other w b k _ (fun e=>g (by simp [e]))⟩,by simp [World.setRow]⟩
 cases hq:P.info? e with
 |none=>simp [hq] at hs
 |some i=>
  have m:ds.length=i.size:=by simp [hq] at hs;omega
  have l:(storeVar e ⟨b,o,none⟩ (.agg ds.toArray)).run P w= .ok () (w.setRow b (GO cs o ds).toArray):=by
   simp [storeVar,sizeOf,typeInfo,hq,Value.cells,m,c,GO]
  simp [execOp,r.ev C,r.ev B,Instr.storeAt,Instr.sureAddr,l]
theorem Xu.stAO {base sz c g o k:Nat} {T:TypeId} {xs ds:List Value} (hs:(P.info? e).map (·.size)=some k) (F:ds.length=k) (L:ev E x=some (.pointer (some ⟨g,o,none⟩))) (K:ev E y=some (.agg ds.toArray)) (d:ds.all (·.oneCell')=true) (h:w.ownsRow base T sz v c xs) (D:v.ownBlock=some g) (Q:o+ds.length≤xs.length):
  Xu P n E (.store e x y) ty w (fun b=>b.ownsRow base T sz v c (GO xs o ds)∧w.grownBy b (some g)∧b.heap.size=w.heap.size):=fun a M=>by
 have A:=h.1
 obtain ⟨cap,j,rfl,C,i,m,B,r,G⟩:=FH h D
 have l:c*sz≤j.length:=by rw [r];exact Nat.mul_le_mul_right _ m
 obtain ⟨b,H,N,I,J⟩:=Xu.stAt (ty:=ty) hs F L K d C (by omega) a M
 refine ⟨b,H, ?_,I,J⟩
 have:=Ix (base:=base) (sz:=sz) (n:=c) (cap:=cap) N (by rw [Ir (by omega)];exact r) m B G
 rwa [JK (by omega) l,i] at this
theorem Xu.stO1 {base sz c g o:Nat} {T:TypeId} {xs:List Value} (j:(sizeOf e).run P w= .ok 1 w) (M:ev E x=some (.pointer (some ⟨g,o,none⟩))) (L:ev E y=some u) (d:u.oneCell' =true) (h:w.ownsRow base T sz v c xs) (G:v.ownBlock=some g) (Q:o<xs.length):
  Xu P n E (.store e x y) ty w (fun b=>b.ownsRow base T sz v c (GO xs o [u])∧w.grownBy b (some g)∧b.heap.size=w.heap.size):=fun a N=>by
 have C:=h.1
 obtain ⟨cap,l,rfl,F,i,r,D,A,H⟩:=FH h G
 have m:c*sz≤l.length:=by rw [A];exact Nat.mul_le_mul_right _ r
 obtain ⟨b,I,B,J,K⟩:=C5 (P:=P) (ty:=ty) j M L d F (by omega) a N
 refine ⟨b,I, ?_,J,K⟩
 rw [← Pb (by omega)] at B
 have:=Ix (base:=base) (sz:=sz) (n:=c) (cap:=cap) B (by rw [Ir (by simp;omega)];exact A) r D H
 rwa [JK (by simp;omega) m,i] at this
def cutp (v:Value) (sz i j:Nat):Value:=match v with
 | .slice ao _ _=> .slice (if j=i then ao else ao.map (·.add (i*sz))) (j - i) (j - i)
 |_=>undef
theorem Ex.cutP {c i j:Nat} {C A m:Operand} {l B o:IntKind} {sz:Nat} (b:FO P t e sz) (J:ev E x=some v) (H:ev E C=some (.int l (i:Int))) (I:ev E A=some (.int B (j:Int))) (G:ev E m=some (.int o (j:Int))) (h:OS v c) (D:i≤j) (Q:j≤c):Ex P n E (.slice t x (some C) (some A) (some m)) ty w (cutp v sz i j):=fun a d _ _ _ _=>by
 obtain ⟨F,cap,rfl,M,L,N⟩:=h
 have g:P.underlying t=some (.slice (P.elem t)):=by rw [Program.elem,b.u]
 have K:P.elem t=e:=by rw [Program.elem,b.u]
 have r:=run_slice_lhm (P:=P) w t F c cap g l B o (i:Int) (j:Int) (j:Int) (by omega) (by omega) (by omega) (by omega)
 simp only [Int.toNat_natCast,K,b.s w,Result.andThen_ok] at r
 simp [execOp,d.ev J,d.ev H,d.ev I,d.ev G,Instr.sliceAt,run_underlying b.u,r,sliced,Dd.cutp]
theorem Sl.cutp {c i j sz:Nat} {xs:List Value} (h:Sl w sz v c xs) (B:i≤j) (D:j≤c):Sl w sz (cutp v sz i j) (j - i) ((xs.drop (i*sz)).take ((j - i)*sz)):=by
 obtain ⟨o,g,cap,rfl,F,C,A,r⟩:=h
 have m:(j - i)*sz≤c*sz - i*sz:=by rw [← Nat.sub_mul];exact Nat.mul_le_mul_right _ (by omega)
 refine ⟨by rw [length_take,length_drop,o];exact Nat.min_eq_left m,_,j - i,rfl,AU _,by omega,fun l=> ?_,fun a d q u b=> ?_⟩
 ·by_cases hji:j=i
  ·omega
  ·rw [if_neg hji] at l
   cases g with
   |none=>have:=A rfl;omega
   |some _=>cases l
 ·by_cases hji:j=i
  ·rw [hji] at b;simp at b
  ·rw [if_neg hji] at d
   cases g with
   |none=>cases d
   |some ad=>
    cases d
    rw [Hy]
    refine r ad O _ u ?_
    rw [getElem?_take] at b
    split at b
    ·rwa [getElem?_drop] at b
    ·cases b
theorem Sn {v:Value} {sz i j:Nat} (h:∃a c k,v= .slice a c k):(Dd.cutp v sz i j).oneCell' =true:=by
 obtain ⟨a,c,k,rfl⟩:=h;rfl
end
section
variable {P : Program} {n : Nat} {E : CR} {w : World} {ty t s : TypeId} {x y : Operand} {p q : BitVec 64}
end

section
variable {P : Program} {n : Nat} {E : CR} {w : World} {e ty t : TypeId} {x y z : Operand} {u v : Value}
theorem Lw.valU {Q:BZ} {g b:List Oper} {d:String} {o:Array Edge} {f:Op} {R:Value→World→Prop} (h:Xw P n E f ty w R) (k:∀v c,R v c→Lw P g Q n b E c):Lw P g Q n (⟨none,f,ty,d,o,none⟩::b) E w:=
 fun a i=>wpList_plain rfl fun K m=>by
  obtain ⟨v,c,l,j⟩:=h a i
  unfold Oper.wp;rw [l];exact m _ _ (k v c j _ (i.put_none _))
theorem Gl {b k m cap:Nat} {T:TypeId} {f d:List Value} {j:Nat} {R:Value} (G:FO P t e 1) (N:Hg P e [R] j) (Q:ev E x=some (.slice (some ⟨b,0,none⟩) k cap)) (K:ev E y=some u)
  (h:AP w b T f) (hc:f.length=cap) (r:Sl w 1 u m d) (p:d.all (·.oneCell')=true) (M:k+m≤cap):
  Xw P n E (.call {callee:= .builtin .append,args:= #[x,y],argTypes:= #[t,t]}) ty w (fun v' s=>v' = .slice (some ⟨b,0,none⟩) (k+m) cap∧AP s b T (GO f k d)∧w.grownBy s (some b)∧s.heap.size=w.heap.size):=fun a H=>by
 obtain ⟨i,F,l,Z,zv,V,W⟩:=N.i
 have l:i.size=1:=l
 obtain ⟨C,D,c,rfl,X,Y,L,U⟩:=r
 rw [Nat.mul_one] at C
 have g:=run_storeCells_at P b k T d 0 f.toArray w h (by simp;omega) (fun v S=>List.all_eq_true.1 p v S)
 simp only [Nat.add_zero] at g
 have o:(Builtin.append_ #[t,t] ty #[.slice (some ⟨b,0,none⟩) k cap, .slice D m c]).run P w= .ok (.slice (some ⟨b,0,none⟩) (k+m) cap) (w.setRow b (GO f k d).toArray):=by
  cases D with
  |none=>
   have I:=L rfl
   have A:m=0:=by omega
   subst A
   obtain rfl:d=[]:=eq_nil_of_length_eq_zero (by simpa using C)
   have B:k≤cap:=by omega
   simp [Builtin.append_,run_underlying G.u,sizeOf,typeInfo,F,l,Builtin.lenOf,B,Builtin.firstCells,Addr.add_lit,g,GO]
  |some ad=>
   have q:=run_firstCells_some (P:=P) w i.size m ad m c d (by rw [l,Nat.mul_one];exact C) (U ad rfl)
   rw [l] at q
   simp [Builtin.append_,run_underlying G.u,sizeOf,typeInfo,F,l,Builtin.lenOf,M,q,Addr.add_lit,g,GO]
 exact ⟨_,_,fun _ _ _ _=>by simp [execOp,resolve,invoke,builtin,H.ev Q,H.ev K,o],rfl,setRow_heap w b _ _ _ _ h,⟨rfl,rfl,rfl,by simp [World.setRow],fun k _ J=>setRow_other w b k _ (fun e=>J (by simp [e]))⟩,by simp [World.setRow]⟩
theorem Xw.clear {b o m c:Nat} {T:TypeId} {d:List Value} {g:Nat} {f:Value} (I:FO P t e 1) (J:Hg P e [f] g) (A:f.oneCell' =true) (K:ev E x=some (.slice (some ⟨b,o,none⟩) (m+1) c)) (h:AP w b T d) (R:o+(m+1)≤d.length):
  Xw P n E (.call {callee:= .builtin .clear,args:= #[x],argTypes:= #[t]}) ty w (fun _ s=>AP s b T (GO d o (replicate (m+1) f))∧w.grownBy s (some b)∧s.heap.size=w.heap.size):=fun a N=>by
 obtain ⟨i,G,C,S,zv,F,H⟩:=J.i
 have C:i.size=1:=C
 have p:zv.cells= #[f]:=H
 have B:∀q,Builtin.zeroCells zv.cells q=(replicate q f).toArray:=fun q=>by
  apply Array.ext
  ·simp [Builtin.zeroCells,p]
  ·intro j Q U
   simp [Builtin.zeroCells,p,Nat.mod_one]
 have l:=run_storeCells_at P b o T (replicate (m+1) f) 0 d.toArray w h (by simp;omega) (fun v M=>by rw [(List.mem_replicate.1 M).2];exact A)
 simp only [Nat.add_zero,length_replicate] at l
 have L:GO d o (replicate (m+1) f)=d.take o++replicate (m+1) f++d.drop (o+(m+1)):=by simp [GO]
 have r:(Builtin.clear_ #[t] ty #[.slice (some ⟨b,o,none⟩) (m+1) c]).run P w= .ok (.tuple #[]) (w.setRow b (GO d o (replicate (m+1) f)).toArray):=by
  rw [L]
  simp [Builtin.clear_,run_underlying I.u,zeroValue,typeInfo,G,F,B,l]
 refine ⟨.tuple #[],_,fun _ _ _ _=>by simp [execOp,resolve,invoke,builtin,N.ev K,r],setRow_heap w b _ _ _ _ h,⟨rfl,rfl,rfl,by simp [World.setRow],fun k _ D=>setRow_other w b k _ (fun e=>D (by simp [e]))⟩,by simp [World.setRow]⟩
theorem Xw.cut3 {b c cap i j q:Nat} {l r m:IntKind} {s o:Operand} (d:FO P t e 1) (C:ev E x=some (.slice (some ⟨b,0,none⟩) c cap)) (B:ev E y=some (.int l (i:Int))) (g:ev E s=some (.int r (j:Int))) (h:ev E o=some (.int m (q:Int))) (G:i≤j) (F:j≤q) (H:q≤cap):
  Xw P n E (.slice t x (some y) (some s) (some o)) ty w (fun _ A=>A=w):=fun a f=>by
 have k:P.underlying t=some (.slice (P.elem t)):=by rw [Program.elem,d.u]
 have D:P.elem t=e:=by rw [Program.elem,d.u]
 have p:=run_slice_lhm (P:=P) w t (some ⟨b,0,none⟩) c cap k l r m (i:Int) (j:Int) (q:Int) (by omega) (by omega) (by omega) (by omega)
 simp only [D,d.s w,Result.andThen_ok] at p
 exact ⟨_,_,fun _ _ _ _=>by simp [execOp,f.ev C,f.ev B,f.ev g,f.ev h,Instr.sliceAt,run_underlying d.u,p];rfl,rfl⟩
theorem Ex.cutLHc {b c cap i j:Nat} {l m:IntKind} {p:Operand} (d:FO P t e 1) (s:ev E x=some (.slice (some ⟨b,0,none⟩) c cap)) (r:ev E y=some (.int l (i:Int))) (k:ev E p=some (.int m (j:Int))) (B:i≤j) (A:j≤cap) (C:i<cap):
  Ex P n E (.slice t x (some y) (some p) none) ty w (.slice (some ⟨b,i,none⟩) (j - i) (cap - i)):=fun a g _ _ _ _=>by
 have h:P.underlying t=some (.slice (P.elem t)):=by rw [Program.elem,d.u]
 have q:P.elem t=e:=by rw [Program.elem,d.u]
 have o:=run_slice_lh (P:=P) w t (some ⟨b,0,none⟩) c cap h l m (i:Int) (j:Int) (by omega) (by omega) (by omega)
 simp only [Int.toNat_natCast,q,d.s w,Result.andThen_ok] at o
 have f:¬cap=i:=by omega
 simp [execOp,g.ev s,g.ev r,g.ev k,Instr.sliceAt,run_underlying d.u,o,sliced,f,add_lit]
end
end Go.Dd
