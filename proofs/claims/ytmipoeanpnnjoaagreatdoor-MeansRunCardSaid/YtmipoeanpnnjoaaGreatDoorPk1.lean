/- Texts of this proof, one behind the other: Base, Ops, Mem, Reg, Facts, Open, More, Own, Sum, Shp, Int, Seg, Book, Crc, Byt, Rng, Grow, Win, Win2, Sub, Str. -/
import Derived.WalkKit
import Derived.Deep.Quiet
import Derived.StillTail
import Derived.Test.YtmipoeanpnnjoaaGreatDoorProg
import Derived.ProofKit
import Derived.OpenShut
import Derived.SizedLaws
import Derived.Laws.Tables
import Derived.Lib.AppendZeros
import Derived.Laws.CopyRow
import Derived.Laws.IdiomCopy
import Derived.RangeFuncNested
import Derived.RangeFuncLeaves
import Derived.TacticsIn
import Derived.OrdersIn
import Derived.Laws.IdiomStrings
import Derived.Laws.BytesArg

namespace Go.Dd
theorem O{α:Sort _}{a:α}:a=a:=rfl
open Go Go.RowKit
open List hiding get
abbrev CS:=List (Nat×Value)
def get:CS→Nat→Option Value
 |[],_=>none
 |(j,v)::E,i=>match Nat.beq j i with
  |true=>some v
  |false=>get E i
theorem CR (d:Nat) (v:Value) (E:CS):get ((d,v)::E) d=some v:=by simp [get]
theorem DZ {d i:Nat} (v:Value) (E:CS) (h:d≠i):get ((d,v)::E) i=get E i:=by
 have:Nat.beq d i=false:=by
  cases hb:Nat.beq d i with
  |false=>rfl
  |true=>exact absurd (Nat.eq_of_beq_eq_true hb) h
 simp [get,this]
structure CK (n:Nat) (E:CS) (a:Act):Prop where
 dfr:a.defers=[]
 size:a.tmps.size=n
 has:∀i v,get E i=some v→a.tmps[i]? =some v
def ev (E:CS):Operand→Option Value
 | .tmp t=>get E t
 | .const v=>some v
 | .global g=>some (.pointer (some ⟨g,0,none⟩))
 | .func f=>some (.func (.func f) #[] #[])
theorem CK.ev {n:Nat} {E:CS} {a:Act} (h:CK n E a) {x:Operand} {v:Value} (b:ev E x=some v):a.eval x=v:=by
 cases x<;>simp [Dd.ev,Act.eval] at*
 ·have:=h.has _ _ b
  simp [this]
 ·exact b
 ·exact b
 ·exact b
theorem CK.put {n:Nat} {E:CS} {a:Act} (h:CK n E a) {d:Nat} (v:Value) (e:Nat.blt d n=true):CK n ((d,v)::E) (a.put (some d) v):=by
 have c:d<n:=by simpa [Nat.blt_eq] using e
 refine ⟨h.dfr,by simp [Act.put,h.size],fun i u b=> ?_⟩
 simp only [Act.put,Array.getElem?_setIfInBounds,h.size]
 by_cases hi:d=i
 ·subst hi
  rw [CR] at b
  simpa [c] using b
 ·rw [DZ v E hi] at b
  simp [hi,h.has i u b]
theorem CK.put_none {n:Nat} {E:CS} {a:Act} (h:CK n E a) (v:Value):CK n E (a.put none v):=h
def Rg (E:CS):CS→Prop
 |[]=>True
 |(j,v)::F=>get E j=some v∧Rg E F
theorem Rg.get {E:CS}:∀{F:CS},Rg E F→∀i v,get F i=some v→Dd.get E i=some v
 |[],_,i,v,h=>by simp [Dd.get] at h
 |(j,u)::F,hs,i,v,h=>by
  simp only [Dd.get] at h
  split at h
  ·rename_i a
   have:j=i:=Nat.eq_of_beq_eq_true a
   subst this
   simp only [Option.some.injEq] at h
   subst h
   exact hs.1
  ·exact Rg.get hs.2 i v h
theorem CK.sub {n:Nat} {E F:CS} {a:Act} (h:CK n E a) (hs:Rg E F):CK n F a:=⟨h.dfr,h.size,fun i v b=>h.has i v (hs.get i v b)⟩
abbrev CH:=Exit→Act→World→Prop
def Cw (P:Program) (Q:CH) (n:Nat) (c:Code) (E:CS) (w:World):Prop:=∀a,CK n E a→c.wp P Q a w
def Pw (n:Nat) (E:CS) (R:Act→World→Prop) (w:World):Prop:=∀a,CK n E a→R a w
def Lw (P:Program) (l0:List Oper) (Q:CH) (n:Nat) (l:List Oper) (E:CS) (w:World):Prop:=∀a,CK n E a→wpList P l0.toArray Q l a w
abbrev CX (K:Act→World→Prop) (Q:CH):CH:=fun e a w=>match e with
 | .normal=>K a w
 |e=>Q e a w
abbrev IY (id:Nat) (Q:CH):CH:=fun e a w=>match e with
 | .exit id' =>if id' =id then Q .normal a w else Q (.exit id') a w
 |e=>Q e a w
section
variable {P : Program} {Q : CH} {n : Nat} {E : CS} {w : World}
theorem KM (K:Act→World→Prop) (Q:CH):CX K Q=Exit.then K Q:=by
 funext e a w;cases e<;>rfl
theorem O6 (b:Nat) (Q:CH):IY b Q=Exit.inBlock b Q:=by
 funext e a w;cases e<;>rfl
theorem An {x y:Code} (h:Cw P (CX (fun a w=>y.wp P Q a w) Q) n x E w):Cw P Q n (.seq x y) E w:=fun a b=>wp_seq (by have:=h a b;rwa [KM] at this)
theorem Ao {b:Nat} {c:Code} (h:Cw P (IY b Q) n c E w):Cw P Q n (.block b c) E w:=fun a d=>wp_block (by have:=h a d;rwa [O6] at this)
theorem Cp (h:Pw n E (Q .normal) w):Cw P Q n .skip E w:=fun a b=>wp_skip (h a b)
theorem Bp {b:Nat} (h:Pw n E (Q (.exit b)) w):Cw P Q n (.exit b) E w:=fun a c=>wp_exit (h a c)
theorem Df (h:Pw n E (Q .ret) w):Cw P Q n .ret E w:=fun a b=>wp_ret (h a b)
theorem Aq {c:Operand} {x y:Code} {t:Bool} (f:ev E c=some (.bool t)) (e:t=true→Cw P Q n x E w) (d:t=false→Cw P Q n y E w):Cw P Q n (.cond c x y) E w:=
 fun a b=>wp_cond_split (b.ev f) (fun h=>e h a b) (fun h=>d h a b)
theorem Bz {c:Operand} {x y:Code} (d:ev E c=some (.bool true)) (e:Cw P Q n x E w):Cw P Q n (.cond c x y) E w:=fun a b=>wp_cond_true (b.ev d) (e a b)
theorem D6 {c:Operand} {x y:Code} (d:ev E c=some (.bool false)) (e:Cw P Q n y E w):Cw P Q n (.cond c x y) E w:=fun a b=>wp_cond_false (b.ev d) (e a b)
theorem Ca {c:Operand} {x y:Code} {t:Bool} (e:ev E c=some (.bool t)) (b:Bool) (f:t=b) (h:Cw P Q n (if b then x else y) E w):Cw P Q n (.cond c x y) E w:=
 fun a d=>wp_cond (d.ev e) (by rw [f];exact h a d)
theorem Bw {b:Nat} {l:List Oper} (h:Lw P l Q n l E w):Cw P Q n (.region b l.toArray false) E w:=fun a c=>wp_region_lit (h a c)
theorem D5 {c:Code} (d:Nat) {v v' :Value} (f:get E d=some v) (g:v=v') (h:Cw P Q n c ((d,v')::E) w):Cw P Q n c E w:=fun a b=>h a<|by
 subst g
 refine ⟨b.dfr,b.size,fun i u e=> ?_⟩
 by_cases hi:d=i
 ·subst hi;rw [CR] at e;exact b.has _ _ (f.trans e)
 ·rw [DZ _ _ hi] at e;exact b.has _ _ e
theorem B8 {c:Code} (h:Cw P Q n c E w):Pw n E (fun a w=>c.wp P Q a w) w:=h
theorem Bf {c:List Oper} (h:Pw n E (Q .normal) w):Lw P c Q n [] E w:=fun a b=>wpList_nil (h a b)
theorem Ap {K:Act→World→Prop} (h:Pw n E K w):Pw n E (CX K Q .normal) w:=h
theorem Av {K:Act→World→Prop} (h:Pw n E (Q .ret) w):Pw n E (CX K Q .ret) w:=h
theorem Al {K:Act→World→Prop} {a:Nat} (h:Pw n E (Q (.exit a)) w):Pw n E (CX K Q (.exit a)) w:=h
theorem Bn {a:Nat} (h:Pw n E (Q .normal) w):Pw n E (IY a Q .normal) w:=h
theorem Bi {a:Nat} (h:Pw n E (Q .ret) w):Pw n E (IY a Q .ret) w:=h
theorem Bd {b:Nat} (h:Pw n E (Q .normal) w):Pw n E (IY b Q (.exit b)) w:=fun a c=>by
 show if b=b then Q .normal a w else Q (.exit b) a w
 rw [if_pos rfl];exact h a c
theorem Pw.blkE {d b:Nat} (e:Nat.beq b d=false) (h:Pw n E (Q (.exit b)) w):Pw n E (IY d Q (.exit b)) w:=fun a f=>by
 have c:b≠d:=Nat.ne_of_beq_eq_false e
 show if b=d then Q .normal a w else Q (.exit b) a w
 rw [if_neg c];exact h a f
theorem Bq {S:Type} (i:S→CS) (I:S→World→Prop) (m:S→Nat) {c:Code} (x:S) (K:Rg E (i x)) (G:I x w)
  (o:∀s w,I s w→Cw P (CX (fun h g=>∃f,CK n (i f) h∧I f g∧m f<m s) Q) n c (i s) w):Cw P Q n (.loop c) E w:=by
 intro a T
 have key:∀k s a w,m s=k→CK n (i s) a→I s w→(Code.loop c).wp P Q a w:=by
  intro k s a w Z t L
  refine wp_loop (fun h g=>∃f,CK n (i f) h∧I f g) (fun h g=>Classical.epsilon fun k=>∃f,CK n (i f) h∧I f g∧m f=k∧∀d,CK n (i d) h→I d g→k≤m d) ⟨s,t,L⟩ ?_
  have j:∀h g,(∃f,CK n (i f) h∧I f g)→∃k,∃f,CK n (i f) h∧I f g∧m f=k∧∀d,CK n (i d) h→I d g→k≤m d:=by
   intro h g ⟨f,r,q⟩
   have:∀b f,CK n (i f) h→I f g→m f≤b→∃k,∃f,CK n (i f) h∧I f g∧m f=k∧∀d,CK n (i d) h→I d g→k≤m d:=by
    intro b
    induction b with
    |zero=>intro f r q R;exact ⟨m f,f,r,q,rfl,fun d _ _=>by omega⟩
    |succ b ih=>
     intro f r q R
     by_cases hex:∃d,CK n (i d) h∧I d g∧m d≤b
     ·obtain ⟨d,l,p,B⟩:=hex;exact ih d l p B
     ·refine ⟨m f,f,r,q,rfl,fun d l p=> ?_⟩
      rcases Nat.lt_or_ge (m d) (m f) with F|u
      ·exact absurd ⟨d,l,p,by omega⟩ hex
      ·exact u
   exact this (m f) f r q (Nat.le_refl _)
  intro D z y
  obtain ⟨N,M,J,W,g4⟩:=Classical.epsilon_spec (j D z y)
  have C:=o N z J D M
  rw [KM] at C
  refine Code.wp_mono (fun e U V A=> ?_) C
  cases e with
  |normal=>
   obtain ⟨v,l,p,B⟩:=A
   refine ⟨⟨v,l,p⟩, ?_⟩
   obtain ⟨s3,Y,r2,X,H⟩:=Classical.epsilon_spec (j U V ⟨v,l,p⟩)
   have:=H v l p
   rw [← W]
   omega
  |_=>exact A
 exact key _ x a w rfl (T.sub K) G
theorem Pw.next {S:Type} {b:S→CS} {I:S→World→Prop} {m:S→Nat} {k:Nat} (a:S) (c:Rg E (b a)) (e:I a w) (d:m a<k):Pw n E (fun h f=>∃a,CK n (b a) h∧I a f∧m a<k) w:=
 fun _ g=>⟨a,g.sub c,e,d⟩
def AM (P:Program) (f:FuncId) (args:List Value) (w:World) (R:Value→World→Prop):Prop:=
 (∃ fn, P.funcs[f]? = some fn ∧ (fn.name == "runtime.NumGoroutine") = false ∧ fn.body.isSome = true) ∧ Calls P f args.toArray w (fun e w' => ∃ v, e = .returned v ∧ R v w')
def RV (P:Program) (fn:Func) (R:Value→World→Prop):CH:=bodyPost P fn (fun e w' =>∃v,e= .returned v∧R v w')
theorem AM.mono {f:FuncId} {args:List Value} {R b:Value→World→Prop} (h:AM P f args w R) (e:∀v a,R v a→b v a):AM P f args w b:=
 ⟨h.1,h.2.mono fun _ _ ⟨v,d,c⟩=>⟨v,d,e _ _ c⟩⟩
def params:Nat→List Value→CS
 |_,[]=>[]
 |k,v::l=>(k,v)::params (k+1) l
theorem Jk:∀(l:List Value) (k i:Nat) (v:Value),get (params k l) i=some v→k≤i∧l[i - k]? =some v
 |[],_,_,_,h=>by simp [params,Dd.get] at h
 |x::l,k,i,v,h=>by
  simp only [params,Dd.get] at h
  split at h
  ·rename_i b
   have:k=i:=Nat.eq_of_beq_eq_true b
   subst this
   simpa using h
  ·have:=Jk l (k+1) i v h
   refine ⟨by omega, ?_⟩
   have a:i - k=(i - (k+1))+1:=by omega
   rw [a];simpa using this.2
theorem AM.enter {f : FuncId} {b : Func} {c : Code} {args : List Value} {R : Value → World → Prop} (g : P.funcs[f]? = some b) (a : (b.name == "runtime.NumGoroutine") = false) (j : b.body = some c)
  (m:b.ntmps=n) (l:Nat.ble args.length n=true) (h:Cw P (RV P b R) n c (params 0 args) w):AM P f args w R:=by
 refine ⟨⟨b,g,a,by simp [j]⟩,calls_of_wp g j (h _ ⟨rfl, ?_,fun i v k=> ?_⟩)⟩
 ·have:args.length≤n:=Nat.le_of_ble_eq_true l
  simp [m];omega
 ·have e:=(Jk args 0 i v k).2
  simp only [Nat.sub_zero] at e
  have d:i<args.length:=by
   rcases Nat.lt_or_ge i args.length with h|h
   ·exact h
   ·simp [getElem?_eq_none h] at e
  rw [Array.getElem?_append]
  simp only [size_toArray,d,if_true,getElem?_toArray]
  exact e
theorem Ax {c:Func} {R:Value→World→Prop} {t:Nat} {v:Value} (e:c.results= #[.tmp t]) (d:get E t=some v) (h:R v w):Pw n E (RV P c R .ret) w:=fun a b=>
 bodyPost_ret (v:=v) (by rw [results_tmp e];simp [Array.getD_eq_getD_getElem?,b.has _ _ d]) b.dfr ⟨v,rfl,h⟩
theorem C9 {a:Func} {R:Value→World→Prop} (c:a.results= #[]) (h:R (.tuple #[]) w):Pw n E (RV P a R .normal) w:=fun _ b=>
 bodyPost_end (v:= .tuple #[]) (by rw [results_none c]) b.dfr ⟨_,rfl,h⟩
theorem Bx {c:Func} {R:Value→World→Prop} {t u:Nat} {v x:Value} (e:c.results= #[.tmp t, .tmp u]) (d:get E t=some v) (f:get E u=some x) (h:R (.tuple #[v,x]) w):Pw n E (RV P c R .ret) w:=fun a b=>
 bodyPost_ret (v:= .tuple #[v,x]) (by rw [results_tmp2 e];simp [Array.getD_eq_getD_getElem?,b.has _ _ d,b.has _ _ f]) b.dfr ⟨_,rfl,h⟩
end
theorem AD {p:Prop} [Decidable p] (h:decide p=true):p:=of_decide_eq_true h
theorem AB {p:Prop} [Decidable p] (h:decide p=false):¬p:=of_decide_eq_false h
theorem cngA.{u,v} {α:Sort u} {β:Sort v} {a b:α} (f:α→β) (h:a=b):f a=f b:=congrArg f h
theorem AX (n:Nat):n≤n:=Nat.le_refl n
section
variable {P : Program}
theorem Bb {n : Nat} {f : FuncId} {b : Func} {c : Code} {args : List Value} {R : Value → World → Prop} {w : World} (e : P.funcs[f]? = some b) (d : (b.body, b.ntmps, Nat.ble args.length n) = (some c, n, true)) (h : Cw P (RV P b R) n c (params 0 args) w) (a : (b.name == "runtime.NumGoroutine") = false := by kernel_rfl) : AM P f args w R :=
  AM.enter e a (congrArg (·.1) d) (congrArg (·.2.1) d) (congrArg (·.2.2) d) h
end
end Go.Dd

namespace Go.Dd
open Go Go.RowKit
open List hiding get
abbrev b8 (x:BitVec 8):Value:= .int .u8 (x.toNat:Int)
abbrev u32 (x:BitVec 32):Value:= .int .u32 (x.toNat:Int)
abbrev i32 (x:BitVec 32):Value:= .int .i32 x.toInt
def Ex (P:Program) (n:Nat) (E:CS) (op:Op) (ty:TypeId) (w:World) (v:Value):Prop:=
 ∀a,CK n E a→∀d pos af g,(execOp a.eval ⟨d,op,ty,pos,af,g⟩).run P w= .ok (.value v) w
def Xw (P:Program) (n:Nat) (E:CS) (op:Op) (ty:TypeId) (w:World) (R:Value→World→Prop):Prop:=
 ∀a,CK n E a→∃v w',(∀d pos af g,(execOp a.eval ⟨d,op,ty,pos,af,g⟩).run P w= .ok (.value v) w')∧R v w'
def Xu (P:Program) (n:Nat) (E:CS) (op:Op) (ty:TypeId) (w:World) (R:World→Prop):Prop:=
 ∀a,CK n E a→∃w',(∀d pos af g,(execOp a.eval ⟨d,op,ty,pos,af,g⟩).run P w= .ok .skip w')∧R w'
def Xc (P:Program) (n:Nat) (E:CS) (op:Op) (ty:TypeId) (w:World) (f:FuncId) (args:List Value):Prop:=
 ∀a,CK n E a→∀d pos af g,(execOp a.eval ⟨d,op,ty,pos,af,g⟩).run P w= .ok (.enter f args.toArray) w
def ED:List Oper→Nat→Option Oper
 |[],_=>none
 |o::_,0=>some o
 |_::l,k+1=>ED l k
theorem DC:∀(l:List Oper) (k:Nat),l[k]? =ED l k
 |[],_=>by simp [ED]
 |_::_,0=>by simp [ED]
 |_::l,k+1=>by simpa [ED] using DC l k
section
variable {P : Program} {Q : CH} {n : Nat} {E : CS} {w : World} {l0 rest : List Oper} {ty : TypeId} {pos : String} {af : Array Edge}
theorem Aa {d:Nat} {b:Op} {v:Value} (h:Ex P n E b ty w v) (f:Nat.blt d n=true) (k:Lw P l0 Q n rest ((d,v)::E) w):Lw P l0 Q n (⟨some d,b,ty,pos,af,none⟩::rest) E w:=
 fun a e=>wpList_plain rfl fun K g=>by
  unfold Oper.wp;rw [h a e];exact g _ _ (k _ (e.put v f))
theorem Bk {d:Nat} {e:Op} {R:Value→World→Prop} (h:Xw P n E e ty w R) (g:Nat.blt d n=true) (k:∀v b,R v b→Lw P l0 Q n rest ((d,v)::E) b):Lw P l0 Q n (⟨some d,e,ty,pos,af,none⟩::rest) E w:=
 fun a f=>wpList_plain rfl fun K o=>by
  obtain ⟨v,b,j,i⟩:=h a f
  unfold Oper.wp;rw [j];exact o _ _ (k v b i _ (f.put v g))
theorem Az {e:Op} {R:World→Prop} (h:Xu P n E e ty w R) (k:∀b,R b→Lw P l0 Q n rest E b):Lw P l0 Q n (⟨none,e,ty,pos,af,none⟩::rest) E w:=
 fun a f=>wpList_plain rfl fun K j=>by
  obtain ⟨b,i,g⟩:=h a f
  unfold Oper.wp;rw [i];exact j _ _ (k b g _ (f.put_none _))
theorem Lw.call {d:Nat} {g:Op} {f:FuncId} {args:List Value} {R:Value→World→Prop} (h:Xc P n E g ty w f args) (j:Nat.blt d n=true) (o:AM P f args w R)
  (k:∀v b,R v b→Lw P l0 Q n rest ((d,v)::E) b):Lw P l0 Q n (⟨some d,g,ty,pos,af,none⟩::rest) E w:=
 fun a i=>wpList_plain rfl fun K B=>by
  unfold Oper.wp;rw [h a i]
  exact o.2.mono fun e b ⟨v,r,A⟩=>by subst r;exact B _ _ (k v b A _ (i.put v j))
theorem C5 {l:List Oper} (d:Nat) {v v' :Value} (f:get E d=some v) (g:v=v') (h:Lw P l0 Q n l ((d,v')::E) w):Lw P l0 Q n l E w:=fun a b=>h a<|by
 subst g
 refine ⟨b.dfr,b.size,fun i u e=> ?_⟩
 by_cases hi:d=i
 ·subst hi;rw [CR] at e;exact b.has _ _ (f.trans e)
 ·rw [DZ _ _ hi] at e;exact b.has _ _ e
theorem Cc {l:List Oper} (d:Nat) {g:Bool} (b:get E d=some (.bool g)) (a:g=true→Lw P l0 Q n l ((d, .bool true)::E) w) (e:g=false→Lw P l0 Q n l ((d, .bool false)::E) w):Lw P l0 Q n l E w:=by
 cases g with
 |true=>exact C5 d b rfl (a rfl)
 |false=>exact C5 d b rfl (e rfl)
theorem FZ {a:Act} (e:CK n E a) {j dj:Nat} {g:Bool} (f:(ED l0 j).bind (·.dst)=some dj) (b:get E dj=some (.bool g)):yielded l0.toArray a.tmps j=some g:=by
 unfold yielded
 rw [getElem?_toArray,DC,f]
 simp [e.has _ _ b]
theorem Ag {d:Option Tmp} {e:Op} {j dj:Nat} {g:Bool} (i:(ED l0 j).bind (·.dst)=some dj) (o:get E dj=some (.bool g))
  (h:Lw P l0 Q n (⟨d,e,ty,pos,af,none⟩::rest) E w):Lw P l0 Q n (⟨d,e,ty,pos,af,some (j,g)⟩::rest) E w:=fun a f=>by
 have b:=h a f
 unfold wpList at b ⊢
 rw [if_pos (by simp [Region.wanted])] at b
 rw [if_pos (by simp [Region.wanted,FZ f i o])]
 exact b
theorem Ae {d:Nat} {i:Op} {j dj:Nat} {g b:Bool} (o:(ED l0 j).bind (·.dst)=some dj) (A:get E dj=some (.bool b)) (r:(g==b)=false) (f:Nat.blt d n=true)
  (h:Lw P l0 Q n rest ((d,undef)::E) w):Lw P l0 Q n (⟨some d,i,ty,pos,af,some (j,g)⟩::rest) E w:=fun a e=>by
 unfold wpList
 rw [if_neg]
 ·exact h _ (e.put _ f)
 ·simp only [Region.wanted,FZ e o A]
  cases g<;>cases b<;>simp_all
section
variable {x y z : Operand} {v u : Value} {t s : TypeId}
theorem B6 (e:ev E x=some v):Ex P n E (.move x) ty w v:=fun a b _ _ _ _=>by simp [execOp,b.ev e]
theorem Cf (e:ev E x=some v):Ex P n E (.assign x) ty w v:=fun a b _ _ _ _=>by simp [execOp,b.ev e]
theorem Ex.as {a:Op} (h:Ex P n E a ty w v) (e:v=u):Ex P n E a ty w u:=e ▸ h
theorem Ct (e:ev E x=some (.bool true)) (f:ev E y=some v):Ex P n E (.pick x y z) ty w v:=fun a b _ _ _ _=>by simp [execOp,b.ev e,b.ev f,asBool]
theorem Cz (e:ev E x=some (.bool false)) (f:ev E z=some v):Ex P n E (.pick x y z) ty w v:=fun a b _ _ _ _=>by simp [execOp,b.ev e,b.ev f,asBool]
theorem Br {b:Addr} (f:ev E x=some (.pointer (some b))):Ex P n E (.nilCheck x) ty w (.pointer (some b)):=fun a e _ _ _ _=>by simp [execOp,e.ev f]
theorem RA {a:BinOp} {k:IntKind} {m:Int}:eqGuard a t x y (.int k m) u=pure ():=by cases a<;>rfl
section ints
variable {k : IntKind} {m q : Int}
theorem Ej {b:BinOp} {r:Value} (g:ev E x=some (.int k m)) (f:ev E y=some u) (h:(binOp b t (.int k m) u).run P w= .ok r w):Ex P n E (.binOp b t x y s) ty w r:=fun a e _ _ _ _=>by
 simp only [execOp,e.ev g,e.ev f,RA]
 simp [h]
theorem Ex.add (b:ev E x=some (.int k m)) (a:ev E y=some (.int k q)):Ex P n E (.binOp .add t x y s) ty w (.int k (k.wrap (m+q))):=Ej b a (by simp [go_sem,Op.intArith])
theorem Ex.subt (b:ev E x=some (.int k m)) (a:ev E y=some (.int k q)):Ex P n E (.binOp .sub t x y s) ty w (.int k (k.wrap (m - q))):=Ej b a (by simp [go_sem,Op.intArith])
theorem Gh (b:ev E x=some (.int k m)) (a:ev E y=some (.int k q)):Ex P n E (.binOp .mul t x y s) ty w (.int k (k.wrap (m*q))):=Ej b a (by simp [go_sem,Op.intArith])
theorem De (b:ev E x=some (.int .i64 m)) (a:ev E y=some (.int .i64 q)) (h: -9223372036854775808≤m+q∧m+q≤9223372036854775807):Ex P n E (.binOp .add t x y s) ty w (.int .i64 (m+q)):=by
 have:=Ex.add (P:=P) (n:=n) (w:=w) (ty:=ty) (t:=t) (s:=s) b a;rwa [IntWalk.i64_in _ h] at this
theorem Du (b:ev E x=some (.int .i64 m)) (a:ev E y=some (.int .i64 q)) (h: -9223372036854775808≤m - q∧m - q≤9223372036854775807):Ex P n E (.binOp .sub t x y s) ty w (.int .i64 (m - q)):=by
 have:=Ex.subt (P:=P) (n:=n) (w:=w) (ty:=ty) (t:=t) (s:=s) b a;rwa [IntWalk.i64_in _ h] at this
theorem C6 (b:ev E x=some (.int .i64 m)) (a:ev E y=some (.int .i64 q)) (h: -9223372036854775808≤m*q∧m*q≤9223372036854775807):Ex P n E (.binOp .mul t x y s) ty w (.int .i64 (m*q)):=by
 have:=Gh (P:=P) (n:=n) (w:=w) (ty:=ty) (t:=t) (s:=s) b a;rwa [IntWalk.i64_in _ h] at this
theorem Fh {i j:Nat} (b:ev E x=some (.int .i64 (i:Int))) (a:ev E y=some (.int .i64 (j:Int))) (h:i+j≤9223372036854775807):Ex P n E (.binOp .add t x y s) ty w (.int .i64 ((i+j:Nat):Int)):=by
 have:=De (P:=P) (n:=n) (w:=w) (ty:=ty) (t:=t) (s:=s) b a (by omega)
 rwa [← Int.natCast_add] at this
theorem Fc {i j:Nat} (b:ev E x=some (.int .i64 (i:Int))) (a:ev E y=some (.int .i64 (j:Int))) (h:i*j≤9223372036854775807):Ex P n E (.binOp .mul t x y s) ty w (.int .i64 ((i*j:Nat):Int)):=by
 have e:(i:Int)*(j:Int)=((i*j:Nat):Int):=(Int.natCast_mul i j).symm
 have:=C6 (P:=P) (n:=n) (w:=w) (ty:=ty) (t:=t) (s:=s) b a (by rw [e];omega)
 rwa [e] at this
theorem Dz (f:ev E x=some (.int .i64 m)) (e:ev E y=some (.int .i64 q)) (a:0≤m∧m≤9223372036854775807) (b:1≤q):Ex P n E (.binOp .quo t x y s) ty w (.int .i64 (m / q)):=Ej f e (by
 have:¬q=0:=by omega
 simp [go_sem,Op.intDiv,this,IntWalk.i64_quo m q ⟨a.1,a.2,b⟩])
theorem Ex.quoN {i j:Nat} (b:ev E x=some (.int .i64 (i:Int))) (a:ev E y=some (.int .i64 (j:Int))) (f:i≤9223372036854775807) (e:1≤j):Ex P n E (.binOp .quo t x y s) ty w (.int .i64 ((i / j:Nat):Int)):=by
 have:=Dz (P:=P) (n:=n) (w:=w) (ty:=ty) (t:=t) (s:=s) b a (by omega) (by omega)
 rwa [← Int.natCast_ediv] at this
theorem El (f:ev E x=some (.int .i64 m)) (b:ev E y=some (.int .i64 q)) (e:0≤m) (a:q≠0):Ex P n E (.binOp .rem t x y s) ty w (.int .i64 (m % q)):=Ej f b (by
 simp [go_sem,Op.intDiv,a,IntWalk.rem_in m q e])
theorem Ex.remN {i j:Nat} (b:ev E x=some (.int .i64 (i:Int))) (a:ev E y=some (.int .i64 (j:Int))) (e:1≤j):Ex P n E (.binOp .rem t x y s) ty w (.int .i64 ((i % j:Nat):Int)):=by
 have:=El (P:=P) (n:=n) (w:=w) (ty:=ty) (t:=t) (s:=s) b a (by omega) (by omega)
 rwa [← Int.natCast_emod] at this
theorem Eh (b:ev E x=some (.int k m)) (a:ev E y=some (.int k q)):Ex P n E (.binOp .lss t x y s) ty w (.bool (decide (m<q))):=Ej b a (by simp [go_sem])
theorem D8 (b:ev E x=some (.int k m)) (a:ev E y=some (.int k q)):Ex P n E (.binOp .leq t x y s) ty w (.bool (decide (m≤q))):=Ej b a (by simp [go_sem])
theorem Dr (b:ev E x=some (.int k m)) (a:ev E y=some (.int k q)):Ex P n E (.binOp .gtr t x y s) ty w (.bool (decide (q<m))):=Ej b a (by simp [go_sem])
theorem Ds (b:ev E x=some (.int k m)) (a:ev E y=some (.int k q)):Ex P n E (.binOp .geq t x y s) ty w (.bool (decide (q≤m))):=Ej b a (by simp [go_sem])
theorem Rf (m q:Int):(m==q)=decide (m=q):=by by_cases h:m=q<;>simp [h]
theorem Da (b:ev E x=some (.int k m)) (a:ev E y=some (.int k q)):Ex P n E (.binOp .eql t x y s) ty w (.bool (decide (m=q))):=Ej b a (by rw [binOp_eql,Rf];rfl)
theorem Cs (b:ev E x=some (.int k m)) (a:ev E y=some (.int k q)):Ex P n E (.binOp .neq t x y s) ty w (.bool (!decide (m=q))):=Ej b a (by rw [binOp_neq,bne,Rf];rfl)
theorem Ex.shlI {f:IntKind} {j:Nat} (g:ev E x=some (.int .i64 m)) (e:ev E y=some (.int f (j:Int))) (b:j≤64) (h: -9223372036854775808≤m*2 ^ j∧m*2 ^ j≤9223372036854775807):Ex P n E (.binOp .shl t x y s) ty w (.int .i64 (m*2 ^ j)):=Ej g e (by
 have a:min j IntKind.i64.bits=j:=Nat.min_eq_left b
 simp [go_sem,Op.shift,a,IntWalk.i64_in _ h])
theorem Ex.shrI {g:IntKind} {j:Nat} (h:ev E x=some (.int .i64 m)) (f:ev E y=some (.int g (j:Int))) (e:j≤64):Ex P n E (.binOp .shr t x y s) ty w (.int .i64 (m / 2 ^ j)):=Ej h f (by
 have a:min j IntKind.i64.bits=j:=Nat.min_eq_left e
 have b:(0:Int)≤2 ^ j:=Int.le_of_lt (Int.pow_pos (by decide))
 simp [go_sem,Op.shift,a,Int.fdiv_eq_ediv_of_nonneg _ b])
theorem Fq {m:Int} (hs:(P.underlying s).isSome=true) (e:P.underlying t=some (.int k)) {g:IntKind} (h:ev E x=some (.int g m)):Ex P n E (.convert s t x) ty w (.int k (k.wrap m)):=fun a f _ _ _ _=>by
 obtain ⟨d,b⟩:=Option.isSome_iff_exists.mp hs
 simp [execOp,f.ev h,convert,run_underlying b,run_underlying e,Conv.intToInt]
theorem Fp {m:Int} (hs:(P.underlying s).isSome=true) (a:P.underlying t=some (.int .i64)) {b:IntKind} (e:ev E x=some (.int b m)) (h: -9223372036854775808≤m∧m≤9223372036854775807):Ex P n E (.convert s t x) ty w (.int .i64 m):=by
 have:=Fq (P:=P) (n:=n) (w:=w) (ty:=ty) hs a e;rwa [IntWalk.i64_in _ h] at this
theorem F3 (f:ev E x=some (.int k m)) (e:ev E y=some (.int k q)) {ts:Array TypeId}:Ex P n E (.call {callee:= .builtin .min,args:= #[x,y],argTypes:=ts}) ty w (.int k (if q<m then q else m)):=fun a b _ _ _ _=>by
 simp [execOp,resolve,invoke,builtin,b.ev f,b.ev e,Builtin.min_,Builtin.min2]
theorem E5 (f:ev E x=some (.int k m)) (e:ev E y=some (.int k q)) {ts:Array TypeId}:Ex P n E (.call {callee:= .builtin .max,args:= #[x,y],argTypes:=ts}) ty w (.int k (if m<q then q else m)):=fun a b _ _ _ _=>by
 simp [execOp,resolve,invoke,builtin,b.ev f,b.ev e,Builtin.max_,Builtin.max2]
end ints
theorem ofInt_toInt {k:Nat} (x:BitVec k):BitVec.ofInt k x.toInt=x:=BitVec.ofInt_toInt
theorem HY (n:Int):IntKind.i32.wrap n=(BitVec.ofInt 32 n).toInt:=by
 rw [BitVec.toInt_ofInt,IntKind.wrap_i32,Int.bmod_def]
 omega
theorem NT (n:Int):IntKind.u8.wrap n=((BitVec.ofInt 8 n).toNat:Int):=by
 rw [BitVec.toNat_ofInt,IntKind.wrap_u8];omega
section u32
variable {p q : BitVec 32}
end u32
section b8
variable {p q : BitVec 8}
theorem Ww:((p.toNat:Int)=(q.toNat:Int))↔p=q:=by
 constructor
 ·intro h;exact BitVec.eq_of_toNat_eq (by omega)
 ·intro h;rw [h]
theorem Cl (b:ev E x=some (b8 p)) (a:ev E y=some (b8 q)):Ex P n E (.binOp .eql t x y s) ty w (.bool (decide (p=q))):=by
 have:=Da (P:=P) (n:=n) (w:=w) (ty:=ty) (t:=t) (s:=s) b a;simp only [Ww] at this;exact this
theorem F0 (b:ev E x=some (b8 p)) (a:ev E y=some (b8 q)):Ex P n E (.binOp .neq t x y s) ty w (.bool (!decide (p=q))):=by
 have:=Cs (P:=P) (n:=n) (w:=w) (ty:=ty) (t:=t) (s:=s) b a;simp only [Ww] at this;exact this
end b8
section i32
variable {p q : BitVec 32}
theorem D7 (b:ev E x=some (i32 p)) (a:ev E y=some (i32 q)):Ex P n E (.binOp .add t x y s) ty w (i32 (p+q)):=by
 refine (Ex.add b a).as ?_
 rw [HY,BitVec.ofInt_add,ofInt_toInt,ofInt_toInt]
theorem En (b:ev E x=some (i32 p)) (a:ev E y=some (i32 q)):Ex P n E (.binOp .mul t x y s) ty w (i32 (p*q)):=by
 refine (Gh b a).as ?_
 rw [HY,BitVec.ofInt_mul,ofInt_toInt,ofInt_toInt]
theorem TF:(p.toInt=q.toInt)↔p=q:=BitVec.toInt_inj
theorem Fx (b:ev E x=some (i32 p)) (a:ev E y=some (i32 q)):Ex P n E (.binOp .eql t x y s) ty w (.bool (decide (p=q))):=by
 have:=Da (P:=P) (n:=n) (w:=w) (ty:=ty) (t:=t) (s:=s) b a;simp only [TF] at this;exact this
theorem Fw (b:ev E x=some (i32 p)) (a:ev E y=some (i32 q)):Ex P n E (.binOp .neq t x y s) ty w (.bool (!decide (p=q))):=by
 have:=Cs (P:=P) (n:=n) (w:=w) (ty:=ty) (t:=t) (s:=s) b a;simp only [TF] at this;exact this
end i32
theorem Ga {b:IntKind} {m:Int} (hs:(P.underlying s).isSome=true) (a:P.underlying t=some (.int .u8)) (e:ev E x=some (.int b m)):Ex P n E (.convert s t x) ty w (b8 (BitVec.ofInt 8 m)):=by
 have:=Fq (P:=P) (n:=n) (w:=w) (ty:=ty) hs a e;rwa [NT] at this
theorem Ez {b:IntKind} {m:Int} (hs:(P.underlying s).isSome=true) (a:P.underlying t=some (.int .i32)) (e:ev E x=some (.int b m)):Ex P n E (.convert s t x) ty w (i32 (BitVec.ofInt 32 m)):=by
 have:=Fq (P:=P) (n:=n) (w:=w) (ty:=ty) hs a e;rwa [HY] at this
theorem Gi {p:BitVec 8} (hs:(P.underlying s).isSome=true) (a:P.underlying t=some (.int .i64)) (b:ev E x=some (b8 p)):Ex P n E (.convert s t x) ty w (.int .i64 (p.toNat:Int)):=Fp hs a b (by have:=p.isLt;omega)
theorem Ff {p:BitVec 32} (hs:(P.underlying s).isSome=true) (b:P.underlying t=some (.int .i64)) (a:ev E x=some (i32 p)):Ex P n E (.convert s t x) ty w (.int .i64 p.toInt):=Fp hs b a (by have e:=BitVec.toInt_lt (x:=p);have f:=BitVec.le_toInt (x:=p);omega)
theorem Es {m:Int} {t:TypeId} (e:ev E x=some (.int .i64 m)) (h: -9223372036854775807≤m∧m≤9223372036854775807):Ex P n E (.unOp .neg t x) ty w (.int .i64 (-m)):=fun a b _ _ _ _=>by
 have:IntKind.i64.wrap (-m)= -m:=IntWalk.i64_in _ (by omega)
 simp [execOp,b.ev e,Op.unary,Op.intArith,this]
theorem Ck {b:Bool} {t:TypeId} (f:ev E x=some (.bool b)):Ex P n E (.unOp .not t x) ty w (.bool (!b)):=fun a e _ _ _ _=>by simp [execOp,e.ev f,Op.unary]
theorem As {vs:List Value} {i:Nat} (e:ev E x=some (.tuple vs.toArray)) (f:vs[i]? =some v):Ex P n E (.extract x i) ty w v:=fun a b _ _ _ _=>by
 simp [execOp,b.ev e,Instr.extract,f]
theorem HG {f : FuncId} {args : Array Value} (b : ∃ a, P.funcs[f]? = some a ∧ (a.name == "runtime.NumGoroutine") = false ∧ a.body.isSome = true) : (callFunc f args).run P w = .ok (.enter f args) w := by
 obtain ⟨a,h,e,i⟩:=b
 have g:a.body.isNone=false:=by cases hb:a.body<;>simp_all
 unfold callFunc
 simp only [Sem.run_bind,program,Sem.run,Result.andThen_ok,h,e,g,Bool.false_eq_true,if_false]
 rfl
def evs (E:CS):List Operand→Option (List Value)
 |[]=>some []
 |x::l=>match ev E x,evs E l with
  |some v,some vs=>some (v::vs)
  |_,_=>none
theorem CK.evs {a:Act} (h:CK n E a):∀{l:List Operand} {vs:List Value},evs E l=some vs→l.map a.eval=vs
 |[],vs,hl=>by simp [Dd.evs] at hl;simp [hl]
 |x::l,vs,hl=>by
  simp only [Dd.evs] at hl
  split at hl
  ·rename_i v us b e
   simp only [Option.some.injEq] at hl
   subst hl
   simp [h.ev b,CK.evs h e]
  ·simp at hl
theorem Ef {f:FuncId} {xs b:List Operand} {vs us:List Value} (j:Dd.evs E xs=some vs) (h:Dd.evs E b=some us):Ex P n E (.makeFunc (.func f) xs.toArray b.toArray) ty w (.func (.func f) vs.toArray us.toArray):=fun a e _ _ _ _=>by
 have i:xs.toArray.map a.eval=vs.toArray:=by rw [map_toArray,e.evs j]
 have g:b.toArray.map a.eval=us.toArray:=by rw [map_toArray,e.evs h]
 simp [execOp,i,g,Instr.makeFunc]
theorem Ft {f : FuncId} {xs : List Operand} {vs : List Value} {ts : Array TypeId} (g : ∃ e, P.funcs[f]? = some e ∧ (e.name == "runtime.NumGoroutine") = false ∧ e.body.isSome = true) (i : Dd.evs E xs = some vs) :
  Xc P n E (.call {callee:= .value (.func f),args:=xs.toArray,argTypes:=ts}) ty w f vs:=fun a h _ _ _ _=>by
 have b:xs.toArray.map a.eval=vs.toArray:=by rw [map_toArray,h.evs i]
 simp [execOp,resolve,b,Act.eval,Deferred.ofValue,invoke,HG (P:=P) (w:=w) g]
theorem Xc.val {f : FuncId} {c : Operand} {p q : List Value} {xs : List Operand} {vs : List Value} {ts : Array TypeId} (h : ∃ e, P.funcs[f]? = some e ∧ (e.name == "runtime.NumGoroutine") = false ∧ e.body.isSome = true)
  (i:ev E c=some (.func (.func f) p.toArray q.toArray)) (j:Dd.evs E xs=some vs):
  Xc P n E (.call {callee:= .value c,args:=xs.toArray,argTypes:=ts}) ty w f (p++vs++q):=fun a g _ _ _ _=>by
 have b:xs.toArray.map a.eval=vs.toArray:=by rw [map_toArray,g.evs j]
 simp [execOp,resolve,b,g.ev i,Deferred.ofValue,invoke,HG (P:=P) (w:=w) h]
theorem Aj {d:Nat} {f:FuncId} {xs:List Operand} {vs:List Value} {ts:Array TypeId} {R:Value→World→Prop} (g:evs E xs=some vs) (e:Nat.blt d n=true) (b:AM P f vs w R)
  (k:∀v a,R v a→Lw P l0 Q n rest ((d,v)::E) a):Lw P l0 Q n (⟨some d, .call {callee:= .value (.func f),args:=xs.toArray,argTypes:=ts},ty,pos,af,none⟩::rest) E w:=
 Lw.call (Ft b.1 g) e b k
theorem Ec {d:Nat} {f:FuncId} {c:Operand} {p q:List Value} {xs:List Operand} {vs:List Value} {ts:Array TypeId} {R:Value→World→Prop} (g:ev E c=some (.func (.func f) p.toArray q.toArray)) (h:evs E xs=some vs) (e:Nat.blt d n=true)
  (a:AM P f (p++vs++q) w R) (k:∀v b,R v b→Lw P l0 Q n rest ((d,v)::E) b):Lw P l0 Q n (⟨some d, .call {callee:= .value c,args:=xs.toArray,argTypes:=ts},ty,pos,af,none⟩::rest) E w:=
 Lw.call (Xc.val a.1 g h) e a k
end
end
section
variable {P : Program} {Q Q' : CH} {n : Nat} {E : CS} {w : World} {l0 rest l : List Oper} {ty : TypeId} {pos : String} {af : Array Edge} {x : Operand} {v : Value} {d id : Nat} {c y : Code} {K : Act → World → Prop}
theorem Ac (h:(ev E x,Nat.blt d n)=(some v,true)) (k:Lw P l0 Q n rest ((d,v)::E) w):Lw P l0 Q n (⟨some d, .move x,ty,pos,af,none⟩::rest) E w:=Aa (B6 (congrArg Prod.fst h)) (congrArg Prod.snd h) k
theorem Ab (h:(ev E x,Nat.blt d n)=(some v,true)) (k:Lw P l0 Q n rest ((d,v)::E) w):Lw P l0 Q n (⟨some d, .assign x,ty,pos,af,none⟩::rest) E w:=Aa (Cf (congrArg Prod.fst h)) (congrArg Prod.snd h) k
theorem Ak (h:Cw P Q n c E w):Lw P l0 (CX (fun a w=>c.wp P Q a w) Q') n [] E w:=Bf<|Ap<|B8 h
theorem Af (h:Lw P l (CX (fun a w=>y.wp P Q a w) Q) n l E w):Cw P Q n (.seq (.region id l.toArray false) y) E w:=An<|Bw h
theorem Bc (h:Pw n E (Q .ret) w):Lw P l0 (CX (fun a w=>Code.ret.wp P Q a w) Q') n [] E w:=Ak<|Df h
theorem Bu (h:Pw n E (Q .ret) w):Lw P l0 (CX (fun a w=>Code.ret.wp P (CX K Q) a w) Q') n [] E w:=Ak<|Df<|Av h
theorem Bl (h:Lw P l (CX (fun a w=>y.wp P Q a w) Q) n l E w):Lw P l0 (CX (fun a w=>(Code.seq (.region id l.toArray false) y).wp P Q a w) Q') n [] E w:=Ak<|Af h
theorem Bh {z:Code} (h:Lw P l (CX (fun a w=>y.wp P (CX (fun a w=>z.wp P Q a w) Q) a w) (CX (fun a w=>z.wp P Q a w) Q)) n l E w):Lw P l0 (CX (fun a w=>(Code.seq (.seq (.region id l.toArray false) y) z).wp P Q a w) Q') n [] E w:=Ak<|An<|Af h
theorem B0 (h:Cw P Q n c E w):Cw P (CX (fun a w=>c.wp P Q a w) Q') n .skip E w:=Cp<|Ap<|B8 h
theorem Co (h:Lw P l (CX (fun a w=>y.wp P Q a w) Q) n l E w):Cw P (CX (fun a w=>(Code.seq (.region id l.toArray false) y).wp P Q a w) Q') n .skip E w:=B0<|Af h
theorem Ch (h:Lw P l Q n l E w):Pw n E (CX (fun a w=>(Code.region id l.toArray false).wp P Q a w) Q' .normal) w:=Ap<|B8<|Bw h
theorem Cm (h:Lw P l (CX (fun a w=>y.wp P Q a w) Q) n l E w):Pw n E (CX (fun a w=>(Code.seq (.region id l.toArray false) y).wp P Q a w) Q' .normal) w:=Ap<|B8<|Af h
theorem B3 {y:Operand} {t s:TypeId} {k:IntKind} {m q:Int} (h:(ev E x,ev E y,Nat.blt d n)=(some (.int k m),some (.int k q),true)) (a:Lw P l0 Q n rest ((d, .bool (decide (m<q)))::E) w):Lw P l0 Q n (⟨some d, .binOp .lss t x y s,ty,pos,af,none⟩::rest) E w:=Aa (Eh (congrArg (·.1) h) (congrArg (·.2.1) h)) (congrArg (·.2.2) h) a
theorem B4 {y z:Operand} (h:(ev E x,ev E y,Nat.blt d n)=(some (.bool true),some v,true)) (a:Lw P l0 Q n rest ((d,v)::E) w):Lw P l0 Q n (⟨some d, .pick x y z,ty,pos,af,none⟩::rest) E w:=Aa (Ct (congrArg (·.1) h) (congrArg (·.2.1) h)) (congrArg (·.2.2) h) a
theorem Cn {y z:Operand} (h:(ev E x,ev E z,Nat.blt d n)=(some (.bool false),some v,true)) (a:Lw P l0 Q n rest ((d,v)::E) w):Lw P l0 Q n (⟨some d, .pick x y z,ty,pos,af,none⟩::rest) E w:=Aa (Cz (congrArg (·.1) h) (congrArg (·.2.1) h)) (congrArg (·.2.2) h) a
theorem B7 {y:Operand} {t s:TypeId} {m q:Int} (h:(ev E x,ev E y,Nat.blt d n)=(some (.int .i64 m),some (.int .i64 q),true)) (b: -9223372036854775808≤m+q∧m+q≤9223372036854775807) (a:Lw P l0 Q n rest ((d, .int .i64 (m+q))::E) w):Lw P l0 Q n (⟨some d, .binOp .add t x y s,ty,pos,af,none⟩::rest) E w:=Aa (De (congrArg (·.1) h) (congrArg (·.2.1) h) b) (congrArg (·.2.2) h) a
end

def AO (w:World) (b:Nat) (T:TypeId) (cs:List Value):Prop:=w.heap[b]? =some (.cells cs.toArray T (0,0))
def KJ (w:World) (ao:Option Addr) (ys:List Value):Prop:=∀a,ao=some a→∀j u,ys[j]? =some u→w.cell? (a.add j)=some u
structure Sl (w:World) (sz:Nat) (v:Value) (n:Nat) (xs:List Value):Prop where
 len:xs.length=n*sz
 ex:∃ao cap,v= .slice ao n cap∧n≤cap∧cap≤maxLen∧(ao=none→cap=0)∧KJ w ao xs
def CI (v:Value) (j:Nat):Value:=match v with
 | .slice ao _ _=> .pointer (ao.map (·.add j))
 |_=>undef
def YJ (v:Value) (n:Nat):Prop:=∃ao cap,v= .slice ao n cap∧n≤cap∧cap≤maxLen∧(ao=none→cap=0)
theorem Sl.shp {w:World} {sz:Nat} {v:Value} {n:Nat} {xs:List Value} (h:Sl w sz v n xs):YJ v n:=by
 obtain ⟨_,a,cap,f,b,g,c,_⟩:=h
 exact ⟨a,cap,f,b,g,c⟩
abbrev BS {α:Type} (enc:α→Value) (w:World) (v:Value) (l:List α):Prop:=Sl w 1 v l.length (l.map enc)
theorem AH {w:World} {b:Nat} {T:TypeId} {cs:List Value} (h:AO w b T cs):b<w.heap.size:=(Array.getElem?_eq_some_iff.1 h).1
theorem VZ (a:Addr) (i j:Nat):(a.add i).add j=if i+j=0 then a else {a with off:=a.off+(i+j),spot:=none}:=by
 unfold Addr.add
 by_cases hi:i=0
 ·subst hi;simp
 ·by_cases hj:j=0
  ·subst hj;simp [hi]
  ·have:¬(i+j=0):=by omega
   simp [hi,hj];omega
theorem JV (a:Addr) (i j:Nat):(a.add i).add j=a.add (i+j):=by rw [VZ];rfl
theorem K0 (a:Addr) (i:Nat):(a.add i).block=a.block:=by unfold Addr.add;split<;>rfl
theorem add_lit (b o i:Nat):(⟨b,o,none⟩:Addr).add i=⟨b,o+i,none⟩:=by unfold Addr.add;split<;>simp_all
theorem AO.cell {w:World} {b:Nat} {T:TypeId} {cs:List Value} (h:AO w b T cs) (o:Nat):w.cell? ⟨b,o,none⟩=cs[o]? :=by
 rw [cell_of_row w b o _ T (0,0) h];simp
theorem AO.keep {w a:World} {b:Nat} {T:TypeId} {cs:List Value} (h:AO w b T cs) (k:a.heap[b]? =w.heap[b]?):AO a b T cs:=by unfold AO at*;rw [k];exact h
theorem AO.bl {w a:World} {b B:Nat} {T:TypeId} {cs:List Value} (h:AO w b T cs) (f:Below B w a) (c:b<B):AO a b T cs:=h.keep (f.block b c)
theorem AO.bs {w a:World} {b:Nat} {T:TypeId} {cs:List Value} (h:AO w b T cs) (c:Below w.heap.size w a):AO a b T cs:=h.bl c (AH h)
theorem AO.by {w c:World} {b:Nat} {T:TypeId} {cs:List Value} {r:Option Nat} (h:AO w b T cs) (f:w.grownBy c r) (a:some b≠r):AO c b T cs:=h.keep (f.block b (AH h) a)
theorem KJ.keep {w g:World} {c:Option Addr} {b:List Value} (h:KJ w c b) (k:∀a,c=some a→b≠[]→g.heap[a.block]? =w.heap[a.block]?):KJ g c b:=fun a i j u l=>by
 have f:b≠[]:=by intro o;subst o;simp at l
 have m:=h a i j u l
 have:g.cell? (a.add j)=w.cell? (a.add j):=World.cell?_of_block (by rw [K0];exact k a i f)
 rw [this];exact m
theorem KJ.lt {w:World} {a:Addr} {c:List Value} (h:KJ w (some a) c) (b:c≠[]):a.block<w.heap.size:=by
 obtain ⟨u,c,rfl⟩:=exists_cons_of_ne_nil b
 have:=World.block_lt_of_cell? w (a.add 0) (h a rfl 0 u (by simp))
 rwa [K0] at this
theorem Sl.keep {w f:World} {sz:Nat} {v:Value} {n:Nat} {xs:List Value} (h:Sl w sz v n xs) (k:∀b,b<w.heap.size→v.ownBlock=some b→f.heap[b]? =w.heap[b]?):Sl f sz v n xs:=by
 obtain ⟨o,i,cap,rfl,j,p,m,g⟩:=h
 refine ⟨o,i,cap,rfl,j,p,m,g.keep fun a l c=> ?_⟩
 subst l
 exact k _ (KJ.lt g c) rfl
theorem Sl.bs {w c:World} {sz:Nat} {v:Value} {n:Nat} {xs:List Value} (h:Sl w sz v n xs) (f:Below w.heap.size w c):Sl c sz v n xs:=h.keep fun b a _=>f.block b a
theorem Sl.by {w f:World} {sz:Nat} {v:Value} {n:Nat} {xs:List Value} {r:Option Nat} (h:Sl w sz v n xs) (g:w.grownBy f r) (c:v.ownBlock=none∨v.ownBlock≠r):Sl f sz v n xs:=h.keep fun b a i=>g.block b a (by rcases c with h|h<;>simp_all)
theorem Sl.le {w:World} {sz:Nat} {v:Value} {n:Nat} {xs:List Value} (h:Sl w sz v n xs):n≤9223372036854775807:=by
 obtain ⟨_,b,cap,_,c,a,_⟩:=h
 unfold maxLen at a;omega
theorem C0 (w:World) (sz:Nat):Sl w sz (.slice none 0 0) 0 []:=⟨by simp,none,0,rfl,AX _,Nat.zero_le _,fun _=>rfl,fun a b=>by cases b⟩
theorem Sl.one {w:World} {sz:Nat} {v:Value} {n:Nat} {xs:List Value} (h:Sl w sz v n xs):v.cells=[v].toArray:=by
 obtain ⟨_,a,cap,rfl,_⟩:=h;rfl
theorem Sl.one' {w:World} {sz:Nat} {v:Value} {n:Nat} {xs:List Value} (h:Sl w sz v n xs):v.oneCell' =true:=by
 obtain ⟨_,a,cap,rfl,_⟩:=h;rfl
theorem AI {w:World} {base:Nat} {e:TypeId} {sz:Nat} {v:Value} {n:Nat} {xs:List Value} (h:w.ownsRow base e sz v n xs):Sl w sz v n xs:=by
 obtain ⟨k,o⟩:=h
 rcases o with ⟨rfl,rfl⟩|⟨g,cap,i,rfl,q,r,f,c,l,b⟩
 ·have:xs=[]:=eq_nil_of_length_eq_zero (by simpa using k)
  subst this;exact C0 w sz
 ·refine ⟨k,some ⟨g,0,none⟩,cap,rfl,f,c,(fun h=>by cases h),fun a m j u p=> ?_⟩
  simp only [Option.some.injEq] at m
  subst m
  exact World.ownsRow.cells ⟨k, .inr ⟨g,cap,i,rfl,q,r,f,c,l,b⟩⟩ (g:=g) rfl j u p
theorem AG {w:World} {base:Nat} {e:TypeId} {sz:Nat} {v:Value} {n:Nat} {xs:List Value} (h:w.ownsRow base e sz v n xs):∀b,v.ownBlock=some b→base≤b∧b<w.heap.size:=h.lt
theorem AL {w b:World} {base:Nat} {e:TypeId} {sz:Nat} {v:Value} {n:Nat} {xs:List Value} (h:w.ownsRow base e sz v n xs) (a:Below w.heap.size w b):b.ownsRow base e sz v n xs:=
 h.kept (row:=none) ⟨a.os,a.tape,a.output,a.size,fun k c _=>a.block k c⟩ (by cases f:v.ownBlock<;>simp)
theorem _root_.Go.World.ownsRow.bs {w a:World} {base:Nat} {e:TypeId} {sz:Nat} {v:Value} {n:Nat} {xs:List Value} (h:w.ownsRow base e sz v n xs) (b:Below w.heap.size w a):a.ownsRow base e sz v n xs:=AL h b
theorem _root_.Go.RowKit.Below.bs {a b c:World} (h:Below a.heap.size a b) (k:Below b.heap.size b c):Below a.heap.size a c:=h.trans (k.mono h.size)
theorem ET {w a:World} {r:Option Nat} (h:w.grownBy a r) {B:Nat} (c:B≤w.heap.size) (b:∀k,r=some k→B≤k):Below B w a:=(Below.refl B w).grown h c b
theorem DQ {w b:World} (a:Below w.heap.size w b) (r:Option Nat):w.grownBy b r:=⟨a.os,a.tape,a.output,a.size,fun k c _=>a.block k c⟩
theorem K9 {a b c:World} {r:Option Nat} (h:a.grownBy b r) (k:b.grownBy c r):a.grownBy c r:=
 ⟨k.os.trans h.os,k.tape.trans h.tape,k.output.trans h.output,Nat.le_trans h.size k.size,fun i g f=>(k.block i (Nat.lt_of_lt_of_le g h.size) f).trans (h.block i g f)⟩
theorem Jr (w:World) (r:Option Nat):w.grownBy w r:=⟨rfl,rfl,rfl,AX _,fun _ _ _=>rfl⟩
theorem AA {B:Nat} {w a:World} (h:Below B w a):w.heap.size≤a.heap.size:=h.size
theorem GR (w:World) (o:Obj):Below w.heap.size w (w.alloc o):=(Below.refl _ _).alloc (AX _) o
theorem OU {B:Nat} {a b c:World} (h:Below B a b) (k:Below b.heap.size b c) (f:B≤a.heap.size):Below B a c:=h.trans (k.mono (Nat.le_trans f h.size))
theorem bt {a b c:World} (h:Below a.heap.size a b) (k:Below b.heap.size b c):Below a.heap.size a c:=OU h k (AX _)
structure GM (P:Program) (t e:TypeId) (sz:Nat):Prop where
 u:P.underlying t=some (.slice e)
 s:∀w,(sizeOf e).run P w= .ok sz w
structure HP (P:Program) (e:TypeId) (z:List Value) (bytes:Nat):Prop where
 i:∃i,P.info? e=some i∧i.size=z.length∧i.bytes=bytes∧∃zv,i.zero=some zv∧zv.cells=z.toArray
section
variable {P : Program} {Q : CH} {n : Nat} {E : CS} {w : World} {l0 rest : List Oper} {ty : TypeId} {pos : String} {af : Array Edge}
variable {x y z : Operand} {v u : Value} {t s e : TypeId} {sz : Nat}
theorem Au {k:Nat} {xs:List Value} (c:GM P t e sz) (f:ev E x=some v) (h:Sl w sz v k xs):Ex P n E (.call {callee:= .builtin .len,args:= #[x],argTypes:= #[t]}) ty w (.int .i64 (k:Int)):=fun a b _ _ _ _=>by
 obtain ⟨_,g,cap,rfl,_⟩:=h
 simp [execOp,resolve,invoke,builtin,b.ev f,Builtin.len_,run_underlying c.u,goInt]
theorem Fg {b:Option Addr} {k cap:Nat} (f:GM P t e sz) (g:ev E x=some (.slice b k cap)):Ex P n E (.call {callee:= .builtin .cap,args:= #[x],argTypes:= #[t]}) ty w (.int .i64 (cap:Int)):=fun a c _ _ _ _=>by
 simp [execOp,resolve,invoke,builtin,c.ev g,Builtin.cap_,run_underlying f.u,goInt]
theorem Ci {k:IntKind} {m:Int} {c:Nat} {xs:List Value} (f:GM P t e sz) (q:ev E x=some v) (l:ev E y=some (.int k m)) (h:Sl w sz v c xs) (j:Nat) (g:m=(j:Int)) (o:j<c):
  Ex P n E (.indexAddr t x y) ty w (CI v (j*sz)):=fun a b _ _ _ _=>by
 obtain ⟨_,i,cap,rfl,B,_,r,_⟩:=h
 subst g
 cases i with
 |none=>have:=r rfl;omega
 |some ad=>
  have p:(0:Int)≤(j:Int)∧(j:Int)<(c:Int):=by omega
  have A:¬c≤j:=by omega
  simp [execOp,b.ev q,b.ev l,Instr.indexAt,asIntOf,run_underlying f.u,p,o,f.s w,CI]
theorem Dn {k:IntKind} {m:Int} {c:Nat} (f:GM P t e 1) (q:ev E x=some v) (l:ev E y=some (.int k m)) (h:YJ v c) (j:Nat) (g:m=(j:Int)) (o:j<c):Ex P n E (.indexAddr t x y) ty w (CI v j):=fun a b _ _ _ _=>by
 obtain ⟨i,cap,rfl,A,_,r⟩:=h
 subst g
 cases i with
 |none=>have:=r rfl;omega
 |some ad=>
  have p:(0:Int)≤(j:Int)∧(j:Int)<(c:Int):=by omega
  simp [execOp,b.ev q,b.ev l,Instr.indexAt,asIntOf,run_underlying f.u,p,o,f.s w,CI]
theorem D1 {c j:Nat} {xs:List Value} (i:(isAgg e).run P w= .ok false w) (p:ev E x=some (CI v j)) (h:Sl w sz v c xs) (k:xs[j]? =some u):Ex P n E (.load e x) ty w u:=fun a o _ _ _ _=>by
 obtain ⟨m,l,cap,rfl,A,_,q,g⟩:=h
 cases l with
 |none=>
  have r:=q rfl
  have b:j<xs.length:=by
   rcases Nat.lt_or_ge j xs.length with h|h
   ·exact h
   ·simp [getElem?_eq_none h] at k
  have:c=0:=by omega
  subst this;rw [m] at b;simp at b
 |some ad=>
  have b:=g ad rfl j u k
  have f:ev E x=some (.pointer (some (ad.add j))):=by simpa [CI] using p
  simp [execOp,o.ev f,Instr.loadAt,Instr.sureAddr,loadVar,i,b]
theorem Ay {α:Type} {enc:α→Value} {l:List α} {k:IntKind} {m:Int} (f:GM P t e 1) (g:ev E x=some v) (c:ev E y=some (.int k m)) (h:BS enc w v l) (j:Nat) (a:m=(j:Int)) (b:j<l.length):
  Ex P n E (.indexAddr t x y) ty w (CI v j):=by
 have:=Ci (ty:=ty) (n:=n) f g c h j a b
 rwa [Nat.mul_one] at this
theorem Bj {α:Type} [Inhabited α] {enc:α→Value} {l:List α} {j:Nat} (a:(isAgg e).run P w= .ok false w) (c:ev E x=some (CI v j)) (h:BS enc w v l) (b:j<l.length):
  Ex P n E (.load e x) ty w (enc (l.getD j default)):=D1 a c h (by simp [getElem?_eq_getElem b])
theorem Ah {b o:Nat} {T:TypeId} {cs:List Value} (c:(isAgg e).run P w= .ok false w) (j:ev E x=some (.pointer (some ⟨b,o,none⟩))) (h:AO w b T cs) (f:cs[o]? =some u):Ex P n E (.load e x) ty w u:=fun a g _ _ _ _=>by
 have i:=(h.cell o).trans f
 simp [execOp,g.ev j,Instr.loadAt,Instr.sureAddr,loadVar,c,i]
theorem B9 {b k:Nat} {T:TypeId} {cs:List Value} (c:(isAgg e).run P w= .ok true w) (hs:(sizeOf e).run P w= .ok k w) (f:cs.length=k) (m:ev E x=some (.pointer (some ⟨b,0,none⟩))) (h:AO w b T cs):Ex P n E (.load e x) ty w (.agg cs.toArray):=fun a i _ _ _ _=>by
 subst f
 have l:=run_loadCells_list (P:=P) w ⟨b,0,none⟩ cs (fun j v g=>by rw [add_lit,Nat.zero_add,h.cell];exact g)
 simp [execOp,i.ev m,Instr.loadAt,Instr.sureAddr,loadVar,c,hs,l]
theorem Ee {f:Func} {R:Value→World→Prop} {p b k:Nat} {T:TypeId} {cs:List Value} {d:TypeDesc} (l:f.results= #[.cell p e]) (i:get E p=some (.pointer (some ⟨b,0,none⟩))) (o:AO w b T cs)
  (m:P.underlying e=some d) (g:(match d with| .struct _| .array _ _=>true|_=>false)=true) (q:(P.info? e).map (·.size)=some k) (j:cs.length=k) (h:R (.agg cs.toArray) w):Pw n E (RV P f R .ret) w:=fun a c=>by
 subst j
 exact
 bodyPost_ret (v:= .agg cs.toArray) (results_cell_row l a.tmps w b T cs.toArray (0,0) d (by simp [Array.getD_eq_getD_getElem?,c.has _ _ i]) o m g (by simpa using q)) c.dfr ⟨_,rfl,h⟩
theorem Ex.idxB {k:IntKind} {m:Int} {b o c:Nat} (q:P.underlying t=some (.array c e)) (f:∀w,(sizeOf e).run P w= .ok sz w) (r:ev E x=some (.pointer (some ⟨b,o,none⟩))) (l:ev E y=some (.int k m)) (j:Nat) (h:m=(j:Int)) (i:j<c):
  Ex P n E (.indexAddr t x y) ty w (.pointer (some ⟨b,o+j*sz,none⟩)):=fun a g _ _ _ _=>by
 subst h
 have p:(0:Int)≤(j:Int)∧(j:Int)<(c:Int):=by omega
 have A:¬c≤j:=by omega
 simp [execOp,g.ev r,g.ev l,Instr.indexAt,asIntOf,run_underlying q,p,i,f w,Instr.sureAddr,add_lit]
theorem D4 {b o f q:Nat} {g:Array Field} {c:Field} (k:P.underlying t=some (.struct g)) (h:g[f]? =some c) (i:(sizeOf c.type).run P w= .ok (q+1) w) (l:ev E x=some (.pointer (some ⟨b,o,none⟩))):
  Ex P n E (.fieldAddr t x f) ty w (.pointer (some ⟨b,o+c.offset,none⟩)):=fun a j _ _ _ _=>by
 simp [execOp,j.ev l,Instr.fieldAt,Instr.sureAddr,fieldPlace,run_underlying k,h,i,add_lit]
theorem Xw.alloc {c:List Value} {zv:Value} (g:(zeroValue e).run P w= .ok zv w) (f:zv.cells=c.toArray):Xw P n E (.alloc e) ty w (fun v b=>v= .pointer (some ⟨w.heap.size,0,none⟩)∧AO b w.heap.size e c∧Below w.heap.size w b∧b.heap.size=w.heap.size+1):=fun a h=>by
 refine ⟨_,w.alloc (.cells c.toArray e),fun _ _ _ _=> ?_,rfl,heap_alloc_new w _,GR w _,by simp⟩
 simp [execOp,Instr.alloc,g,newVar,newRow,f]
theorem Xw.new {c:List Value} {a:Nat} (j:HP P e c a):Xw P n E (.alloc e) ty w (fun v b=>v= .pointer (some ⟨w.heap.size,0,none⟩)∧AO b w.heap.size e c∧Below w.heap.size w b∧b.heap.size=w.heap.size+1):=by
 obtain ⟨i,g,k,l,zv,f,h⟩:=j.i
 exact Xw.alloc (zv:=zv) (by simp [zeroValue,typeInfo,g,f]) h
theorem Xw.box {cs:List Value} (g:ev E x=some v) (f:v.cells=cs.toArray):Xw P n E (.box e x) ty w (fun v b=>v= .pointer (some ⟨w.heap.size,0,none⟩)∧AO b w.heap.size e cs∧Below w.heap.size w b∧b.heap.size=w.heap.size+1):=fun a c=>by
 refine ⟨_,w.alloc (.cells cs.toArray e),fun _ _ _ _=> ?_,rfl,heap_alloc_new w _,GR w _,by simp⟩
 simp [execOp,c.ev g,Instr.box,newVar,newRow,f]
theorem K3 {b o:Nat} {T:TypeId} {cs:List Value} (h:AO w b T cs) (u:Value):AO (w.setCell ⟨b,o,none⟩ u) b T (cs.set o u)∧w.grownBy (w.setCell ⟨b,o,none⟩ u) (some b):=by
 refine ⟨?_,⟨rfl,rfl,rfl,by simp,fun k _ a=>heap_setCell_other w ⟨b,o,none⟩ k u (fun e=>a (by simp [e]))⟩⟩
 have:=heap_setCell_same w b o cs.toArray T u h
 unfold AO
 rw [this]
 simp
theorem Dj {b o:Nat} {T:TypeId} {cs:List Value} (l:(sizeOf e).run P w= .ok 1 w) (r:ev E x=some (.pointer (some ⟨b,o,none⟩))) (q:ev E y=some u) (c:u.oneCell' =true) (h:AO w b T cs) (p:o<cs.length):
  Xu P n E (.store e x y) ty w (fun i=>AO i b T (cs.set o u)∧w.grownBy i (some b)∧i.heap.size=w.heap.size):=fun a m=>by
 refine ⟨w.setCell ⟨b,o,none⟩ u,fun _ _ _ _=> ?_,(K3 h u).1,(K3 h u).2,by simp⟩
 have f:w.cell? ⟨b,o,none⟩=some cs[o]:=by rw [h.cell,getElem?_eq_getElem p]
 have j:w.frozen? ⟨b,o,none⟩=false:=by simp [World.frozen?,show w.heap[b]? =_ from h]
 have k:u.cells= #[u]:=by cases u<;>first|rfl|simp [Value.oneCell'] at c
 have g:=run_store P w ⟨b,o,none⟩ u .plain c
 simp only [f,j] at g
 simp [execOp,m.ev r,m.ev q,Instr.storeAt,Instr.sureAddr,storeVar,l,k,storeCells,add_lit,g]
theorem Bv {b k:Nat} {T:TypeId} {c cs:List Value} (hs:(P.info? e).map (·.size)=some k) (i:cs.length=k) (p:ev E x=some (.pointer (some ⟨b,0,none⟩))) (o:ev E y=some (.agg cs.toArray)) (g:cs.all (·.oneCell')=true) (h:AO w b T c) (m:c.length=k):
  Xu P n E (.store e x y) ty w (fun j=>AO j b T cs∧w.grownBy j (some b)∧j.heap.size=w.heap.size):=fun a l=>by
 subst i
 have f:=run_storeVar_row (P:=P) w b T e c.toArray cs.toArray h (by simpa using hs) (by simpa using m) (by simpa using g)
 refine ⟨w.setRow b cs.toArray,fun _ _ _ _=> ?_,setRow_heap w b _ _ _ _ h,⟨rfl,rfl,rfl,by simp [World.setRow],fun k _ i=>setRow_other w b k _ (fun e=>i (by simp [e]))⟩,by simp [World.setRow]⟩
 simp [execOp,l.ev p,l.ev o,Instr.storeAt,Instr.sureAddr,f]
theorem D3 {base c j:Nat} {T:TypeId} {xs:List Value} (q:(sizeOf e).run P w= .ok 1 w) (I:ev E x=some (CI v j)) (F:ev E y=some u) (f:u.oneCell' =true) (h:w.ownsRow base T sz v c xs) (A:j<xs.length):
  Xu P n E (.store e x y) ty w (fun o=>o.ownsRow base T sz v c (xs.set j u)∧w.grownBy o v.ownBlock∧o.heap.size=w.heap.size):=fun a B=>by
 rcases h.2 with ⟨rfl,rfl⟩|⟨g,cap,D,rfl,J,K,G,C,H,r⟩
 ·have:=h.1;simp at this;subst this;simp at A
 ·have k:=World.ownsRow.stored h j u
  refine ⟨w.setCell ⟨g,j,none⟩ u,fun _ _ _ _=> ?_,k.1,k.2,by simp⟩
  have m:ev E x=some (.pointer (some ⟨g,j,none⟩)):=by simpa [CI,add_lit] using I
  have i:w.cell? ⟨g,j,none⟩=some xs[j]:=by
   rw [World.ownsRow.cellAt h j (by rw [← h.1];exact A),getElem?_eq_getElem A]
  have p:=World.ownsRow.frozenAt h j
  have l:u.cells= #[u]:=by cases u<;>first|rfl|simp [Value.oneCell'] at f
  have b:=run_store P w ⟨g,j,none⟩ u .plain f
  simp only [i,p] at b
  simp [execOp,B.ev m,B.ev F,Instr.storeAt,Instr.sureAddr,storeVar,q,l,storeCells,add_lit,b]
theorem Ed {l c : Nat} {zs : List Value} {bytes : Nat} (hu : GM P t e sz) (hi : HP P e zs bytes) (hzl : zs.length = sz) (hx : ev E x = some (.int .i64 (l : Int))) (hy : ev E y = some (.int .i64 (c : Int))) (hlc : l ≤ c) (hb : bytes * c ≤ 281474976710656) (hm : c ≤ 9223372036854775807) :
    Xw P n E (.makeSlice t x y) ty w (fun v w' =>w'.ownsRow w.heap.size e sz v l ((replicate l zs).flatten)∧v= .slice (some ⟨w.heap.size,0,none⟩) l c∧Below w.heap.size w w' ∧w'.heap.size=w.heap.size+1):=fun a ha=>by
  subst hzl
  obtain ⟨i,h1,h2,h3,zv,h4,h5⟩:=hi.i
  subst h3
  have hrun:=run_make (P:=P) w t e i zv hu.u h1 h4 .i64 .i64 l c (by omega) (by omega) (by have:=hb;omega) (by omega)
  simp only [Int.toNat_natCast] at hrun
  refine ⟨_,w.alloc (.cells (madeCells zv.cells (c*i.size)) e),fun _ _ _ _=>by simp [execOp,ha.ev hx,ha.ev hy,hrun], ?_,rfl,GR w _,by simp⟩
  refine ⟨by simp, .inr ⟨w.heap.size,c,_,rfl,AX _,heap_alloc_new w _,hlc,by unfold maxLen;omega,by rw [size_madeCells,h2], ?_⟩⟩
  rw [h5,h2]
  apply ext_getElem?
  intro k
  by_cases hk:k<l*zs.length
  · have hk2:k<c*zs.length:=Nat.lt_of_lt_of_le hk (Nat.mul_le_mul_right _ hlc)
    have hz : 0 < zs.length := by rcases Nat.eq_zero_or_pos zs.length with h | h; · rw [h] at hk; simp at hk
                                  · exact h
    have hf:((replicate l zs).flatten)[k]? =zs[k % zs.length]? :=by
      clear hk2 hrun hb hm hlc hx hy
      induction l generalizing k with
      |zero=>simp at hk
      |succ l ih=>
        rw [replicate_succ,flatten_cons,getElem?_append]
        by_cases hlt:k<zs.length
        · simp [hlt,Nat.mod_eq_of_lt hlt]
        · simp only [hlt,if_false]
          rw [ih (k - zs.length) (by rw [Nat.succ_mul] at hk;omega)]
          rw [← Nat.mod_eq_sub_mod (by omega)]
    rw [hf]
    simp only [getElem?_take,hk,if_true]
    simp [madeCells,hk2,Nat.mod_lt k hz]
  · have:((replicate l zs).flatten).length=l*zs.length:=by simp
    rw [getElem?_eq_none (l:=(replicate l zs).flatten) (by rw [this];omega)]
    simp [getElem?_take,hk]
def JA:Nat→List (Nat×Operand)→Option (List Operand)
 |_,[]=>some []
 |k,p::r=>match Nat.beq p.1 k,JA (k+1) r with
  |true,some l=>some (p.2::l)
  |_,_=>none
def JN:Nat→List Value→List (Nat×Value)
 |_,[]=>[]
 |k,v::l=>(k,v)::JN (k+1) l
theorem K5 {a:Act} (b:CK n E a):∀(ps:List (Nat×Operand)) (k:Nat) (xs:List Operand) (vs:List Value),JA k ps=some xs→evs E xs=some vs→ps.map (fun p=>(p.1,a.eval p.2))=JN k vs
 |[],k,xs,vs,h,hx=>by
  simp only [JA,Option.some.injEq] at h
  subst h
  simp only [evs,Option.some.injEq] at hx
  subst hx;rfl
 |p::r,k,xs,vs,h,hx=>by
  simp only [JA] at h
  split at h
  ·rename_i l i c
   simp only [Option.some.injEq] at h
   subst h
   simp only [evs] at hx
   split at hx
   ·rename_i v us g f
    simp only [Option.some.injEq] at hx
    subst hx
    have:=Nat.eq_of_beq_eq_true i
    simp [JN,this,b.ev g,K5 b r (k+1) l us c f]
   ·simp at hx
  ·simp at h
theorem MR:∀(vs:List Value) (k:Nat) (a:Array Value),a.size=k+vs.length→vs.all (·.oneCell')=true→
  Instr.fill (fun i=>some (i*1,1)) a (JN k vs)=some ((a.toList.take k++vs).toArray)
 |[],k,a,h,_=>by
  have:a.toList.take k=a.toList:=take_of_length_le (by simp at h ⊢;omega)
  simp [JN,Instr.fill,this]
 |v::vs,k,a,h,h1=>by
  simp only [all_cons,Bool.and_eq_true] at h1
  have p:v.cells= #[v]:=by cases v<;>first|rfl|simp [Value.oneCell'] at h1
  have g:k<a.size:=by simp at h;omega
  have r:¬(k+1>a.size):=by omega
  have b:=MR vs (k+1) (a.setIfInBounds k v) (by simp at h ⊢;omega) h1.2
  simp only [JN,Instr.fill,p,Nat.mul_one]
  rw [if_neg (by simp;omega)]
  have q:(#[v].zipIdx.foldl (fun cs (c,j)=>cs.setIfInBounds (k+j) c) a)=a.setIfInBounds k v:=by simp [Array.zipIdx]
  simp only [q]
  simp only [Nat.mul_one] at b
  rw [b]
  congr 2
  apply ext_getElem?
  intro j
  simp only [Array.toList_setIfInBounds,getElem?_append,length_take,length_set,Array.length_toList,getElem?_take,getElem?_set]
  by_cases hj:j<k
  ·have l:j<min (k+1) a.size:=by omega
   have m:j<min k a.size:=by omega
   have o:j<k+1:=by omega
   have f:¬k=j:=by omega
   simp [hj,l,m,o,f]
  ·by_cases hj2:j=k
   ·subst hj2;simp [g,show min j a.size=j by omega,show min (j+1) a.size=j+1 by omega]
   ·simp [show ¬j<k by omega,show ¬j<k+1 by omega,show min k a.size=k by omega,show min (k+1) a.size=k+1 by omega,show j - k=(j - (k+1))+1 by omega]
theorem Dl {ps:List (Nat×Operand)} {xs:List Operand} {vs:List Value} {G:Value} {c k:Nat} (o:GM P t e 1) (D:HP P e [G] c) (A:JA 0 ps=some xs) (F:evs E xs=some vs) (l:vs.length=k) (g:vs.all (·.oneCell')=true) (h:Nat.ble k 16777216=true):
  Xw P n E (.buildSlice t k ps.toArray) ty w (fun v m=>m.ownsRow w.heap.size e 1 v k vs∧v= .slice (some ⟨w.heap.size,0,none⟩) k k∧Below w.heap.size w m∧m.heap.size=w.heap.size+1):=fun a H=>by
 obtain ⟨i,q,I,K,zv,p,J⟩:=D.i
 have f:¬(k*1>2 ^ 24):=by have:=Nat.le_of_ble_eq_true h;omega
 refine ⟨.slice (some ⟨w.heap.size,0,none⟩) k k,w.alloc (.cells vs.toArray e),fun _ _ _ _=> ?_,⟨by simpa using l, .inr ⟨w.heap.size,k,vs.toArray,rfl,AX _,heap_alloc_new w _,AX _,by have:=Nat.le_of_ble_eq_true h;unfold maxLen;omega,by simpa using l, ?_⟩⟩,rfl,GR w _,by simp⟩
 ·have j:(ps.toArray.map fun (i,x)=>(i,a.eval x)).toList=JN 0 vs:=by
   rw [← K5 H ps 0 xs vs A F];simp
  have B:∀(b:Array Value),b.size=k→Instr.fill (fun i=>some (i*1,1)) b (JN 0 vs)=some vs.toArray:=fun b L=>by
   rw [MR vs 0 b (by omega) g];simp
  have r:(zeroValue e).run P w= .ok zv w:=by simp [zeroValue,typeInfo,q,p]
  have hs:=o.s w
  simp only [execOp,Instr.buildSlice,Sem.run_bind,run_underlying o.u,Result.andThen_ok,hs,Sem.run_ite,if_neg f,Sem.run_pure,j]
  by_cases h0:k*1=0
  ·have:vs=[]:=eq_nil_of_length_eq_zero (by omega)
   subst this
   obtain rfl:k=0:=by simpa using l.symm
   have C:Array.range 0= #[]:=rfl
   simp [JN,Instr.fill,newRow,C]
  ·simp only [if_neg h0,r,Result.andThen_ok]
   rw [B _ (by simp)]
   simp [newRow]
 ·rw [take_of_length_le (by simp [l])]
end
section
variable {P : Program} {Q : CH} {n : Nat} {E : CS} {w : World} {l0 rest : List Oper} {ty t : TypeId} {pos : String} {af : Array Edge} {x : Operand} {d : Nat}
theorem Cd {b o f:Nat} {c:Array Field} {a:Field} (i:P.underlying t=some (.struct c)) (h:(c[f]?,ev E x)=(some a,some (.pointer (some ⟨b,o,none⟩)))) (g:(sizeOf a.type).run P w= .ok (0+1) w):Ex P n E (.fieldAddr t x f) ty w (.pointer (some ⟨b,o+a.offset,none⟩)):=D4 (q:=0) i (congrArg Prod.fst h) g (congrArg Prod.snd h)
theorem Be {b o f:Nat} {c:Array Field} {a:Field} (i:P.underlying t=some (.struct c)) (h:(c[f]?,ev E x,Nat.blt d n)=(some a,some (.pointer (some ⟨b,o,none⟩)),true)) (g:(sizeOf a.type).run P w= .ok (0+1) w) (k:Lw P l0 Q n rest ((d, .pointer (some ⟨b,o+a.offset,none⟩))::E) w):Lw P l0 Q n (⟨some d, .fieldAddr t x f,ty,pos,af,none⟩::rest) E w:=Aa (D4 (q:=0) i (congrArg (·.1) h) g (congrArg (·.2.1) h)) (congrArg (·.2.2) h) k
end

section
variable {P : Program} {ops : Array Oper} {md : Region.Mode} {C : World → Prop}
def H9 (P:Program) (md:Region.Mode) (ops:Array Oper) (C:World→Prop) (n:Nat) (L:Array Bool→Act→Prop):Nat→Array Bool→Act→Prop
 |0,listed,a=>L listed a
 |f+1,listed,a=>
  Region.ready md ops listed≠[]∧∀i ∈ Region.ready md ops listed,i<n∧qOp P ops C i (H9 P md ops C n L f (listed.setIfInBounds i true)) a
theorem GS {n g:Nat} {L:Array Bool→Act→Prop} {Q' :Exit→Act→World→Prop} (l:∀b a w,C w→L b a→wpAny P md ops Q' g b a w):
  ∀(f:Nat) (b:Array Bool) (a:Act) (w:World),C w→H9 P md ops C n L f b a→wpAny P md ops Q' (f+g) b a w
 |0,b,a,w,hw,h=>by rw [Nat.zero_add];exact l _ _ _ hw h
 |f+1,b,a,w,hw,h=>by
  rw [show f+1+g=(f+g)+1 by omega]
  exact ⟨fun q=>absurd q h.1,fun i r=>wpOp_of_qOp hw (fun p o k m=>GS l f _ p o k m) (h.2 i r).2⟩
theorem Ml {n i:Nat} {M:Oper} {v:Value} {L:Array Bool→Act→Prop} (X:ops[i]? =some M) (B:∀(j:Nat) (o:Oper) cs b,ops[j]? =some o→o.op≠ .select cs b)
  (hs:Region.sinkB md ops n=true) (hc:Region.chainB md ops n=true) (Z:n<ops.size) (R:i<n)
  (G:∀g a,L g a→∀j ∈ Region.ready md ops g,n≤j):
  ∀(f:Nat) (g:Array Bool) (a:Act),HeadInv md ops n g→
   (∀j J,ops[j]? =some J→j≠i→g.getD j true=false→(∀e ∈ J.after,Region.binds md e=true→e.on≠i)→M.apart ops J=true)→
   i ∈ Region.ready md ops g→YieldsIn P ops C M v a→
   H9 P md ops C n L f (g.setIfInBounds i true) (a.put M.dst v)→H9 P md ops C n L (f+1) g a:=by
 intro f
 induction f with
 |zero=>
  intro g a q _ D T H
  have l:=(mem_ready.1 D).1
  refine ⟨fun h=>(by rw [h] at D;cases D),fun j I=> ?_⟩
  have r:j<n:=by
   rcases Nat.lt_or_ge j n with h|h
   ·exact h
   ·exact absurd I (tail_waits hs hc Z q _ i rfl R l j h)
  refine ⟨r, ?_⟩
  by_cases hji:j=i
  ·subst hji;exact T.qOp X H
  ·have:=G _ _ H j (ready_mono I hji)
   omega
 |succ f ih=>
  intro g a q m D T H
  have l:=(mem_ready.1 D).1
  refine ⟨fun h=>(by rw [h] at D;cases D),fun j I=> ?_⟩
  have r:j<n:=by
   rcases Nat.lt_or_ge j n with h|h
   ·exact h
   ·exact absurd I (tail_waits hs hc Z q _ i rfl R l j h)
  refine ⟨r, ?_⟩
  by_cases hji:j=i
  ·subst hji;exact T.qOp X H
  ·have S:=(H.2 j (ready_mono I hji)).2
   obtain ⟨A,J,F,hall⟩:=mem_ready.1 I
   have N:∀e ∈ J.after,Region.binds md e=true→e.on≠i:=fun e he hb W=>by
    have S:=hall e he hb
    rw [W,getD_both l] at S
    cases S
   have h2:=qOp_put F (m j J F hji A N) (fun cs b=>B i M cs b X) (fun cs b=>B j J cs b F) T S
   have p:∀k ok,ops[k]? =some ok→k≠i→(g.setIfInBounds j true).getD k true=false→
     (∀e ∈ ok.after,Region.binds md e=true→e.on≠i)→M.apart ops ok=true:=fun k ok hk V l U=>by
    refine m k ok hk V ?_ U
    by_cases hjk:j=k
    ·subst hjk;exact A
    ·rw [getD_set_ne true hjk] at l;exact l
   refine qOp_mono (fun a' Y=>ih (g.setIfInBounds j true) a' (q.set I r) p (ready_mono D (Ne.symm hji)) Y.1 ?_) h2
   rw [Array.setIfInBounds_comm _ _ hji]
   exact Y.2
theorem Hh {n g:Nat} {D:Act→Prop} (m:Region.noSelect ops=true) (hs:Region.sinkB md ops n=true) (H:Region.chainB md ops n=true) (G:n<ops.size):
  ∀(l:List Oper) (k:Nat) (b:Array Bool) (a:Act),(∀j,j<l.length→l[j]? =ops[k+j]?)→k+l.length=n→HeadInv md ops n b→
  Region.lexHead md ops g l.length k b=true→wpQuiet P ops C D l a→
  H9 P md ops C n (fun f F=>Region.seqB md ops g n f=true∧D F) l.length b a
 |[],k,b,a,_,hk,_,hB,h=>by
  have:k=n:=by simpa using hk
  subst this
  exact ⟨by simpa [Region.lexHead] using hB,h⟩
 |o::l,k,b,a,hl,hk,inv,hB,h=>by
  have r:ops[k]? =some o:=by simpa using (hl 0 (by simp)).symm
  simp only [length_cons,Region.lexHead,Bool.and_eq_true] at hB
  obtain ⟨⟨L,I⟩,B⟩:=hB
  have p:k<n:=by simp only [length_cons] at hk;omega
  have q:k ∈ Region.ready md ops b:=by simpa using L
  have A:qOp P ops C k (wpQuiet P ops C D l) a:=by unfold qOp;simp only [r];exact h
  obtain ⟨v,J,M⟩:=yieldsIn_of_qOp r A
  exact Ml r (Region.noSelect_spec m) hs H G p (fun f F N=>seqB_ready N.1) l.length b a inv (Region.free_spec r I) q J
   (Hh m hs H G l (k+1) _ _ (fun j R=>by have:=hl (j+1) (by simp;omega);simpa [Nat.add_assoc,Nat.add_comm 1 j] using this) (by simp only [length_cons] at hk;omega) (inv.set q p) B M)
theorem Ia {N:Nat} {Q:Exit→Act→World→Prop} {a:Act} {w:World} {l:List Oper} (n:Nat) (S:P.follows .mixedOrders=true) (J:Region.lexTailB .any l.toArray n=true) (L:C {w with drawn:=w.drawn+1})
  (h:wpQuiet P l.toArray C (fun A=>∀k,C k→wpList P l.toArray Q (l.drop n) A k) (l.take n) a):(Code.region N l.toArray true).wp P Q a w:=by
 simp only [Region.lexTailB,Bool.and_eq_true,decide_eq_true_eq] at J
 obtain ⟨⟨⟨⟨p,G⟩,hs⟩,T⟩,o⟩:=J
 have R:n<l.length:=by simpa using G
 have b:(l.take n).length=n:=by simp;omega
 have q:(l.drop n).length=l.toArray.size - n:=by simp
 have m:HeadInv .any l.toArray n (Array.replicate l.toArray.size false):=
  ⟨by simp,fun j U _ F=>(by rw [getD_replicate_false] at F;cases F),fun t _ M=>getD_in (by simpa using M) (getD_replicate_false _ _)⟩
 have H:=Hh (P:=P) (C:=C) (md:= .any) (g:=l.toArray.size - n) p hs T G (l.take n) 0 _ a (fun j I=>by
  have B:j<n:=by rw [b] at I;exact I
  simp [B]) (by simpa using b) m (by rw [b];exact o) h
 refine wp_region_any S ?_
 have:=GS (Q' :=Q) (g:=l.toArray.size - n) (fun f A k r D=>by
  have:=wpAny_of_seq (md:= .any) (Q' :=Q) (l.drop n) n f A k (fun j=>by simp [getElem?_drop]) (by rw [q];exact D.1) (D.2 k r)
  rwa [q] at this) _ _ _ _ L H
 rw [b,show n+(l.toArray.size - n)=l.toArray.size by omega] at this
 exact this
end
section
variable {P : Program} {ops : Array Oper} {md : Region.Mode} {C : World → Prop}
end
def AE (Q:CH):Prop:=∀c a w o v,Q (.panic c) (Act.put a o v) w→Q (.panic c) a w
theorem Bo {P:Program} {a:Func} {R:Value→World→Prop}:AE (RV P a R):=fun _ _ _ _ _ h=>by
 obtain ⟨_,v,b,_⟩:=h;cases b
theorem Am {K:Act→World→Prop} {Q:CH} (h:AE Q):AE (CX K Q):=fun c a w o v b=>h c a w o v b
theorem Bs {b:Nat} {Q:CH} (h:AE Q):AE (IY b Q):=fun c a w o v f=>h c a w o v f
def Qw (P:Program) (l0:List Oper) (C:World→Prop) (K:Act→Prop) (n:Nat) (l:List Oper) (E:CS):Prop:=∀a,CK n E a→wpQuiet P l0.toArray C K l a
def Aw (P:Program) (l0:List Oper) (Q:CH) (n fuel:Nat) (listed:Array Bool) (E:CS) (w:World):Prop:=∀a,CK n E a→wpAny P .any l0.toArray Q fuel listed a w
section
variable {P : Program} {Q : CH} {n : Nat} {E : CS} {w : World} {l0 rest : List Oper} {ty : TypeId} {pos : String} {af : Array Edge} {C : World → Prop} {K : Act → Prop}
theorem EX (w:World):Below w.heap.size w {w with drawn:=w.drawn+1}:=⟨rfl,rfl,rfl,AX _,fun _ _=>rfl⟩
theorem Cv {f:Nat} {l:List Oper} (g:P.follows .mixedOrders=true) (o:Region.lexB .any l.toArray=true) (h:Qw P l (Below w.heap.size w) (fun m=>∀b,Below w.heap.size w b→Q .normal m b) n l E):
  Cw P Q n (.region f l.toArray true) E w:=fun a k=>wp_region_quiet (C:=Below w.heap.size w) g o (EX w) (by simpa using h a k)
theorem Cw.tail {f:Nat} {l:List Oper} (k:Nat) (g:P.follows .mixedOrders=true) (p:Region.lexTailB .any l.toArray k=true)
  (h:Qw P l (Below w.heap.size w) (fun o=>∀b,Below w.heap.size w b→wpList P l.toArray Q (l.drop k) o b) n (l.take k) E):Cw P Q n (.region f l.toArray true) E w:=fun a m=>
 Ia (C:=Below w.heap.size w) k g p (EX w) (h a m)
theorem Cr (h:∀b,C b→Pw n E (Q .normal) b):Qw P l0 C (fun k=>∀b,C b→Q .normal k b) n [] E:=fun a g=>wpQuiet_nil fun b f=>h b f a g
theorem Dc {l:List Oper} (h:∀b,C b→Lw P l0 Q n l E b):Qw P l0 C (fun k=>∀b,C b→wpList P l0.toArray Q l k b) n [] E:=fun a g=>wpQuiet_nil fun b f=>h b f a g
theorem Ad {d:Nat} {b:Op} {v:Value} (h:∀w,C w→Ex P n E b ty w v) (g:Nat.blt d n=true) (k:Qw P l0 C K n rest ((d,v)::E)):Qw P l0 C K n (⟨some d,b,ty,pos,af,none⟩::rest) E:=fun a f=>by
 refine wpQuiet_step fun o m=> ?_
 rw [if_pos (by simp [Region.wanted])]
 refine ⟨v,fun w l=> ?_,m _ (k _ (f.put v g))⟩
 unfold Oper.quietAt
 rw [h w l a f]
 exact ⟨rfl,rfl⟩
theorem C3 {d:Nat} {f:FuncId} {xs:List Operand} {vs:List Value} {ts:Array TypeId} {v:Value} (B:evs E xs=some vs) (m:Nat.blt d n=true) (g:∀w,C w→AM P f vs w (fun r h=>r=v∧C h))
  (k:Qw P l0 C K n rest ((d,v)::E)):Qw P l0 C K n (⟨some d, .call {callee:= .value (.func f),args:=xs.toArray,argTypes:=ts},ty,pos,af,none⟩::rest) E:=fun a l=>by
 refine wpQuiet_step fun D p=> ?_
 rw [if_pos (by simp [Region.wanted])]
 refine ⟨v,fun w b=> ?_,p _ (k _ (l.put v m))⟩
 unfold Oper.quietAt
 rw [Ft (g w b).1 B a l]
 exact ⟨rfl,(g w b).2.mono fun e h ⟨u,o,q,A⟩=>by subst o;subst q;exact ⟨rfl,A⟩⟩
theorem E1 {d:Nat} {f:FuncId} {c:Operand} {p q:List Value} {xs:List Operand} {vs:List Value} {ts:Array TypeId} {v:Value} (b:ev E c=some (.func (.func f) p.toArray q.toArray)) (F:evs E xs=some vs) (o:Nat.blt d n=true)
  (h:∀w,C w→AM P f (p++vs++q) w (fun r l=>r=v∧C l))
  (k:Qw P l0 C K n rest ((d,v)::E)):Qw P l0 C K n (⟨some d, .call {callee:= .value c,args:=xs.toArray,argTypes:=ts},ty,pos,af,none⟩::rest) E:=fun a m=>by
 refine wpQuiet_step fun G B=> ?_
 rw [if_pos (by simp [Region.wanted])]
 refine ⟨v,fun w g=> ?_,B _ (k _ (m.put v o))⟩
 unfold Oper.quietAt
 rw [Xc.val (h w g).1 b F a m]
 exact ⟨rfl,(h w g).2.mono fun e l ⟨u,A,D,b⟩=>by subst A;subst D;exact ⟨rfl,b⟩⟩
theorem Eu {l:List Oper} (d:Nat) {v v' :Value} (g:get E d=some v) (k:v=v') (h:Qw P l0 C K n l ((d,v')::E)):Qw P l0 C K n l E:=fun a b=>h a<|by
 subst k
 refine ⟨b.dfr,b.size,fun i u f=> ?_⟩
 by_cases hi:d=i
 ·subst hi;rw [CR] at f;exact b.has _ _ (g.trans f)
 ·rw [DZ _ _ hi] at f;exact b.has _ _ f
theorem Dm {l:List Oper} (d:Nat) {g:Bool} (b:get E d=some (.bool g)) (a:g=true→Qw P l0 C K n l ((d, .bool true)::E)) (f:g=false→Qw P l0 C K n l ((d, .bool false)::E)):Qw P l0 C K n l E:=by
 cases g with
 |true=>exact Eu d b rfl (a rfl)
 |false=>exact Eu d b rfl (f rfl)
theorem Ba {d:Option Tmp} {f:Op} {j dj:Nat} {g:Bool} (l:(ED l0 j).bind (·.dst)=some dj) (m:get E dj=some (.bool g))
  (h:Qw P l0 C K n (⟨d,f,ty,pos,af,none⟩::rest) E):Qw P l0 C K n (⟨d,f,ty,pos,af,some (j,g)⟩::rest) E:=fun a k=>by
 have b:=h a k
 unfold wpQuiet at b ⊢
 rw [if_pos (by simp [Region.wanted])] at b
 rw [if_pos (by simp [Region.wanted,FZ k l m])]
 exact b
theorem Ar {d:Nat} {l:Op} {j dj:Nat} {g b:Bool} (m:(ED l0 j).bind (·.dst)=some dj) (p:get E dj=some (.bool b)) (o:(g==b)=false) (k:Nat.blt d n=true)
  (h:Qw P l0 C K n rest ((d,undef)::E)):Qw P l0 C K n (⟨some d,l,ty,pos,af,some (j,g)⟩::rest) E:=fun a f=>by
 unfold wpQuiet
 rw [if_neg]
 ·exact h _ (f.put _ k)
 ·simp only [Region.wanted,FZ f m p]
  cases g<;>cases b<;>simp_all
theorem Cw.any {f:Nat} {l:List Oper} (g:P.follows .mixedOrders=true) (h:∀b,Below w.heap.size w b→b.heap.size=w.heap.size→Aw P l Q n l.length (Array.replicate l.length false) E b):Cw P Q n (.region f l.toArray true) E w:=fun a k=>
 wp_region_any g (by simpa using h _ (EX w) rfl a k)
theorem Aw.take {i d f:Nat} {g:Op} {v:Value} {b:Array Bool} (A:AE Q) (B:ED l0 i=some ⟨some d,g,ty,pos,af,none⟩) (hs:Region.noSelect l0.toArray=true) (p:Region.free .any l0.toArray b i=true)
  (r:(Region.ready .any l0.toArray b).contains i=true) (h:∀w,Ex P n E g ty w v) (o:Nat.blt d n=true) (k:Aw P l0 Q n f (b.setIfInBounds i true) ((d,v)::E) w):Aw P l0 Q n (f+1) b E w:=fun a m=>
 wpAny_take (by rw [getElem?_toArray,DC];exact B) hs p r (fun c D l q=>A _ _ _ _ _ q) (.inl ⟨by simp [Region.wanted],fun l=>h l a m (some d) pos af none⟩) (k _ (m.put v o))
theorem Aw.all {f:Nat} {b:Array Bool} (g:List Nat) (m:Region.ready .any l0.toArray b=g) (l:g≠[])
  (h:∀i ∈ g,∀o,ED l0 i=some o→Pw n E (fun a w=>wpOp P l0.toArray Q i (fun B r=>wpAny P .any l0.toArray Q f (b.setIfInBounds i true) B r) a w) w):Aw P l0 Q n (f+1) b E w:=fun a A=>
 wpAny_all m l fun i p=>by
  have k:i<l0.length:=by
   have:i ∈ Region.ready .any l0.toArray b:=m ▸ p
   obtain ⟨_,o,q,_⟩:=mem_ready.1 this
   have:=(Array.getElem?_eq_some_iff.1 q).1
   simpa using this
  exact h i p l0[i] (by rw [← DC,getElem?_eq_getElem k]) a A
theorem Ea {f:Nat} {b:Array Bool} (k:Region.ready .any l0.toArray b=[]) (h:Pw n E (Q .normal) w):Aw P l0 Q n f b E w:=fun a g=>wpAny_done k (h a g) f
theorem Pw.one {i f:Nat} {o:Oper} {b:Array Bool} (q:ED l0 i=some o) (h:Lw P l0 (CX (fun k g=>wpAny P .any l0.toArray Q f (b.setIfInBounds i true) k g) Q) n [o] E w):
  Pw n E (fun a w=>wpOp P l0.toArray Q i (fun k g=>wpAny P .any l0.toArray Q f (b.setIfInBounds i true) k g) a w) w:=fun a A=>by
 have l:=h a A
 have p:l0.toArray[i]? =some o:=by rw [getElem?_toArray,DC];exact q
 unfold wpList at l
 unfold wpOp
 simp only [p]
 have B:wpList P l0.toArray (CX (fun k g=>wpAny P .any l0.toArray Q f (b.setIfInBounds i true) k g) Q) []=fun k g=>wpAny P .any l0.toArray Q f (b.setIfInBounds i true) k g:=by
  funext k g;rfl
 rw [B] at l
 split at l
 ·rename_i m
  rw [if_pos m]
  refine l.imp (fun h=> ?_) (fun h=>h)
  unfold Oper.wp at*
  generalize (execOp a.eval o).run P w=r at*
  cases r with
  |ok nx g=>cases nx<;>exact h
  |halt x g=>cases x<;>exact h
 ·rename_i m
  rw [if_neg m];exact l
theorem Aw.only {i b:Nat} {o:Oper} {a:Array Bool} (p:Region.ready .any l0.toArray a=[i]) (g:ED l0 i=some o)
  (h:Lw P l0 (CX (fun m k=>wpAny P .any l0.toArray Q b (a.setIfInBounds i true) m k) Q) n [o] E w):Aw P l0 Q n (b+1) a E w:=
 Aw.all [i] p (by simp) fun j l q f=>by
  obtain rfl:j=i:=by simpa using l
  obtain rfl:q=o:=Option.some.inj (f.symm.trans g)
  exact Pw.one g h
theorem F6 {i j b:Nat} {o q:Oper} {a:Array Bool} (D:Region.ready .any l0.toArray a=[i,j]) (r:ED l0 i=some o) (A:ED l0 j=some q)
  (h:Lw P l0 (CX (fun p l=>wpAny P .any l0.toArray Q b (a.setIfInBounds i true) p l) Q) n [o] E w)
  (k:Lw P l0 (CX (fun p l=>wpAny P .any l0.toArray Q b (a.setIfInBounds j true) p l) Q) n [q] E w):Aw P l0 Q n (b+1) a E w:=
 Aw.all [i,j] D (by simp) fun m g B f=>by
  rcases List.mem_cons.1 g with rfl|g
  ·obtain rfl:B=o:=Option.some.inj (f.symm.trans r)
   exact Pw.one r h
  ·obtain rfl:m=j:=by simpa using g
   obtain rfl:B=q:=Option.some.inj (f.symm.trans A)
   exact Pw.one A k
theorem Aw.back {f:Nat} {b:Array Bool} {l:List Oper} (h:Aw P l0 Q n f b E w):Lw P l (CX (fun m g=>wpAny P .any l0.toArray Q f b m g) Q) n [] E w:=fun a k=>wpList_nil (h a k)
theorem DE {α:Type} {enc:α→Value} (h:∀x,(enc x).oneCell' =true) (l:List α):(l.map enc).all (·.oneCell')=true:=by simp [h]
def Twn {α:Type} (w:World) (base:Nat) (T:TypeId) (enc:α→Value) (mark:Value) (v:Value) (l:List α):Prop:=
 ∃b cap,v= .slice (some ⟨b,0,none⟩) l.length cap∧w.ownsRow base T 1 (.slice (some ⟨b,0,none⟩) (l.length+1) cap) (l.length+1) (l.map enc++[mark])
theorem Ki {b cap k m base:Nat} {T:TypeId} {xs r:List Value} (h:w.ownsRow base T 1 (.slice (some ⟨b,0,none⟩) (k+m) cap) (k+m) (xs++r)) (q:xs.length=k):w.ownsRow base T 1 (.slice (some ⟨b,0,none⟩) k cap) k xs:=by
 obtain ⟨I,B⟩:=h
 rcases B with ⟨G,_⟩|⟨g,p,f,A,H,F,D,l,o,a⟩
 ·cases G
 ·cases A
  refine ⟨by simpa using q, .inr ⟨b,cap,f,rfl,H,F,by omega,l,o, ?_⟩⟩
  have:=cngA (take k) a
  rw [take_take,Nat.min_eq_left (by omega)] at this
  simp only [Nat.mul_one] at this ⊢
  rw [this,← q,take_left]
theorem Twn.sl {α:Type} {base:Nat} {T:TypeId} {enc:α→Value} {a v:Value} {l:List α} (h:Twn w base T enc a v l):BS enc w v l:=by
 obtain ⟨b,cap,rfl,f⟩:=h
 exact AI (Ki f (by simp))
theorem Twn.bs {α:Type} {f:World} {base:Nat} {T:TypeId} {enc:α→Value} {a v:Value} {l:List α} (h:Twn w base T enc a v l) (k:Below w.heap.size w f):Twn f base T enc a v l:=by
 obtain ⟨b,cap,rfl,g⟩:=h
 exact ⟨b,cap,rfl,AL g k⟩
variable {x y z : Operand} {v u : Value} {t s e : TypeId} {sz base : Nat}
theorem NL {P:Program} {w R:World} {base:Nat} {t ty e:TypeId} {i:TypeInfo} {z:Value} {size o:Nat} (G:P.underlying t=some (.slice e)) (H:P.info? e=some i) (N:i.zero=some z)
  (p:i.size=size) (J:i.bytes=o) (W:0<size) {v v' :Value} {n:Nat} {xs:List Value} (l:w.ownsRow base e size v n xs)
  {a:Addr} {m c:Nat} {b:List Value} (D:b.length=m*size) (h:∀j u,b[j]? =some u→w.cell? (a.add j)=some u) (V:∀u ∈ b,u.oneCell' =true)
  (I:n+m≤maxLen) (k:(n+m)*o≤140737488355328) (f:(Builtin.append_ #[t,t] ty #[v, .slice (some a) m c]).run P w= .ok v' R):
  v'.ownBlock=v.ownBlock∨v'.ownBlock=some w.heap.size:=by
 subst p
 subst J
 have F:n+m≤9223372036854775807:=by simp only [maxLen] at I;omega
 rcases l.2 with ⟨rfl,rfl⟩|⟨g,cap,A,rfl,X,U,Y,S,M,L⟩
 ·by_cases hm:m=0
  ·subst hm
   obtain rfl:b=[]:=eq_nil_of_length_eq_zero (by simpa using D)
   have r:(Builtin.append_ #[t,t] ty #[.slice none 0 0, .slice (some a) 0 c]).run P w= .ok (.slice none 0 0) w:=by
    simp [Builtin.append_,run_underlying G,sizeOf,typeInfo,H,Builtin.lenOf,Builtin.firstCells,loadCells,loadCellsFrom]
   rw [r] at f
   cases f
   exact .inl rfl
  ·have r:=run_append_nil (P:=P) w t ty e i z G H N a m c b D h (by omega) (by omega) (by have T:=k;simp only [Nat.zero_add] at T;omega)
   rw [r] at f
   cases f
   exact .inr rfl
 ·by_cases hroom:n+m≤cap
  ·have B:n*i.size+b.length≤A.size:=by rw [D,M,← Nat.add_mul];exact Nat.mul_le_mul_right _ hroom
   have r:=run_append_room (P:=P) w t ty e i G H g n cap A U a m c b D h V hroom B
   rw [r] at f
   cases f
   exact .inl rfl
  ·have q:∀j u,xs[j]? =some u→w.cell? ((⟨g,0,none⟩:Addr).add j)=some u:=l.cells (g:=g) rfl
   have r:=run_append_grow (P:=P) w t ty e i z G H N ⟨g,0,none⟩ n cap xs l.1 q a m c b D h (by omega) (by omega) (growslice_fits (by omega) k)
   rw [r] at f
   cases f
   exact .inr rfl
theorem Di {k m:Nat} {xs b:List Value} {g:Nat} {A:List Value} (D:GM P t e sz) (hi:HP P e A g) (M:A.length=sz) (W:0<sz) (Z:ev E x=some v) (X:ev E y=some u)
  (f:w.ownsRow base e sz v k xs) (G:Sl w sz u m b) (F:b.all (·.oneCell')=true) (p:(k+m)*g≤140737488355328) (hm:k+m≤9223372036854775807) (h:base≤w.heap.size):
  Xw P n E (.call {callee:= .builtin .append,args:= #[x,y],argTypes:= #[t,t]}) ty w (fun v' o=>o.ownsRow base e sz v' (k+m) (xs++b)∧Below base w o∧w.grownBy o v.ownBlock∧(v'.ownBlock=v.ownBlock∨v'.ownBlock=some w.heap.size)):=fun a I=>by
 subst M
 have q:∀o,w.grownBy o v.ownBlock→Below base w o:=fun o hg=>ET hg h fun k hk=>(AG f k hk).1
 obtain ⟨i,J,T,Y,zv,V,h5⟩:=hi.i
 obtain ⟨N,ao,cap,rfl,hc1,hc2,S,B⟩:=G
 have R:zv.cells.size=A.length:=by rw [h5];simp
 cases ao with
 |none=>
  have h0:=S rfl
  have L:m=0:=by omega
  subst L
  obtain rfl:b=[]:=eq_nil_of_length_eq_zero (by simpa using N)
  subst h0
  have H:=run_append_owned_none (P:=P) w base t ty e i A.length D.u J v k xs f
  refine ⟨v,w,fun _ _ _ _=>by simp [execOp,resolve,invoke,builtin,I.ev Z,I.ev X,H],by simpa using f,q _ (Jr _ _),Jr _ _, .inl rfl⟩
 |some ad=>
  have r:k+m≤maxLen:=by unfold maxLen;omega
  have l:∀u ∈ b,u.oneCell' =true:=fun u D=>List.all_eq_true.1 F u D
  obtain ⟨v',o,H,g1,U,g3⟩:=run_append_own (P:=P) w base t ty e i zv A.length g D.u J V T Y R W v k xs f ad m cap b N (B ad rfl) l r p h
  exact ⟨v',o,fun _ _ _ _=>by simp [execOp,resolve,invoke,builtin,I.ev Z,I.ev X,H],g1,q _ U,U,NL D.u J V T Y W f N (B ad rfl) l r p H⟩
theorem Dp {k m:Nat} {xs b:List Value} {f:Nat} {A:List Value} (I:GM P t e sz) (L:HP P e A f) (r:A.length=sz) (G:0<sz) (M:ev E x=some v) (H:ev E y=some u)
  (h:w.ownsRow base e sz v k xs) (q:Sl w sz u m b) (p:b.all (·.oneCell')=true) (o:(k+m)*f≤140737488355328) (N:k+m≤9223372036854775807) (g:base≤w.heap.size):
  Xw P n E (.call {callee:= .builtin .append,args:= #[x,y],argTypes:= #[t,t]}) ty w (fun v' l=>l.ownsRow base e sz v' (k+m) (xs++b)∧Below base w l∧w.grownBy l v.ownBlock):=fun a R=>by
 obtain ⟨v',l,F,B,J,D,_⟩:=Di I L r G M H h q p o N g a R
 exact ⟨v',l,F,B,J,D⟩
def JX (v u:Value):Prop:=∀b,v.ownBlock=some b→u.ownBlock≠some b
theorem JX.symm {v u:Value} (h:JX v u):JX u v:=fun b a f=>h b f a
theorem AM.q {f:FuncId} {args:List Value} {a:World} (h:AM P f args a (fun r b=>r=v∧Below a.heap.size a b)) (k:Below w.heap.size w a):AM P f args a (fun r b=>r=v∧Below w.heap.size w b):=
 h.mono fun _ _ g=>⟨g.1,OU k g.2 (AX _)⟩
def cut (v:Value) (sz i j:Nat):Value:=match v with
 | .slice ao _ cap=> .slice (if cap=i then ao else ao.map (·.add (i*sz))) (j - i) (cap - i)
 |_=>undef
theorem Sl.cut {c i j:Nat} {xs:List Value} (h:Sl w sz v c xs) (B:i≤j) (o:j≤c):Sl w sz (cut v sz i j) (j - i) ((xs.drop (i*sz)).take ((j - i)*sz)):=by
 obtain ⟨m,l,cap,rfl,G,F,r,p⟩:=h
 refine ⟨?_,_,cap - i,rfl,by omega,by omega,fun D=> ?_,fun a f k u b=> ?_⟩
 ·have e1:j*sz=i*sz+(j - i)*sz:=by rw [← Nat.add_mul];congr 1;omega
  have e2:j*sz≤c*sz:=Nat.mul_le_mul_right _ o
  rw [length_take,length_drop,m];omega
 ·split at D
  ·omega
  ·have:=r (by cases l<;>simp_all);omega
 ·have g:k<(j - i)*sz:=by
   rw [getElem?_take] at b
   split at b
   ·assumption
   ·cases b
  rw [getElem?_take,if_pos g,getElem?_drop] at b
  split at f
  ·rename_i A
   have q:(j - i)=0:=by omega
   rw [q] at g;simp at g
  ·cases l with
   |none=>simp at f
   |some ad=>
    simp only [Option.map_some,Option.some.injEq] at f
    subst f
    rw [JV]
    exact p ad rfl _ _ b
theorem BS.cut {α:Type} {enc:α→Value} {l:List α} {i j:Nat} (h:BS enc w v l) (a:i≤j) (b:j≤l.length):BS enc w (Dd.cut v 1 i j) ((l.drop i).take (j - i)):=by
 have:=Sl.cut h a b
 have e:((l.drop i).take (j - i)).length=j - i:=by simp;omega
 unfold BS
 rw [e]
 simpa [map_take,map_drop] using this
theorem BS.take {α:Type} {enc:α→Value} {l:List α} {j:Nat} (h:BS enc w v l) (a:j≤l.length):BS enc w (Dd.cut v 1 0 j) (l.take j):=by
 simpa using BS.cut h (Nat.zero_le j) a
theorem BS.drop {α:Type} {enc:α→Value} {l:List α} {i:Nat} (h:BS enc w v l) (a:i≤l.length):BS enc w (Dd.cut v 1 i l.length) (l.drop i):=by
 have:=BS.cut h a (AX _)
 rwa [take_of_length_le (by simp)] at this
section
variable {k1 k2 : IntKind} {c i j : Nat} {xs : List Value} {y2 : Operand}
theorem F9 (b:GM P t e sz) (p:ev E x=some v) (o:ev E y2=some (.int k2 (j:Int))) (h:YJ v c) (r:j≤c):Ex P n E (.slice t x none (some y2) none) ty w (cut v sz 0 j):=fun a g _ _ _ _=>by
 obtain ⟨l,cap,rfl,A,q,B⟩:=h
 have f:P.underlying t=some (.slice (P.elem t)):=by rw [Program.elem,b.u]
 have m:P.elem t=e:=by rw [Program.elem,b.u]
 have k:=run_slice_h (P:=P) w t l c cap f k2 (j:Int) (by omega) (by omega)
 simp only [Int.toNat_natCast,m,b.s w,Result.andThen_ok] at k
 simp [execOp,g.ev p,g.ev o,Instr.sliceAt,run_underlying b.u,k,sliced,cut]
theorem Ey (f:GM P t e sz) (g:ev E x=some v) (b:ev E y2=some (.int k2 (j:Int))) (h:Sl w sz v c xs) (a:j≤c):Ex P n E (.slice t x none (some y2) none) ty w (cut v sz 0 j):=F9 f g b h.shp a
theorem Ew {b cap:Nat} (f:GM P t e sz) (o:ev E x=some (.slice (some ⟨b,0,none⟩) c cap)) (m:ev E y2=some (.int k2 (j:Int))) (p:j≤cap):Ex P n E (.slice t x none (some y2) none) ty w (.slice (some ⟨b,0,none⟩) j cap):=fun a h _ _ _ _=>by
 have g:P.underlying t=some (.slice (P.elem t)):=by rw [Program.elem,f.u]
 have l:P.elem t=e:=by rw [Program.elem,f.u]
 have k:=run_slice_h (P:=P) w t (some ⟨b,0,none⟩) c cap g k2 (j:Int) (by omega) (by omega)
 simp only [Int.toNat_natCast,l,f.s w,Result.andThen_ok] at k
 simp [execOp,h.ev o,h.ev m,Instr.sliceAt,run_underlying f.u,k,sliced,add_lit]
theorem E3 (b:GM P t e sz) (p:ev E x=some v) (o:ev E y=some (.int k1 (i:Int))) (h:YJ v c) (B:i≤c):Ex P n E (.slice t x (some y) none none) ty w (cut v sz i c):=fun a g _ _ _ _=>by
 obtain ⟨l,cap,rfl,r,q,A⟩:=h
 have f:P.underlying t=some (.slice (P.elem t)):=by rw [Program.elem,b.u]
 have m:P.elem t=e:=by rw [Program.elem,b.u]
 have k:=run_slice_l (P:=P) w t l c cap f k1 (i:Int) (by omega) (by omega)
 simp only [Int.toNat_natCast,m,b.s w,Result.andThen_ok] at k
 simp [execOp,g.ev p,g.ev o,Instr.sliceAt,run_underlying b.u,k,sliced,cut]
theorem Fe (b:GM P t e sz) (g:ev E x=some v) (a:ev E y=some (.int k1 (i:Int))) (h:Sl w sz v c xs) (f:i≤c):Ex P n E (.slice t x (some y) none none) ty w (cut v sz i c):=E3 b g a h.shp f
end
end
section
variable {P : Program} {Q : CH} {n : Nat} {E : CS} {l0 rest : List Oper} {ty : TypeId} {pos : String} {af : Array Edge} {x : Operand} {v : Value} {d : Nat} {C : World → Prop} {K : Act → Prop}
theorem Bg (h:(ev E x,Nat.blt d n)=(some v,true)) (k:Qw P l0 C K n rest ((d,v)::E)):Qw P l0 C K n (⟨some d, .move x,ty,pos,af,none⟩::rest) E:=Ad (fun _ _=>B6 (congrArg Prod.fst h)) (congrArg Prod.snd h) k
theorem Dk (h:(ev E x,Nat.blt d n)=(some v,true)) (k:Qw P l0 C K n rest ((d,v)::E)):Qw P l0 C K n (⟨some d, .assign x,ty,pos,af,none⟩::rest) E:=Ad (fun _ _=>Cf (congrArg Prod.fst h)) (congrArg Prod.snd h) k
end
end Go.Dd

namespace Go.Proofs.YtmipoeanpnnjoaaGreatDoor
open Go Go.Dd List Go.Proofs.Tryz
set_option maxRecDepth 100000
theorem AS:Tryz.prog.follows .mixedOrders=true:=by kernel_rfl
theorem W7:Tryz.prog.underlying 2=some (.int .i64):=underlying2
theorem XV:(Tryz.prog.underlying 2).isSome=true:=by rw [W7];rfl
theorem YF (w:World):(isAgg 2).run prog w= .ok false w:=isAgg2 w
theorem Yc (w:World):(sizeOf 2).run prog w= .ok 1 w:=sizeOf2 w
theorem Y4:HP prog 2 [.int .i64 0] 8:=⟨⟨_,(show Tryz.prog.info? 2=some Tryz.t2 by kernel_rfl),rfl,rfl,_,rfl,rfl⟩⟩
theorem NW:Tryz.prog.underlying 3=some (.int .i64):=underlying3
theorem UF:(Tryz.prog.underlying 3).isSome=true:=by rw [NW];rfl
theorem AK (w:World):(isAgg 3).run prog w= .ok false w:=isAgg3 w
theorem BA (w:World):(sizeOf 3).run prog w= .ok 1 w:=sizeOf3 w
theorem DI:HP prog 3 [.int .i64 0] 8:=⟨⟨_,(show Tryz.prog.info? 3=some Tryz.t3 by kernel_rfl),rfl,rfl,_,rfl,rfl⟩⟩
theorem YR:Tryz.prog.underlying 4=some (.bool):=underlying4
theorem XX:Tryz.prog.underlying 5=some (.int .u8):=underlying5
theorem YE (w:World):(isAgg 5).run prog w= .ok false w:=isAgg5 w
theorem YS (w:World):(sizeOf 5).run prog w= .ok 1 w:=sizeOf5 w
theorem Y3:HP prog 5 [.int .u8 0] 1:=⟨⟨_,(show Tryz.prog.info? 5=some Tryz.t5 by kernel_rfl),rfl,rfl,_,rfl,rfl⟩⟩
theorem M1:Tryz.prog.underlying 21=some (.int .i32):=underlying21
theorem Wf:(Tryz.prog.underlying 21).isSome=true:=by rw [M1];rfl
theorem CF (w:World):(isAgg 21).run prog w= .ok false w:=isAgg21 w
theorem ER (w:World):(sizeOf 21).run prog w= .ok 1 w:=sizeOf21 w
theorem DY:HP prog 21 [.int .i32 0] 4:=⟨⟨_,(show Tryz.prog.info? 21=some Tryz.t21 by kernel_rfl),rfl,rfl,_,rfl,rfl⟩⟩
theorem FX:Tryz.prog.underlying 22=some (.int .u8):=underlying22
theorem XU:(Tryz.prog.underlying 22).isSome=true:=by rw [FX];rfl
theorem DG (w:World):(isAgg 22).run prog w= .ok false w:=isAgg22 w
theorem DF (w:World):(sizeOf 22).run prog w= .ok 1 w:=sizeOf22 w
theorem AC:GM prog 23 3 1:=⟨underlying23,sizeOf3⟩
theorem Q2:Tryz.prog.underlying 23=some (.slice 3):=underlying23
theorem AF (w:World):(isAgg 23).run prog w= .ok false w:=isAgg23 w
theorem AN (w:World):(sizeOf 23).run prog w= .ok 1 w:=sizeOf23 w
theorem HT:HP prog 23 [.slice none 0 0] 24:=⟨⟨_,(show Tryz.prog.info? 23=some Tryz.t23 by kernel_rfl),rfl,rfl,_,rfl,rfl⟩⟩
theorem EM (w:World):(isAgg 25).run prog w= .ok true w:=isAgg25 w
theorem EJ (w:World):(sizeOf 25).run prog w= .ok 5 w:=sizeOf25 w
theorem GD:HP prog 25 [.int .u8 0, .slice none 0 0, .slice none 0 0, .int .i64 0, .int .i64 0] 72:=⟨⟨_,(show Tryz.prog.info? 25=some Tryz.t25 by kernel_rfl),rfl,rfl,_,rfl,rfl⟩⟩
theorem AR:GM prog 26 33 2:=⟨underlying26,sizeOf33⟩
theorem XY:Tryz.prog.underlying 26=some (.slice 33):=underlying26
theorem EY (w:World):(isAgg 26).run prog w= .ok false w:=isAgg26 w
theorem GA (w:World):(sizeOf 26).run prog w= .ok 1 w:=sizeOf26 w
theorem AU:GM prog 31 21 1:=⟨underlying31,sizeOf21⟩
theorem Wh:Tryz.prog.underlying 31=some (.slice 21):=underlying31
theorem BG (w:World):(isAgg 31).run prog w= .ok false w:=isAgg31 w
theorem BC (w:World):(sizeOf 31).run prog w= .ok 1 w:=sizeOf31 w
theorem Wq:HP prog 31 [.slice none 0 0] 24:=⟨⟨_,(show Tryz.prog.info? 31=some Tryz.t31 by kernel_rfl),rfl,rfl,_,rfl,rfl⟩⟩
theorem AT (w:World):(isAgg 33).run prog w= .ok true w:=isAgg33 w
theorem AP (w:World):(sizeOf 33).run prog w= .ok 2 w:=sizeOf33 w
theorem AY:HP prog 33 [.slice none 0 0, .slice none 0 0] 48:=⟨⟨_,(show Tryz.prog.info? 33=some Tryz.t33 by kernel_rfl),rfl,rfl,_,rfl,rfl⟩⟩
theorem U2 (w:World):(isAgg 36).run prog w= .ok false w:=isAgg36 w
theorem S7 (w:World):(sizeOf 36).run prog w= .ok 1 w:=sizeOf36 w
theorem Ls:GM prog 40 132 3:=⟨underlying40,sizeOf132⟩
theorem Mh (w:World):(isAgg 40).run prog w= .ok false w:=isAgg40 w
theorem Lq (w:World):(sizeOf 40).run prog w= .ok 1 w:=sizeOf40 w
theorem J5:GM prog 41 135 3:=⟨underlying41,sizeOf135⟩
theorem KH (w:World):(isAgg 41).run prog w= .ok false w:=isAgg41 w
theorem IR (w:World):(sizeOf 41).run prog w= .ok 1 w:=sizeOf41 w
theorem J3:GM prog 42 138 3:=⟨underlying42,sizeOf138⟩
theorem KG (w:World):(isAgg 42).run prog w= .ok false w:=isAgg42 w
theorem IQ (w:World):(sizeOf 42).run prog w= .ok 1 w:=sizeOf42 w
theorem SL:GM prog 43 142 3:=⟨underlying43,sizeOf142⟩
theorem U1 (w:World):(isAgg 43).run prog w= .ok false w:=isAgg43 w
theorem S6 (w:World):(sizeOf 43).run prog w= .ok 1 w:=sizeOf43 w
theorem SK:GM prog 44 147 3:=⟨underlying44,sizeOf147⟩
theorem U0 (w:World):(isAgg 44).run prog w= .ok false w:=isAgg44 w
theorem S5 (w:World):(sizeOf 44).run prog w= .ok 1 w:=sizeOf44 w
theorem J2:GM prog 45 129 3:=⟨underlying45,sizeOf129⟩
theorem KF (w:World):(isAgg 45).run prog w= .ok false w:=isAgg45 w
theorem IP (w:World):(sizeOf 45).run prog w= .ok 1 w:=sizeOf45 w
theorem J1:GM prog 46 151 3:=⟨underlying46,sizeOf151⟩
theorem KE (w:World):(isAgg 46).run prog w= .ok false w:=isAgg46 w
theorem IN (w:World):(sizeOf 46).run prog w= .ok 1 w:=sizeOf46 w
theorem SJ:GM prog 47 155 3:=⟨underlying47,sizeOf155⟩
theorem Uz (w:World):(isAgg 47).run prog w= .ok false w:=isAgg47 w
theorem S4 (w:World):(sizeOf 47).run prog w= .ok 1 w:=sizeOf47 w
theorem SI:GM prog 48 162 3:=⟨underlying48,sizeOf162⟩
theorem Uy (w:World):(isAgg 48).run prog w= .ok false w:=isAgg48 w
theorem S3 (w:World):(sizeOf 48).run prog w= .ok 1 w:=sizeOf48 w
theorem SH:GM prog 49 168 3:=⟨underlying49,sizeOf168⟩
theorem Ux (w:World):(isAgg 49).run prog w= .ok false w:=isAgg49 w
theorem S2 (w:World):(sizeOf 49).run prog w= .ok 1 w:=sizeOf49 w
theorem SG:GM prog 50 174 3:=⟨underlying50,sizeOf174⟩
theorem Uw (w:World):(isAgg 50).run prog w= .ok false w:=isAgg50 w
theorem S1 (w:World):(sizeOf 50).run prog w= .ok 1 w:=sizeOf50 w
theorem SF:GM prog 51 180 3:=⟨underlying51,sizeOf180⟩
theorem Uv (w:World):(isAgg 51).run prog w= .ok false w:=isAgg51 w
theorem Sz (w:World):(sizeOf 51).run prog w= .ok 1 w:=sizeOf51 w
theorem SE:GM prog 52 186 3:=⟨underlying52,sizeOf186⟩
theorem Uu (w:World):(isAgg 52).run prog w= .ok false w:=isAgg52 w
theorem Sy (w:World):(sizeOf 52).run prog w= .ok 1 w:=sizeOf52 w
theorem SD:GM prog 53 191 3:=⟨underlying53,sizeOf191⟩
theorem Ut (w:World):(isAgg 53).run prog w= .ok false w:=isAgg53 w
theorem Sx (w:World):(sizeOf 53).run prog w= .ok 1 w:=sizeOf53 w
theorem SC:GM prog 54 195 3:=⟨underlying54,sizeOf195⟩
theorem Us (w:World):(isAgg 54).run prog w= .ok false w:=isAgg54 w
theorem Sw (w:World):(sizeOf 54).run prog w= .ok 1 w:=sizeOf54 w
theorem Y2:HP prog 56 [.int .i64 0, .slice none 0 0, .slice none 0 0, .slice none 0 0, .slice none 0 0, .slice none 0 0, .slice none 0 0, .slice none 0 0, .slice none 0 0, .slice none 0 0, .slice none 0 0, .slice none 0 0, .slice none 0 0, .slice none 0 0, .slice none 0 0, .slice none 0 0] 368:=⟨⟨_,(show Tryz.prog.info? 56=some Tryz.t56 by kernel_rfl),rfl,rfl,_,rfl,rfl⟩⟩
theorem BQ:GM prog 62 25 5:=⟨underlying62,sizeOf25⟩
theorem XW:Tryz.prog.underlying 62=some (.slice 25):=underlying62
theorem CZ (w:World):(isAgg 62).run prog w= .ok false w:=isAgg62 w
theorem CQ (w:World):(sizeOf 62).run prog w= .ok 1 w:=sizeOf62 w
theorem FC (w:World):(isAgg 64).run prog w= .ok true w:=isAgg64 w
theorem DR (w:World):(sizeOf 64).run prog w= .ok 1 w:=sizeOf64 w
theorem Wp:HP prog 64 [.slice none 0 0] 24:=⟨⟨_,(show Tryz.prog.info? 64=some Tryz.t64 by kernel_rfl),rfl,rfl,_,rfl,rfl⟩⟩
theorem YD (w:World):(isAgg 66).run prog w= .ok true w:=isAgg66 w
theorem Yb (w:World):(sizeOf 66).run prog w= .ok 4 w:=sizeOf66 w
theorem Wy (w:World):(isAgg 79).run prog w= .ok true w:=isAgg79 w
theorem QB (w:World):(sizeOf 79).run prog w= .ok 5 w:=sizeOf79 w
theorem QV:HP prog 79 [.int .i64 0, .int .i64 0, .int .i64 0, .int .i64 0, .nilFunc] 40:=⟨⟨_,(show Tryz.prog.info? 79=some Tryz.t79 by kernel_rfl),rfl,rfl,_,rfl,rfl⟩⟩
theorem Wg:Tryz.prog.underlying 80=some (.array 14 79):=underlying80
theorem YC (w:World):(isAgg 83).run prog w= .ok false w:=isAgg83 w
theorem XG (w:World):(isAgg 107).run prog w= .ok false w:=isAgg107 w
theorem BB:GM prog 125 23 1:=⟨underlying125,sizeOf23⟩
theorem Qt (w:World):(isAgg 125).run prog w= .ok false w:=isAgg125 w
theorem Lr (w:World):(sizeOf 125).run prog w= .ok 1 w:=sizeOf125 w
theorem Qs (w:World):(isAgg 129).run prog w= .ok true w:=isAgg129 w
theorem Po (w:World):(sizeOf 129).run prog w= .ok 3 w:=sizeOf129 w
theorem LO:HP prog 129 [.slice none 0 0, .slice none 0 0, .int .i64 0] 56:=⟨⟨_,(show Tryz.prog.info? 129=some Tryz.t129 by kernel_rfl),rfl,rfl,_,rfl,rfl⟩⟩
theorem Hq:GM prog 130 5 1:=⟨underlying130,sizeOf5⟩
theorem HN (w:World):(isAgg 130).run prog w= .ok false w:=isAgg130 w
theorem GU (w:World):(sizeOf 130).run prog w= .ok 1 w:=sizeOf130 w
theorem Qr (w:World):(isAgg 132).run prog w= .ok true w:=isAgg132 w
theorem Pn (w:World):(sizeOf 132).run prog w= .ok 3 w:=sizeOf132 w
theorem PJ:HP prog 132 [.slice none 0 0, .slice none 0 0, .int .i64 0] 56:=⟨⟨_,(show Tryz.prog.info? 132=some Tryz.t132 by kernel_rfl),rfl,rfl,_,rfl,rfl⟩⟩
theorem Qq (w:World):(isAgg 135).run prog w= .ok true w:=isAgg135 w
theorem Pm (w:World):(sizeOf 135).run prog w= .ok 3 w:=sizeOf135 w
theorem LN:HP prog 135 [.slice none 0 0, .slice none 0 0, .int .i64 0] 56:=⟨⟨_,(show Tryz.prog.info? 135=some Tryz.t135 by kernel_rfl),rfl,rfl,_,rfl,rfl⟩⟩
theorem Qp (w:World):(isAgg 138).run prog w= .ok true w:=isAgg138 w
theorem Pl (w:World):(sizeOf 138).run prog w= .ok 3 w:=sizeOf138 w
theorem LM:HP prog 138 [.slice none 0 0, .slice none 0 0, .int .i64 0] 56:=⟨⟨_,(show Tryz.prog.info? 138=some Tryz.t138 by kernel_rfl),rfl,rfl,_,rfl,rfl⟩⟩
theorem Qo (w:World):(isAgg 151).run prog w= .ok true w:=isAgg151 w
theorem Pk (w:World):(sizeOf 151).run prog w= .ok 3 w:=sizeOf151 w
theorem LL:HP prog 151 [.slice none 0 0, .slice none 0 0, .int .i64 0] 56:=⟨⟨_,(show Tryz.prog.info? 151=some Tryz.t151 by kernel_rfl),rfl,rfl,_,rfl,rfl⟩⟩
theorem XF (w:World):(isAgg 214).run prog w= .ok false w:=isAgg214 w
theorem WI (w:World):(sizeOf 214).run prog w= .ok 1 w:=sizeOf214 w
theorem Pq:GM prog 221 2 1:=⟨underlying221,sizeOf2⟩
theorem XE (w:World):(isAgg 223).run prog w= .ok false w:=isAgg223 w
theorem WH (w:World):(sizeOf 223).run prog w= .ok 1 w:=sizeOf223 w
theorem Qn (w:World):(isAgg 226).run prog w= .ok false w:=isAgg226 w
theorem S9 (w:World):(sizeOf 226).run prog w= .ok 1 w:=sizeOf226 w
theorem T6:HP prog 226 [.nilFunc] 8:=⟨⟨_,(show Tryz.prog.info? 226=some Tryz.t226 by kernel_rfl),rfl,rfl,_,rfl,rfl⟩⟩
theorem Xq:HP prog 228 [.slice none 0 0, .int .i64 0, .int .i64 0] 40:=⟨⟨_,(show Tryz.prog.info? 228=some Tryz.t228 by kernel_rfl),rfl,rfl,_,rfl,rfl⟩⟩
theorem PI:HP prog 233 [.int .i64 0, .int .i64 0, .int .i64 0] 24:=⟨⟨_,(show Tryz.prog.info? 233=some Tryz.t233 by kernel_rfl),rfl,rfl,_,rfl,rfl⟩⟩
theorem Ng:GM prog 235 3 1:=⟨underlying235,sizeOf3⟩
theorem U3 (w:World):(isAgg 235).run prog w= .ok false w:=isAgg235 w
theorem S8 (w:World):(sizeOf 235).run prog w= .ok 1 w:=sizeOf235 w
theorem Kz (w:World):(isAgg 239).run prog w= .ok true w:=isAgg239 w
theorem Kb (w:World):(sizeOf 239).run prog w= .ok 2 w:=sizeOf239 w
theorem Xp:HP prog 239 [.slice none 0 0, .int .i64 0] 32:=⟨⟨_,(show Tryz.prog.info? 239=some Tryz.t239 by kernel_rfl),rfl,rfl,_,rfl,rfl⟩⟩
theorem XD (w:World):(isAgg 250).run prog w= .ok true w:=isAgg250 w
theorem WG (w:World):(sizeOf 250).run prog w= .ok 1 w:=sizeOf250 w
theorem Xo:HP prog 250 [.slice none 0 0] 24:=⟨⟨_,(show Tryz.prog.info? 250=some Tryz.t250 by kernel_rfl),rfl,rfl,_,rfl,rfl⟩⟩
theorem Gt (w:World):(isAgg 252).run prog w= .ok true w:=isAgg252 w
theorem Gk (w:World):(sizeOf 252).run prog w= .ok 6 w:=sizeOf252 w
theorem Iw:HP prog 252 [.int .i64 0, .int .i64 0, .int .i64 0, .int .i64 0, .int .i64 0, .int .i64 0] 48:=⟨⟨_,(show Tryz.prog.info? 252=some Tryz.t252 by kernel_rfl),rfl,rfl,_,rfl,rfl⟩⟩
end Go.Proofs.YtmipoeanpnnjoaaGreatDoor

namespace Go.Dd
open Go Go.RowKit List
section
variable {H : Type} {enc : TypeId × Value → H} {P : Program} {w : World}
def In (enc:TypeId×Value→H) (P:Program) (w:World) (t:TypeId) (cs:List Value):Prop:=
 ∃fuel d ps,DataW.trod enc P w 0 (fun _=>true) true fuel t cs=some (d,ps)∧∀x ∈ d.weights P t,x≤reachBytes
theorem In.int {t:TypeId} {k:IntKind} {cs:List Value} (b:P.underlying t=some (.int k)) (h:In enc P w t cs):∃m,cs=[.int k m]∧(Lit.int k m).wf=true:=by
 obtain ⟨a,d,ps,h,_⟩:=h
 cases a with
 |zero=>simp [DataW.trod] at h
 |succ a=>
  unfold DataW.trod at h
  rw [b] at h
  split at h<;>simp_all
theorem JH {α β:Type} {f:α→Option β}:∀{l:List α} {r:List β},l.mapM f=some r→∀(i:Nat) (a:α),l[i]? =some a→∃b,f a=some b∧r[i]? =some b
 |[],r,h,i,a,hi=>by simp at hi
 |x::l,r,h,i,a,hi=>by
  simp only [mapM_cons,Option.bind_eq_bind,Option.pure_def] at h
  cases hx:f x with
  |none=>simp [hx] at h
  |some b=>
   cases hl:l.mapM f with
   |none=>simp [hx,hl] at h
   |some r' =>
    simp only [hx,hl,Option.bind_some,Option.some.injEq] at h
    subst h
    cases i with
    |zero=>simp at hi;subst hi;exact ⟨b,hx,by simp⟩
    |succ i=>simpa using JH hl i a (by simpa using hi)
theorem JG {α β:Type} {f:α→Option β}:∀{l:List α} {r:List β},l.mapM f=some r→r.length=l.length
 |[],r,h=>by simp at h;simp [← h]
 |x::l,r,h=>by
  simp only [mapM_cons,Option.bind_eq_bind,Option.pure_def] at h
  cases hx:f x with
  |none=>simp [hx] at h
  |some b=>
   cases hl:l.mapM f with
   |none=>simp [hx,hl] at h
   |some r' =>
    simp only [hx,hl,Option.bind_some,Option.some.injEq] at h
    subst h
    simpa using JG hl
theorem MT {base n:Nat} {a:Addr} {cs:List Value} (h:w.cells? base a n=some cs):cs.length=n∧∀j u,cs[j]? =some u→w.cell? (a.add j)=some u:=by
 unfold World.cells? at h
 split at h
 ·refine ⟨by simpa using JG h,fun j u c=> ?_⟩
  have e:j<n:=by
   have:=JG h
   have d:j<cs.length:=by
    rcases Nat.lt_or_ge j cs.length with h|h
    ·exact h
    ·simp [getElem?_eq_none h] at c
   simp at this;omega
  obtain ⟨b,g,f⟩:=JH h j j (by simp [e])
  rw [f] at c
  simp only [Option.some.injEq] at c
  rw [g,c]
 ·cases h
theorem Ig {e:TypeId}:∀{ds:List (DataW H)} {i:Nat} {d:DataW H},ds[i]? =some d→∀x ∈ d.weights P e,x ∈ DataW.weightsAll P e ds
 |d0::ds,0,d,hd,x,hx=>by
  simp only [getElem?_cons_zero,Option.some.injEq] at hd
  subst hd
  simp only [DataW.weightsAll,mem_append];exact .inl hx
 |d0::ds,i+1,d,hd,x,hx=>by
  simp only [getElem?_cons_succ] at hd
  simp only [DataW.weightsAll,mem_append];exact .inr (Ig hd x hx)
 |[],_,_,hd,_,_=>by simp at hd
theorem Ma {sz:Nat}:∀{a:List (List Value)} (_:∀c ∈ a,c.length=sz) (i:Nat) (c:List Value),a[i]? =some c→(a.flatten.drop (i*sz)).take sz=c
 |c0::a,hl,0,c,b=>by
  simp only [getElem?_cons_zero,Option.some.injEq] at b
  subst b
  have:=hl c0 (by simp)
  simp [flatten_cons,← this]
 |c0::a,hl,i+1,c,b=>by
  simp only [getElem?_cons_succ] at b
  have e:=hl c0 (by simp)
  have d:=Ma (fun c b=>hl c (by simp [b])) i c b
  rw [flatten_cons,show (i+1)*sz=c0.length+i*sz by rw [e,Nat.succ_mul];omega,← drop_drop,drop_left]
  exact d
 |[],_,_,_,b=>by simp at b
theorem KB {sz:Nat}:∀{a:List (List Value)} (_:∀c ∈ a,c.length=sz) (j:Nat) (u:Value),a.flatten[j]? =some u→∃i c,a[i]? =some c∧c[j - i*sz]? =some u∧i*sz≤j
 |[],_,j,u,h=>by simp at h
 |c0::a,hl,j,u,h=>by
  have f:=hl c0 (by simp)
  rw [flatten_cons,getElem?_append] at h
  split at h
  ·exact ⟨0,c0,by simp,by simpa using h,by simp⟩
  ·obtain ⟨i,c,d,b,g⟩:=KB (fun c e=>hl c (by simp [e])) (j - c0.length) u h
   refine ⟨i+1,c,by simpa using d, ?_,by rw [Nat.succ_mul];omega⟩
   rw [← b];congr 1;rw [Nat.succ_mul];omega
theorem In.slice {t e:TypeId} {sz:Nat} {cs:List Value} (I:P.underlying t=some (.slice e)) (E:P.cellsOf e=sz) (h:In enc P w t cs):
  ∃v n xs,cs=[v]∧Sl w sz v n xs∧n*P.bytesOf e≤reachBytes∧∀i,i<n→In enc P w e ((xs.drop (i*sz)).take sz):=by
 obtain ⟨g,d,ps,h,Q⟩:=h
 cases g with
 |zero=>simp [DataW.trod] at h
 |succ g=>
  unfold DataW.trod at h
  rw [I] at h
  split at h<;>try (simp_all;done)
  ·exact ⟨_,0,[],rfl,C0 w sz,by simp,fun i o=>by omega⟩
  ·rename_i W a len cap s
   simp only [Option.some.injEq,TypeDesc.slice.injEq] at s
   subst s
   simp only at h
   split at h
   ·rename_i k
    obtain ⟨_,L,C⟩:=k
    cases hel:(range len).mapM (fun i=>(w.cells? 0 (a.add (i*P.cellsOf e)) (P.cellsOf e)).bind (DataW.trod enc P w 0 (fun _=>true) true g e)) with
    |none=>simp [hel] at h
    |some elems=>
     rw [hel] at h
     simp only [Option.bind_some,Option.map_eq_some_iff] at h
     obtain ⟨A,M,h⟩:=h
     simp only [Prod.mk.injEq] at h
     obtain ⟨h,_⟩:=h
     subst h
     rw [E] at hel
     have z:elems.length=len:=by simpa using JG hel
     have BF:∀i,i<len→∃c,w.cells? 0 (a.add (i*sz)) sz=some c∧∃b,DataW.trod enc P w 0 (fun _=>true) true g e c=some b∧elems[i]? =some b:=by
      intro i o
      obtain ⟨b,r,G⟩:=JH hel i i (by simp [o])
      cases hcc:w.cells? 0 (a.add (i*sz)) sz with
      |none=>simp [hcc] at r
      |some c=>rw [hcc] at r;exact ⟨c,rfl,b,r,G⟩
     have J:∃f:List (List Value),f.length=len∧∀i c,f[i]? =some c→w.cells? 0 (a.add (i*sz)) sz=some c:=by
      refine ⟨(range len).map (fun i=>(w.cells? 0 (a.add (i*sz)) sz).getD []),by simp,fun i c k=> ?_⟩
      have o:i<len:=by
       rcases Nat.lt_or_ge i len with h|h
       ·exact h
       ·rw [getElem?_eq_none (by simpa using h)] at k;cases k
      obtain ⟨U,y,_⟩:=BF i o
      simp [o,y] at k
      rw [y,k]
     obtain ⟨f,N,p⟩:=J
     have m:∀c ∈ f,c.length=sz:=fun c k=>by
      obtain ⟨i,o⟩:=List.mem_iff_getElem?.1 k
      exact (MT (p i c o)).1
     have F:∀(l:List (List Value)),(∀c ∈ l,c.length=sz)→l.flatten.length=l.length*sz:=by
      intro l
      induction l with
      |nil=>intro _;simp
      |cons c l ih=>intro h;rw [flatten_cons,length_append,ih (fun c k=>h c (by simp [k])),h c (by simp),length_cons,Nat.succ_mul];omega
     refine ⟨_,len,f.flatten,rfl,⟨by rw [F f m,N],some a,cap,rfl,L,C,(fun h=>by cases h),fun V T j u D=> ?_⟩, ?_,fun i o=> ?_⟩
     ·cases T
      obtain ⟨i,c,B,R,X⟩:=KB m j u D
      have:=(MT (p i c B)).2 _ _ R
      rw [JV] at this
      rwa [show i*sz+(j - i*sz)=j by omega] at this
     ·have:=Q ((elems.length+A.length)*P.bytesOf e) (by simp [DataW.weights,I])
      rw [z] at this
      exact Nat.le_trans (Nat.mul_le_mul_right _ (Nat.le_add_right _ _)) this
     ·obtain ⟨c,k,b,r,G⟩:=BF i o
      have K:f[i]? =some c:=by
       have q:i<f.length:=by omega
       have B:=p i f[i] (getElem?_eq_getElem q)
       rw [k] at B
       rw [getElem?_eq_getElem q]
       exact B.symm
      rw [Ma m i c K]
      refine ⟨g,b.1,b.2,by simpa using r,fun x S=>Q x ?_⟩
      simp only [DataW.weights,I,mem_cons,mem_append]
      right;left
      exact Ig (i:=i) (d:=b.1) (by simp [G]) x S
   ·cases h
theorem In.struct {t:TypeId} {l:Array Field} {cs:List Value} (k:P.underlying t=some (.struct l)) (h:In enc P w t cs):
  cs.length=P.cellsOf t∧∀(i:Nat) (f:Field),l[i]? =some f→In enc P w f.type ((cs.drop f.offset).take (P.cellsOf f.type)):=by
 obtain ⟨a,d,ps,h,m⟩:=h
 cases a with
 |zero=>simp [DataW.trod] at h
 |succ a=>
  unfold DataW.trod at h
  rw [k] at h
  split at h<;>try (simp_all;done)
  rename_i r o c
  simp only [Option.some.injEq,TypeDesc.struct.injEq] at c
  subst c
  split at h
  ·rename_i n
   simp only [Option.map_eq_some_iff] at h
   obtain ⟨xs,e,h⟩:=h
   simp only [Prod.mk.injEq] at h
   obtain ⟨h,_⟩:=h
   subst h
   refine ⟨n,fun i f g=> ?_⟩
   obtain ⟨b,q,p⟩:=JH e i f (by simpa using g)
   refine ⟨a,b.1,b.2,by simpa using q,fun x s=>m x ?_⟩
   simp only [DataW.weights,k]
   exact DataW.weights_mem_each (j:=i) (t:=f.type) (d:=b.1) (by simp [g]) (by simp [p]) x s
  ·cases h
theorem XT {m:Int} (h:(Lit.int .u8 m).wf=true):Value.int .u8 m=b8 (BitVec.ofInt 8 m):=by
 simp [Lit.wf,IntKind.min,IntKind.max,IntKind.signed,IntKind.bits] at h
 have:((BitVec.ofInt 8 m).toNat:Int)=m:=by rw [BitVec.toNat_ofInt];omega
 unfold b8;rw [this]
theorem W6 {m:Int} (h:(Lit.int .i32 m).wf=true):Value.int .i32 m=i32 (BitVec.ofInt 32 m):=by
 simp [Lit.wf,IntKind.min,IntKind.max,IntKind.signed,IntKind.bits] at h
 have:(BitVec.ofInt 32 m).toInt=m:=by rw [BitVec.toInt_ofInt,Int.bmod_def];omega
 unfold i32;rw [this]
theorem Sg {m:Int} (h:(Lit.int .i64 m).wf=true): -9223372036854775808≤m∧m≤9223372036854775807:=by
 simp [Lit.wf,IntKind.min,IntKind.max,IntKind.signed,IntKind.bits] at h
 omega
theorem In.num {α:Type} {e:TypeId} {k:IntKind} (f:Int→α) (g:α→Value) (c:∀m,(Lit.int k m).wf=true→Value.int k m=g (f m)) (d:P.underlying e=some (.int k)) {cs:List Value} (h:In enc P w e cs):∃a,cs=[g a]:=by
 obtain ⟨m,rfl,b⟩:=h.int d
 exact ⟨f m,by rw [c m b]⟩
theorem In.slT {α:Type} {t e:TypeId} {g:α→Value} {cs:List Value} (q:P.underlying t=some (.slice e)) (o:P.cellsOf e=1) (p:∀cs,In enc P w e cs→∃a,cs=[g a]) (h:In enc P w t cs):
  ∃v l,cs=[v]∧BS g w v l∧l.length*P.bytesOf e≤reachBytes:=by
 obtain ⟨v,n,xs,rfl,hs,r,j⟩:=h.slice q o
 have hall:∀i,i<n→∃a,xs[i]? =some (g a):=by
  intro i m
  obtain ⟨a,d⟩:=p _ (j i m)
  refine ⟨a, ?_⟩
  have:=cngA (fun l=>l[0]?) d
  simpa [getElem?_take,getElem?_drop] using this
 have b:xs.length=n:=by have:=hs.len;omega
 have k:∀(c:List Value),(∀i,i<c.length→∃a,c[i]? =some (g a))→∃l:List α,c=l.map g:=by
  intro c
  induction c with
  |nil=>intro _;exact ⟨[],rfl⟩
  |cons y c ih=>
   intro h
   obtain ⟨a,d⟩:=h 0 (by simp)
   obtain ⟨l,rfl⟩:=ih (fun i m=>by simpa using h (i+1) (by simpa using m))
   simp only [getElem?_cons_zero,Option.some.injEq] at d
   exact ⟨a::l,by simp [d]⟩
 obtain ⟨l,rfl⟩:=k xs (by rw [b];exact hall)
 have f:l.length=n:=by simpa using b
 subst f
 exact ⟨v,l,rfl,hs,r⟩
theorem Y5 {ts:List TypeId} {ds:List (DataW H)} {j:Nat} {t:TypeId} {v:Value} {d:DataW H} {ps:List MemPlace} (f:(DataW.weightsEach P ts ds).all (·≤reachBytes)=true) (c:ts[j]? =some t) (b:ds[j]? =some d)
  (h:DataW.Trod enc P w 0 (fun _=>true) true t v d ps):In enc P w t v.cells.toList:=by
 obtain ⟨a,h⟩:=h
 exact ⟨a,d,ps,h,fun x e=>by simpa using List.all_eq_true.1 f x (DataW.weights_mem_each c b x e)⟩
open Go.WideShapes in
theorem Qm {base:Nat} {t:TypeId} {c:Array Field} {v:Value} (b:P.underlying t=some (.struct c)) (a:Value.okWide P w .any base t v) (h:In enc P w t v.cells.toList):∃cs:List Value,v= .agg cs.toArray∧In enc P w t cs:=by
 obtain ⟨cs,rfl,_⟩:=okWide_struct b a
 exact ⟨cs.toList,by simp,by simpa [Value.cells] using h⟩
theorem R1 {f:FuncId} {args:Array Value} (h:AM P f args.toList w (fun r a=>r= .bool true∧Below w.heap.size w a)):
  Calls P f args w fun e a=>e= .returned (.bool true)∧Below w.heap.size w a:=by
 have:=h.2
 rw [Array.toArray_toList] at this
 exact this.mono fun e a ⟨v,c,b,d⟩=>⟨by rw [c,b],d⟩
end
end Go.Dd

namespace Go.Dd
open Go Go.RowKit
open List hiding get
section
variable {P : Program} {n : Nat} {E : CS} {w : World} {ty t e : TypeId} {x y z : Operand} {v u : Value} {sz : Nat}
def pev (E:CS):List (Nat×Operand)→Option (List (Nat×Value))
 |[]=>some []
 |(i,x)::l=>match ev E x,pev E l with
  |some v,some vs=>some ((i,v)::vs)
  |_,_=>none
theorem CK.pev {a:Act} (h:CK n E a):∀{l:List (Nat×Operand)} {vs:List (Nat×Value)},pev E l=some vs→l.map (fun p=>(p.1,a.eval p.2))=vs
 |[],vs,hp=>by simp only [Dd.pev,Option.some.injEq] at hp;subst hp;rfl
 |(i,x)::l,vs,hp=>by
  simp only [Dd.pev] at hp
  split at hp
  ·rename_i v f b c
   simp only [Option.some.injEq] at hp
   subst hp
   rw [map_cons,h.pev c,h.ev b]
  ·cases hp
theorem C4 {ps:List (Nat×Operand)} {vs:List (Nat×Value)} {cs:List Value} (c:pev E ps=some vs) (h:P.built t vs=some cs.toArray):Ex P n E (.build t ps.toArray) ty w (.agg cs.toArray):=fun a f _ _ _ _=>by
 have b:ps.toArray.map (fun (i,x)=>(i,a.eval x))=vs.toArray:=by rw [map_toArray,← f.pev c]
 have g:=run_build (P:=P) w t vs.toArray cs.toArray (by simpa using h)
 simp only [execOp,b,Sem.run_bind,g,Result.andThen_ok]
 rfl
theorem Em {ps:List (Nat×Operand)} {vs:List (Nat×Value)} {cs l:List Value} {c k:Nat} (p:GM P t e sz) (F:HP P e l c) (B:pev E ps=some vs) (m:0<sz) (I:0<k) (D:k*sz≤16777216)
  (C:Instr.fill (fun i=>some (i*sz,sz)) ((Array.range (k*sz)).map (l.toArray[· % l.toArray.size]!)) vs=some cs.toArray) (b:cs.length=k*sz):
  Xw P n E (.buildSlice t k ps.toArray) ty w (fun v h=>h.ownsRow w.heap.size e sz v k cs∧v= .slice (some ⟨w.heap.size,0,none⟩) k k∧Below w.heap.size w h∧h.heap.size=w.heap.size+1):=fun a G=>by
 obtain ⟨i,r,H,J,zv,q,s⟩:=F.i
 have g:ps.toArray.map (fun (i,x)=>(i,a.eval x))=vs.toArray:=by rw [map_toArray,← G.pev B]
 have f:¬(k*sz>2 ^ 24):=by omega
 have o:k*1≤k*sz:=Nat.mul_le_mul_left k m
 have A:(zeroValue e).run P w= .ok zv w:=by simp [zeroValue,typeInfo,r,q]
 have j:¬(k*sz=0):=by omega
 refine ⟨.slice (some ⟨w.heap.size,0,none⟩) k k,w.alloc (.cells cs.toArray e),fun _ _ _ _=> ?_,⟨b, .inr ⟨w.heap.size,k,cs.toArray,rfl,AX _,heap_alloc_new w _,AX _,by unfold maxLen;omega,by simpa using b, ?_⟩⟩,rfl,GR w _,by simp⟩
 ·simp only [execOp,Instr.buildSlice,Sem.run_bind,run_underlying p.u,Result.andThen_ok,p.s w,Sem.run_ite,if_neg f,Sem.run_pure,g,if_neg j,A,s,C]
  simp [newRow]
 ·rw [take_of_length_le (by simp [b])]
theorem J7 (d:Nat) (a:Option Addr) (c cap:Nat) (b:P.underlying t=some (.slice e)):(Op.equalIn (d+1) t (.slice a c cap) (.slice none 0 0)).run P w= .ok a.isNone w:=by
 cases a<;>simp [Op.equalIn,run_underlying b]
theorem Ex.nilS {f h:TypeId} {b:Option Addr} {c cap:Nat} (k:P.underlying f=some (.slice e)) (o:ev E x=some (.slice b c cap)) (i:ev E y=some (.slice none 0 0)):Ex P n E (.binOp .eql f x y h) ty w (.bool b.isNone):=fun a g _ _ _ _=>by
 have m:eqGuard .eql f x y (.slice b c cap) (.slice none 0 0)=pure ():=rfl
 have l:binOp .eql f (.slice b c cap) (.slice none 0 0)=(do pure (.bool (← Op.equal f (.slice b c cap) (.slice none 0 0)))):=rfl
 have j:=J7 (P:=P) (w:=w) 9999 b c cap k
 simp [execOp,g.ev o,g.ev i,m,l,Op.equal,Op.maxDepth,j]
def clip (v:Value):Value:=match v with
 | .slice ao k _=> .slice ao k k
 |_=>undef
theorem Fz {c:Nat} {xs:List Value} (h:Sl w sz v c xs):Sl w sz (clip v) c xs:=by
 obtain ⟨b,a,cap,rfl,k,j,g,f⟩:=h
 exact ⟨b,a,c,rfl,AX _,by omega,fun i=>by have:=g i;omega,f⟩
theorem Qi (v:Value) (h:∃a k c,v= .slice a k c):(clip v).ownBlock=v.ownBlock:=by
 obtain ⟨a,k,c,rfl⟩:=h
 cases a<;>rfl
theorem Fm {c:Nat} {m:Operand} {j k:IntKind} (f:GM P t e sz) (q:ev E x=some v) (p:ev E y=some (.int j (c:Int))) (r:ev E m=some (.int k (c:Int))) (h:YJ v c):Ex P n E (.slice t x none (some y) (some m)) ty w (clip v):=fun a g _ _ _ _=>by
 obtain ⟨b,cap,rfl,B,A,C⟩:=h
 have i:P.underlying t=some (.slice (P.elem t)):=by rw [Program.elem,f.u]
 have o:P.elem t=e:=by rw [Program.elem,f.u]
 have l:=run_slice_hm (P:=P) w t b c cap i j k (c:Int) (c:Int) (by omega) (by omega) (by omega)
 simp only [Int.toNat_natCast,o,f.s w,Result.andThen_ok] at l
 have s:(if c=0 then b else b.map (·.add (0*sz)))=b:=by
  split
  ·rfl
  ·cases b<;>simp [Addr.add]
 simp [execOp,g.ev q,g.ev p,g.ev r,Instr.sliceAt,run_underlying f.u,l,sliced,Dd.clip]
 cases b<;>simp [Addr.add]
theorem Cq {c k o:Nat} {xs cs:List Value} (f:(isAgg e).run P w= .ok true w) (hs:(sizeOf e).run P w= .ok k w) (F:ev E x=some (CI v o)) (h:Sl w sz v c xs) (r:cs.length=k) (g:0<k) (b:∀i,i<k→∃q,cs[i]? =some q∧xs[o+i]? =some q):Ex P n E (.load e x) ty w (.agg cs.toArray):=fun a H _ _ _ _=>by
  subst r
  obtain ⟨_,s,cap,rfl,J,I,D,A⟩:=h
  cases s with
  |none=>
    have:=D rfl
    obtain ⟨q,_,m⟩:=b 0 g
    have p:=(List.getElem?_eq_some_iff.1 m).1
    have : xs.length = 0 := by subst this; obtain rfl : c = 0 := by omega
                               simp_all
    omega
  |some ad=>
    have C:=run_loadCells_list (P:=P) w (ad.add o) cs (fun j u l=>by
      have G:j<cs.length:=(List.getElem?_eq_some_iff.1 l).1
      obtain ⟨q,B,m⟩:=b j G
      rw [B] at l
      cases l
      rw [JV]
      exact A ad rfl _ _ m)
    simp [execOp,H.ev F,CI,Instr.loadAt,Instr.sureAddr,loadVar,f,hs,C]
theorem C2 {o f q:Nat} {g:Array Field} {b:Field} (m:P.underlying t=some (.struct g)) (h:g[f]? =some b) (i:(sizeOf b.type).run P w= .ok (q+1) w) (p:ev E x=some (CI v o)) (j:∃ad c k,v= .slice (some ad) c k):
  Ex P n E (.fieldAddr t x f) ty w (CI v (o+b.offset)):=fun a l _ _ _ _=>by
 obtain ⟨ad,c,k,rfl⟩:=j
 simp [execOp,l.ev p,CI,Instr.fieldAt,Instr.sureAddr,fieldPlace,run_underlying m,h,i,JV]
theorem Mq {f:Func} {p q:Tmp} {a:TypeId} (h:f.results= #[.cell p a, .tmp q]) (tmps:Array Value) (w:World) (g:Nat) (c:TypeId) (cs:Array Value) (i:Nat×Nat) (d:TypeDesc)
  (k:tmps.getD p undef= .pointer (some ⟨g,0,none⟩)) (m:w.heap[g]? =some (.cells cs c i))
  (l:P.underlying a=some d) (j:(match d with| .struct _| .array _ _=>true|_=>false)=true) (o:(P.info? a).map (·.size)=some cs.size):
  (results f tmps).run P w= .ok (.tuple #[.agg cs,tmps.getD q undef]) w:=by
 have b:tmps[p]?.getD undef= .pointer (some ⟨g,0,none⟩):=by simpa using k
 simp [results,h,b,asAddr,run_loadVar_row w g c a cs i d m l j o]
theorem Bt {f:Func} {R:Value→World→Prop} {p q b k:Nat} {T:TypeId} {cs:List Value} {d:TypeDesc} (m:f.results= #[.cell p e, .tmp q]) (i:get E p=some (.pointer (some ⟨b,0,none⟩))) (l:get E q=some u) (r:AO w b T cs)
  (o:P.underlying e=some d) (g:(match d with| .struct _| .array _ _=>true|_=>false)=true) (s:(P.info? e).map (·.size)=some k) (j:cs.length=k) (h:R (.tuple #[.agg cs.toArray,u]) w):Pw n E (RV P f R .ret) w:=fun a c=>by
 subst j
 have:=Mq m a.tmps w b T cs.toArray (0,0) d (by simp [Array.getD_eq_getD_getElem?,c.has _ _ i]) r o g (by simpa using s)
 rw [show a.tmps.getD q undef=u by simp [Array.getD_eq_getD_getElem?,c.has _ _ l]] at this
 exact bodyPost_ret this c.dfr ⟨_,rfl,h⟩
def Zn (n:Nat) (F:CS) (I:World→Prop):CH:=fun x a w=>x= .normal∧CK n F a∧I w
theorem Cw.mid {c:Code} {F:CS} {I:World→Prop} {K:Act→World→Prop} {Q:CH} (h:Cw P (Zn n F I) n c E w) (k:∀b,I b→Pw n F K b):Cw P (CX K Q) n c E w:=fun a i=>
 Code.wp_mono (fun x j b f=>by
  obtain ⟨rfl,g,l⟩:=f
  exact k b l j g) (h a i)
theorem Pw.mid {F:CS} {I:World→Prop} (hs:Rg E F) (b:I w):Pw n E (Zn n F I .normal) w:=fun _ a=>⟨rfl,a.sub hs,b⟩
end
section
variable {P : Program} {Q : CH} {n : Nat} {E : CS} {w : World} {l0 rest : List Oper} {ty t : TypeId} {pos : String} {af : Array Edge} {d : Nat}
theorem C8 {ps:List (Nat×Operand)} (h:(pev E ps,Nat.blt d n)=(some [],true)) (k:Lw P l0 Q n rest ((d, .agg ([.slice none 0 0, .slice none 0 0]:List Value).toArray)::E) w) (a:P.built t []=some ([.slice none 0 0, .slice none 0 0]:List Value).toArray:=by kernel_rfl):Lw P l0 Q n (⟨some d, .build t ps.toArray,ty,pos,af,none⟩::rest) E w:=Aa (C4 (congrArg Prod.fst h) a) (congrArg Prod.snd h) k
end
end Go.Dd

namespace Go.Dd
open Go Go.RowKit
open List hiding get set
section
variable {P : Program} {Q : CH} {n : Nat} {E : CS} {w : World} {l0 rest : List Oper} {ty ty2 e : TypeId} {pos pos2 : String} {af af2 : Array Edge} {x y : Operand} {v u : Value}
theorem C1 {d k a:Nat} {cs c:List Value} (hi:HP P e c a) (hs:(P.info? e).map (·.size)=some k) (m:cs.length=k) (F:c.length=k) (j:Nat.blt d n=true) (q:∀v,ev ((d,v)::E) y=some (.agg cs.toArray)) (b:cs.all (·.oneCell')=true)
  (h:∀A w',A=w.heap.size→AO w' A e cs→Below w.heap.size w w' →w'.heap.size=w.heap.size+1→Lw P l0 Q n rest ((d, .pointer (some ⟨A,0,none⟩))::E) w'):
  Lw P l0 Q n (⟨some d, .alloc e,ty,pos,af,none⟩::⟨none, .store e (.tmp d) y,ty2,pos2,af2,none⟩::rest) E w:=by
 refine Bk (Xw.new hi) j fun v G ⟨p,r,g,o⟩=> ?_
 subst p
 refine Az (Bv (cs:=cs) hs m (CR _ _ _) (q _) b r F) fun D ⟨t,B,z⟩=> ?_
 exact h _ D rfl t (g.grown B (AA g) (by rintro _ ⟨⟩;exact AX _)) (by omega)
theorem Lw.boxed1 {d a:Nat} {z:Value} (hi:HP P e [z] a) (hs:∀w,(sizeOf e).run P w= .ok 1 w) (g:Nat.blt d n=true) (m:∀v,ev ((d,v)::E) y=some u) (b:u.oneCell' =true)
  (h:∀A w',A=w.heap.size→AO w' A e [u]→Below w.heap.size w w' →w'.heap.size=w.heap.size+1→Lw P l0 Q n rest ((d, .pointer (some ⟨A,0,none⟩))::E) w'):
  Lw P l0 Q n (⟨some d, .alloc e,ty,pos,af,none⟩::⟨none, .store e (.tmp d) y,ty2,pos2,af2,none⟩::rest) E w:=by
 refine Bk (Xw.new hi) g fun v B ⟨k,q,c,j⟩=> ?_
 subst k
 refine Az (Dj (u:=u) (hs _) (CR _ _ _) (m _) b q (by simp)) fun r ⟨o,t,p⟩=> ?_
 exact h _ r rfl o (c.grown t (AA c) (by rintro _ ⟨⟩;exact AX _)) (by omega)
theorem Cx {d a:Nat} {c:List Value} (hi:HP P e c a) (g:Nat.blt d n=true)
  (h:∀A w',A=w.heap.size→AO w' A e c→Below w.heap.size w w' →w'.heap.size=w.heap.size+1→Lw P l0 Q n rest ((d, .pointer (some ⟨A,0,none⟩))::E) w'):
  Lw P l0 Q n (⟨some d, .alloc e,ty,pos,af,none⟩::rest) E w:=by
 refine Bk (Xw.new hi) g fun v j ⟨k,m,o,b⟩=> ?_
 subst k
 exact h _ j rfl m o b
theorem B5 {d:Nat} {cs:List Value} (m:ev E x=some v) (k:v.cells=cs.toArray) (b:Nat.blt d n=true)
  (h:∀A w',A=w.heap.size→AO w' A e cs→Below w.heap.size w w' →w'.heap.size=w.heap.size+1→Lw P l0 Q n rest ((d, .pointer (some ⟨A,0,none⟩))::E) w'):
  Lw P l0 Q n (⟨some d, .box e x,ty,pos,af,none⟩::rest) E w:=by
 refine Bk (Xw.box m k) b fun v c ⟨g,j,o,a⟩=> ?_
 subst g
 exact h _ c rfl j o a
end
theorem AQ {α:Type} {w:World} {B:Nat} {e:TypeId} {k:Nat} {v:Value} {enc:α→Value} {l:List α} (h:w.ownsRow B e 1 v k (l.map enc)):BS enc w v l:=by
 have:k=l.length:=by have:=h.1;simpa using this.symm
 subst this
 exact AI h
theorem BH {w:World} {B B' :Nat} {e:TypeId} {sz k:Nat} {v:Value} {xs:List Value} (h:w.ownsRow B e sz v k xs) (j:B' ≤B):w.ownsRow B' e sz v k xs:=
 ⟨h.1,by
  rcases h.2 with h|⟨g,cap,a,d,c,b⟩
  ·exact .inl h
  ·exact .inr ⟨g,cap,a,d,Nat.le_trans j c,b⟩⟩
theorem Gq {a b c:World} {r q:Option Nat} (h:a.grownBy b r) (k:b.grownBy c q) (d:∀n,q=some n→a.heap.size≤n):a.grownBy c r:=
 ⟨k.os.trans h.os,k.tape.trans h.tape,k.output.trans h.output,Nat.le_trans h.size k.size,fun i hi g=>(k.block i (Nat.lt_of_lt_of_le hi h.size) (fun e=>by have:=d i e.symm;omega)).trans (h.block i hi g)⟩
theorem Sl.stay {w w' :World} {sz:Nat} {v:Value} {n:Nat} {xs:List Value} (h:Sl w sz v n xs) (k:∀b,v.ownBlock=some b→xs≠[]→w'.heap[b]? =w.heap[b]?):Sl w' sz v n xs:=by
 obtain ⟨o,d,cap,rfl,j,q,m,p⟩:=h
 refine ⟨o,d,cap,rfl,j,q,m,p.keep fun a g c=> ?_⟩
 subst g
 exact k _ rfl c
theorem Sl.blk {w:World} {sz:Nat} {v:Value} {n:Nat} {xs:List Value} (h:Sl w sz v n xs) (c:xs≠[]):∀b,v.ownBlock=some b→b<w.heap.size:=by
 obtain ⟨o,g,cap,rfl,k,p,m,j⟩:=h
 intro b d
 cases g with
 |none=>cases d
 |some a=>
  have:=KJ.lt j c
  simp only [Value.ownBlock,Option.some.injEq] at d
  omega
theorem CG {w w' :World} {base:Nat} {e:TypeId} {sz:Nat} {v:Value} {n:Nat} {xs:List Value} (h:w.ownsRow base e sz v n xs) (k:∀b,v.ownBlock=some b→w'.heap[b]? =w.heap[b]?):w'.ownsRow base e sz v n xs:=by
 obtain ⟨d,c⟩:=h
 rcases c with c|⟨b,cap,a,rfl,j,m,g⟩
 ·exact ⟨d, .inl c⟩
 ·exact ⟨d, .inr ⟨b,cap,a,rfl,j,(k b rfl).trans m,g⟩⟩
def BM (w:World) (base:Nat) (e:TypeId) (sz:Nat) (v:Value) (n:Nat) (xs:List Value):Prop:=
 w.ownsRow base e sz v n xs∨∃g cur,v= .slice (some ⟨g,0,none⟩) n n∧base≤g∧AO w g e cur∧n*sz≤cur.length∧n≤maxLen∧xs=cur.take (n*sz)
namespace BM
variable {w w' : World} {base : Nat} {e : TypeId} {sz : Nat} {v : Value} {n : Nat} {xs : List Value}
theorem len (h:BM w base e sz v n xs):xs.length=n*sz:=by
 rcases h with h|⟨g,a,_,_,_,b,_,rfl⟩
 ·exact h.1
 ·rw [length_take];omega
theorem sl (h:BM w base e sz v n xs):Sl w sz v n xs:=by
 have d:=h.len
 rcases h with h|⟨g,c,rfl,_,o,p,k,rfl⟩
 ·exact AI h
 ·refine ⟨d,some ⟨g,0,none⟩,n,rfl,AX _,k,(fun h=>by cases h),fun a m j u b=> ?_⟩
  cases m
  rw [add_lit,Nat.zero_add,o.cell]
  rw [getElem?_take] at b
  split at b
  ·exact b
  ·cases b
theorem lt (h:BM w base e sz v n xs):∀b,v.ownBlock=some b→base≤b∧b<w.heap.size:=by
 rcases h with h|⟨g,a,rfl,c,d,_⟩
 ·exact AG h
 ·intro b e;cases e;exact ⟨c,AH d⟩
theorem heap (h:BM w base e sz v n xs) (k:∀b,v.ownBlock=some b→w'.heap[b]? =w.heap[b]?):BM w' base e sz v n xs:=by
 rcases h with h|⟨g,a,rfl,d,j,c⟩
 ·exact .inl (CG h k)
 ·exact .inr ⟨g,a,rfl,d,j.keep (k g rfl),c⟩
theorem bs (h:BM w base e sz v n xs) (a:Below w.heap.size w w'):BM w' base e sz v n xs:=h.heap fun b e=>a.block b (h.lt b e).2
theorem by' (h:BM w base e sz v n xs) {r:Option Nat} (hg:w.grownBy w' r) (hne:v.ownBlock=none∨v.ownBlock≠r):BM w' base e sz v n xs:=
  h.heap fun b e => hg.block b (h.lt b e).2 (by rcases hne with h | h; · rw [h] at e; cases e
                                                · rw [← e];exact h)
theorem mono (h:BM w base e sz v n xs) {B:Nat} (j:B≤base):BM w B e sz v n xs:=by
 rcases h with ⟨b,c⟩|⟨g,a,rfl,d,b⟩
 ·refine .inl ⟨b, ?_⟩
  rcases c with h|⟨g,cap,a,d,b,c⟩
  ·exact .inl h
  ·exact .inr ⟨g,cap,a,d,Nat.le_trans j b,c⟩
 ·exact .inr ⟨g,a,rfl,Nat.le_trans j d,b⟩
theorem clip (h:w.ownsRow base e sz v n xs):BM w base e sz (Dd.clip v) n xs:=by
 obtain ⟨k,j⟩:=h
 rcases j with ⟨rfl,rfl⟩|⟨g,cap,b,rfl,o,p,a,c,d,m⟩
 ·exact .inl ⟨k, .inl ⟨rfl,rfl⟩⟩
 ·refine .inr ⟨g,b.toList,rfl,o,p, ?_,Nat.le_trans a c,m.symm⟩
  rw [Array.length_toList,d]
  exact Nat.mul_le_mul_right _ a
theorem slT {α:Type} {enc:α→Value} {l:List α} (h:BM w base e 1 v n (l.map enc)):BS enc w v l:=by
 have:n=l.length:=by have:=h.len;simpa using this.symm
 subst this
 exact h.sl
end BM
structure U7 {α:Type} (enc:α→Value) (w:World) (E:TypeId) (lo hi:Nat) (v:Value) (l:List α):Prop where
 own:w.ownsRow lo E 1 v l.length (l.map enc)
 blk:∀b,v.ownBlock=some b→lo≤b∧b<hi
namespace U7
variable {α : Type} {enc : α → Value} {w w' : World} {E : TypeId} {lo hi : Nat} {v : Value} {l : List α}
theorem sl (h:U7 enc w E lo hi v l):BS enc w v l:=AQ h.own
theorem bs (h:U7 enc w E lo hi v l) (a:Below w.heap.size w w'):U7 enc w' E lo hi v l:=⟨AL h.own a,h.blk⟩
theorem keep (h:U7 enc w E lo hi v l) {r:Option Nat} (a:w.grownBy w' r) (c:∀b,r=some b→b<lo∨hi≤b):U7 enc w' E lo hi v l:=
 ⟨h.own.kept a (by
  cases hv:v.ownBlock with
  |none=>exact .inl rfl
  |some b=>exact .inr fun e=>by have:=c b e.symm;have:=h.blk b hv;omega),h.blk⟩
theorem set (h:U7 enc w E lo hi v l) {i:Nat} {a:α} (b:w'.ownsRow lo E 1 v l.length ((l.map enc).set i (enc a))):U7 enc w' E lo hi v (l.set i a):=
 ⟨by rw [length_set,map_set];exact b,h.blk⟩
theorem below (h:U7 enc w E lo hi v l) {c:World} (d:Below lo c w) (a:lo≤c.heap.size) (j:w.grownBy w' v.ownBlock):Below lo c w' :=d.grown j (Nat.le_trans a d.size) (fun b g=>(h.blk b g).1)
end U7
structure JW (w:World) (T I E:TypeId) (lo hi A:Nat) (x y:Value) (s:List Int) (l:List (BitVec 32)):Prop where
 box:AO w A T [x,y]
 row:BM w lo I 1 x s.length (s.map (Value.int .i64))
 lst:U7 i32 w E lo hi y l
 bA:lo≤A∧A<hi
 bx:∀b,x.ownBlock=some b→lo≤b∧b<hi∧b≠A
 yA:y.ownBlock≠some A
 yx:∀b,y.ownBlock=some b→x.ownBlock≠some b
namespace JW
variable {w w' : World} {T I E : TypeId} {lo hi A : Nat} {x y : Value} {s : List Int} {l : List (BitVec 32)}
theorem bs (h:JW w T I E lo hi A x y s l) (a:Below w.heap.size w w'):JW w' T I E lo hi A x y s l:=⟨h.box.bs a,h.row.bs a,h.lst.bs a,h.bA,h.bx,h.yA,h.yx⟩
theorem keep (h:JW w T I E lo hi A x y s l) {r:Option Nat} (a:w.grownBy w' r) (c:∀b,r=some b→b<lo∨hi≤b):JW w' T I E lo hi A x y s l:=
  ⟨h.box.by a (fun e=>by have:=c A e.symm;have:=h.bA;omega),
   h.row.heap fun b d=>a.block b (h.row.lt b d).2 fun e=>by
    have:=c b e.symm
    have:=h.bx b d
    omega,
   h.lst.keep a c,h.bA,h.bx,h.yA,h.yx⟩
theorem set (h:JW w T I E lo hi A x y s l) {i:Nat} {a:BitVec 32} (c:w.grownBy w' y.ownBlock) (g:w'.ownsRow lo E 1 y l.length ((l.map i32).set i (i32 a))):JW w' T I E lo hi A x y s (l.set i a):=
  ⟨h.box.by c (fun e=>h.yA e.symm),
   h.row.heap fun b d=>c.block b (h.row.lt b d).2 fun e=>h.yx b e.symm d,
   h.lst.set g,h.bA,h.bx,h.yA,h.yx⟩
theorem sh (h:JW w T I E lo hi A x y s l):BS (Value.int .i64) w x s:=h.row.slT
theorem sly (h:JW w T I E lo hi A x y s l):BS i32 w y l:=h.lst.sl
theorem below (h:JW w T I E lo hi A x y s l) {b:World} (c:Below lo b w) (a:lo≤b.heap.size) (d:w.grownBy w' y.ownBlock):Below lo b w' :=h.lst.below c a d
theorem st (h:JW w T I E lo hi A x y s l) {P:Program} {n:Nat} {d:CS} {e ty:TypeId} {p q:Operand} {j:Nat} {a:BitVec 32} (c:(sizeOf e).run P w= .ok 1 w) (k:ev d p=some (CI y j)) (m:ev d q=some (i32 a)) (o:j<l.length):
  Xu P n d (.store e p q) ty w (fun w' =>JW w' T I E lo hi A x y s (l.set j a)∧w.grownBy w' y.ownBlock∧w'.heap.size=w.heap.size):=fun z b=>by
 obtain ⟨w',B,r,g,t⟩:=D3 (P:=P) (ty:=ty) c k m rfl h.lst.own (by simpa using o) z b
 exact ⟨w',B,h.set g r,g,t⟩
end JW
section
variable {α : Type} {f l : List α} {i : Nat}
theorem HD (a:f.length=l.length):(f.take i++l.drop i).length=l.length:=by simp;omega
theorem Sv [Inhabited α] (b:f.length=l.length) (hi:i<l.length):(f.take i++l.drop i).getD i default=l.getD i default:=by
 have a:(f.take i).length=i:=by simp;omega
 rw [getD_eq_getElem?_getD,getElem?_append_right (by omega),a,Nat.sub_self,drop_eq_getElem_cons hi]
 simp [hi]
theorem HC [Inhabited α] (c:f.length=l.length) (hi:i<l.length):(f.take i++l.drop i).set i (f.getD i default)=f.take (i+1)++l.drop (i+1):=by
 have b:(f.take i).length=i:=by simp;omega
 have a:i<f.length:=by omega
 rw [set_append_right _ _ (by omega),b,Nat.sub_self,drop_eq_getElem_cons hi,set_cons_zero,take_succ_eq_append_getElem a,append_assoc]
 simp [a]
theorem SX [Inhabited α] {a:α} (hi:i<l.length) (h:l.getD i default=a):l.set i a=l:=by
 subst h
 apply ext_getElem (by simp)
 intro j b c
 rw [getElem_set]
 split
 ·rename_i e;subst e;simp [hi]
 ·rfl
theorem GH:f.take 0++l.drop 0=l:=by simp
theorem HE (a:f.length=l.length):f.take l.length++l.drop l.length=f:=by rw [← a,take_length,a,drop_length,append_nil]
end
section
variable {P : Program} {Q : CH} {n : Nat} {E : CS} {w : World} {l0 rest : List Oper} {ty : TypeId} {pos : String} {af : Array Edge} {C : World → Prop} {K : Act → Prop}
theorem Pc {a:Act} (c:CK n E a) {j dj:Nat} (d:(ED l0 j).bind (·.dst)=some dj) (b:get E dj=some undef):yielded l0.toArray a.tmps j=none:=by
 unfold yielded
 rw [getElem?_toArray,DC,d]
 simp [c.has _ _ b,undef]
theorem Fo {d:Nat} {k:Op} {j dj:Nat} {g:Bool} (m:(ED l0 j).bind (·.dst)=some dj) (o:get E dj=some undef) (c:Nat.blt d n=true)
  (h:Lw P l0 Q n rest ((d,undef)::E) w):Lw P l0 Q n (⟨some d,k,ty,pos,af,some (j,g)⟩::rest) E w:=fun a b=>by
 unfold wpList
 rw [if_neg]
 ·exact h _ (b.put _ c)
 ·simp [Region.wanted,Pc b m o]
end
end Go.Dd

namespace Go.Dd
abbrev RW:=BitVec 32
def sm:Nat→(Nat→RW)→RW
 |0,_=>0#32
 |n+1,f=>sm n f+f n
theorem Gy {f g:Nat→RW}:∀{n:Nat},(∀i,i<n→f i=g i)→sm n f=sm n g
 |0,_=>rfl
 |n+1,h=>by rw [sm,sm,Gy fun i a=>h i (by omega),h n (by omega)]
theorem Nj {f:Nat→RW}:∀{n:Nat},(∀i,i<n→f i=0#32)→sm n f=0#32
 |0,_=>rfl
 |n+1,h=>by rw [sm,Nj fun i a=>h i (by omega),h n (by omega)];rfl
theorem Pr {f:Nat→RW} {k:Nat}:∀{n:Nat},(∀i,i<n→i≠k→f i=0#32)→sm n f=if k<n then f k else 0#32
 |0,_=>rfl
 |n+1,h=>by
  rw [sm,Pr (k:=k) fun i b a=>h i (by omega) a]
  by_cases hk:k<n
  ·rw [if_pos hk,if_pos (by omega),h n (by omega) (by omega)];simp
  ·rw [if_neg hk]
   by_cases hn:k=n
   ·subst hn;rw [if_pos (by omega)];simp
   ·rw [if_neg (by omega),h n (by omega) (fun e=>hn e.symm)];rfl
theorem SN (f:Nat→RW) (m:Nat):∀n:Nat,sm (m+n) f=sm m f+sm n (fun i=>f (m+i))
 |0=>by simp [sm]
 |n+1=>by rw [← Nat.add_assoc,sm,sm,SN f m n,BitVec.add_assoc]
def Vn (m k n:Nat) (a b:List RW):List RW:=(List.range (m*n)).map fun i=>sm k fun p=>a.getD (i / n*k+p) default*b.getD (p*n+i % n) default
theorem Ji (m k n:Nat) (a b:List RW):(Vn m k n a b).length=m*n:=by simp [Vn]
theorem Ti {m k n i j:Nat} (a b:List RW) (e:i<m) (c:j<n):(Vn m k n a b).getD (i*n+j) default=sm k fun p=>a.getD (i*k+p) default*b.getD (p*n+j) default:=by
 have h:i*n+j<m*n:=by
  have:=Nat.mul_le_mul_right n (show i+1≤m by omega)
  rw [Nat.succ_mul] at this
  omega
 have d:0<n:=by omega
 have e1:(i*n+j) / n=i:=by rw [Nat.mul_comm,Nat.mul_add_div d,Nat.div_eq_of_lt c];omega
 have e2:(i*n+j) % n=j:=by rw [Nat.mul_comm,Nat.mul_add_mod,Nat.mod_eq_of_lt c]
 simp only [Vn,List.getD_eq_getElem?_getD,List.getElem?_map,List.getElem?_range h,Option.map_some,Option.getD_some,e1,e2]
theorem Wx {m n i:Nat} (h:i<m*n):i / n<m∧i % n<n∧i / n*n+i % n=i:=by
 have b:0<n:=by
  rcases Nat.eq_zero_or_pos n with a|a
  ·subst a;simp at h
  ·exact a
 exact ⟨(Nat.div_lt_iff_lt_mul b).2 h,Nat.mod_lt _ b,by have:=Nat.div_add_mod i n;rw [Nat.mul_comm] at this;exact this⟩
def ad (n:Nat) (a b:List RW):List RW:=(List.range n).map fun i=>a.getD i default+b.getD i default
theorem IU {m n i j:Nat} (b:i<m) (a:j<n):i*n+j<m*n:=by
 have:=Nat.mul_le_mul_right n (show i+1≤m by omega)
 rw [Nat.succ_mul] at this
 omega
end Go.Dd

namespace Go.Dd.Shapes
def prod:List Int→Int
 |[]=>1
 |x::s=>x*prod s
def tim (n:Int):List Int→Int
 |[]=>n
 |x::l=>if x<1∨64<x then 0 else if 4096<n*x then 0 else tim (n*x) l
def size (s:List Int):Int:=if s.length<1∨4<s.length then 0 else tim 1 s
def good (s:List Int):Prop:=∀x ∈ s,1≤x∧x≤64
def ok (s:List Int):Bool:=decide (0<size s)
def inn:List Int→List Int→Bool
 |[],[]=>true
 |x::s,a::t=>decide (0≤a) && decide (a<x) && inn s t
 |_,_=>false
def idx:List Int→List Int→Int
 |_::s,a::t=>a*prod s+idx s t
 |_,_=>0
def place:List Int→Int→List Int
 |[],_=>[]
 |x::s,i=>(i / prod s % x)::place s i
def index (s t:List Int):Int×Int:=if ok s && inn s t then (idx s t,0) else (0,1)
def atl (s:List Int) (i:Int):List Int:=if 0≤i∧i<size s then place s i else []
def ate (s:List Int) (i:Int):Int:=if 0≤i∧i<size s then 0 else 1
theorem good_cons {x:Int} {s:List Int}:good (x::s)↔(1≤x∧x≤64)∧good s:=by simp [good]
theorem good_append {s t:List Int}:good (s++t)↔good s∧good t:=by
 simp only [good,List.mem_append]
 exact ⟨fun h=>⟨fun x a=>h x (.inl a),fun x a=>h x (.inr a)⟩,fun h x a=>a.elim (h.1 x) (h.2 x)⟩
theorem good_drop {s:List Int} (h:good s) (k:Nat):good (s.drop k):=fun x a=>h x (List.mem_of_mem_drop a)
theorem prod_append (s t:List Int):prod (s++t)=prod s*prod t:=by
 induction s with
 |nil=>simp [prod]
 |cons x s ih=>simp [prod,ih,Int.mul_assoc]
theorem prod_pos:∀{s:List Int},good s→1≤prod s
 |[],_=>by simp [prod]
 |x::s,h=>by
  have a:=(good_cons.1 h).1
  have b:=prod_pos (good_cons.1 h).2
  have:=Int.mul_le_mul a.1 b (by omega) (by omega)
  simpa [prod] using this
theorem Nf:∀(s:List Int) (n:Int),1≤n→n≤4096→(good s∧n*prod s≤4096∧tim n s=n*prod s)∨(¬(good s∧n*prod s≤4096)∧tim n s=0)
 |[],n,h1,h2=> .inl ⟨by simp [good],by simpa [prod] using h2,by simp [tim,prod]⟩
 |x::s,n,h1,h2=>by
  by_cases hx:x<1∨64<x
  ·exact .inr ⟨fun h=>by have:=(good_cons.1 h.1).1;omega,by simp [tim,hx]⟩
  ·have b:1≤x:=by omega
   have a:1≤n*x:=by have:=Int.mul_le_mul h1 b (by omega) (by omega);simpa using this
   by_cases h4:4096<n*x
   ·refine .inr ⟨fun h=> ?_,by simp [tim,hx,h4]⟩
    have d:=prod_pos (good_cons.1 h.1).2
    have i:=Int.mul_le_mul (Int.le_refl (n*x)) d (by omega) (by omega)
    have c:=h.2
    simp only [prod,← Int.mul_assoc] at c
    omega
   ·have f:tim n (x::s)=tim (n*x) s:=by simp [tim,hx,h4]
    have e:n*prod (x::s)=n*x*prod s:=by simp [prod,Int.mul_assoc]
    rw [f,e]
    rcases Nf s (n*x) a (by omega) with ⟨g,l,t⟩|⟨g,t⟩
    ·exact .inl ⟨good_cons.2 ⟨by omega,g⟩,l,t⟩
    ·exact .inr ⟨fun h=>g ⟨(good_cons.1 h.1).2,h.2⟩,t⟩
theorem UL (s:List Int):0≤tim 1 s∧tim 1 s≤4096:=by
 rcases Nf s 1 (by omega) (by omega) with ⟨g,l,t⟩|⟨g,t⟩
 ·have:=prod_pos g;omega
 ·omega
theorem size_le (s:List Int):0≤size s∧size s≤4096:=by
 unfold size
 split
 ·omega
 ·exact UL s
theorem ok_iff (s:List Int):ok s=true↔(1≤s.length∧s.length≤4)∧good s∧prod s≤4096:=by
 unfold ok size
 rw [decide_eq_true_iff]
 split
 ·omega
 ·rcases Nf s 1 (by omega) (by omega) with ⟨g,l,t⟩|⟨g,t⟩
  ·have:=prod_pos g
   simp only [Int.one_mul] at l t
   rw [t];exact ⟨fun _=>⟨by omega,g,l⟩,fun _=>by omega⟩
  ·simp only [Int.one_mul] at g
   rw [t];exact ⟨fun h=>by omega,fun h=>absurd h.2 g⟩
theorem size_ok {s:List Int} (h:ok s=true):size s=prod s:=by
 have a:=(ok_iff s).1 h
 unfold size
 rw [if_neg (by omega)]
 rcases Nf s 1 (by omega) (by omega) with ⟨g,l,t⟩|⟨g,t⟩
 ·simpa using t
 ·exact absurd ⟨a.2.1,by simpa using a.2.2⟩ g
theorem size_no {s:List Int} (h:ok s=false):size s=0:=by
 have:=size_le s
 unfold ok at h
 have:=AB h
 omega
theorem ok_prod {s:List Int} (h:ok s=true) (k:Nat):1≤prod (s.drop k)∧prod (s.drop k)≤4096:=by
 obtain ⟨_,g,l⟩:=(ok_iff s).1 h
 have a:=prod_pos (good_drop g k)
 refine ⟨a, ?_⟩
 have d:prod s=prod (s.take k)*prod (s.drop k):=by rw [← prod_append,List.take_append_drop]
 have b:=prod_pos (s:=s.take k) fun x c=>g x (List.mem_of_mem_take c)
 have:=Int.mul_le_mul b (Int.le_refl (prod (s.drop k))) (by omega) (by omega)
 omega
theorem prod_drop {s:List Int} {k:Nat} (h:k<s.length):prod (s.drop k)=s.getD k default*prod (s.drop (k+1)):=by
 rw [List.drop_eq_getElem_cons h];simp [prod,h]
theorem inn_length:∀{s t:List Int},inn s t=true→t.length=s.length
 |[],[],_=>rfl
 |x::s,a::t,h=>by simp only [inn,Bool.and_eq_true] at h;simp [inn_length h.2]
 |[],_::_,h=>by simp [inn] at h
 |_::_,[],h=>by simp [inn] at h
theorem inn_at:∀{s t:List Int} {k:Nat},inn s t=true→k<s.length→0≤t.getD k default∧t.getD k default<s.getD k default
 |_::_,_::_,0,h,_=>by simp only [inn,Bool.and_eq_true,decide_eq_true_eq] at h;simpa using h.1
 |_::s,_::t,k+1,h,hk=>by
  simp only [inn,Bool.and_eq_true,decide_eq_true_eq] at h
  simpa using inn_at (s:=s) (t:=t) (k:=k) h.2 (by simpa using hk)
 |[],_,_,_,hk=>by simp at hk
 |_::_,[],_,h,_=>by simp [inn] at h
theorem inn_drop {s t:List Int} {k:Nat} (a:k<s.length) (c:t.length=s.length):inn (s.drop k) (t.drop k)=(decide (0≤t.getD k default) && decide (t.getD k default<s.getD k default) && inn (s.drop (k+1)) (t.drop (k+1))):=by
 have b:k<t.length:=by omega
 rw [List.drop_eq_getElem_cons a,List.drop_eq_getElem_cons b]
 simp [inn,a,b]
theorem idx_drop {s t:List Int} {k:Nat} (b:k<s.length) (c:t.length=s.length):idx (s.drop k) (t.drop k)=t.getD k default*prod (s.drop (k+1))+idx (s.drop (k+1)) (t.drop (k+1)):=by
 have a:k<t.length:=by omega
 rw [List.drop_eq_getElem_cons b,List.drop_eq_getElem_cons a]
 simp [idx,a]
theorem idx_lt:∀{s t:List Int},good s→inn s t=true→0≤idx s t∧idx s t<prod s
 |[],[],_,_=>by simp [idx,prod]
 |x::s,a::t,g,h=>by
  simp only [inn,Bool.and_eq_true,decide_eq_true_eq] at h
  have e:=idx_lt (good_cons.1 g).2 h.2
  have d:=prod_pos (good_cons.1 g).2
  have c:0≤a*prod s:=Int.mul_nonneg h.1.1 (by omega)
  have b:(a+1)*prod s≤x*prod s:=Int.mul_le_mul_of_nonneg_right (by omega) (by omega)
  rw [Int.add_mul] at b
  simp only [idx,prod]
  omega
 |[],_::_,_,h=>by simp [inn] at h
 |_::_,[],_,h=>by simp [inn] at h
theorem place_length (s:List Int) (i:Int):(place s i).length=s.length:=by
 induction s with
 |nil=>rfl
 |cons x s ih=>simp [place,ih]
theorem place_at {i:Int}:∀{s:List Int} {k:Nat},k<s.length→(place s i).getD k default=i / prod (s.drop (k+1)) % s.getD k default
 |x::s,0,_=>by simp [place]
 |x::s,k+1,h=>by
  have:=place_at (i:=i) (s:=s) (k:=k) (by simpa using h)
  simpa [place] using this
theorem place_in {i:Int} (a:0≤i):∀{s:List Int},good s→inn s (place s i)=true
 |[],_=>rfl
 |x::s,g=>by
  have b:=(good_cons.1 g).1
  simp only [place,inn,place_in a (good_cons.1 g).2,Bool.and_true,Bool.and_eq_true,decide_eq_true_eq]
  exact ⟨Int.emod_nonneg _ (by omega),Int.emod_lt_of_pos _ (by omega)⟩
theorem TX (i p x:Int) (d:0≤i) (c:0≤p) (e:0≤x):i / p % x*p+i % p=i % (x*p):=by
 obtain ⟨i,rfl⟩:=Int.eq_ofNat_of_zero_le d
 obtain ⟨p,rfl⟩:=Int.eq_ofNat_of_zero_le c
 obtain ⟨x,rfl⟩:=Int.eq_ofNat_of_zero_le e
 have h:=Nat.mod_mul (x:=i) (a:=p) (b:=x)
 have:i / p % x*p+i % p=i % (x*p):=by rw [Nat.mul_comm x p,h,Nat.mul_comm p];omega
 exact_mod_cast this
theorem idx_place {i:Int} (a:0≤i):∀{s:List Int},good s→idx s (place s i)=i % prod s
 |[],_=>by simp [idx,prod]
 |x::s,g=>by
  have c:=prod_pos (good_cons.1 g).2
  have b:=(good_cons.1 g).1
  simp only [place,idx,idx_place a (good_cons.1 g).2,prod]
  exact TX _ _ _ a (by omega) (by omega)
end Go.Dd.Shapes

namespace Go.Dd
open Go Go.RowKit List
section
variable {P : Program} {n : Nat} {E : CS} {w : World} {ty t s : TypeId} {x y : Operand}
end
end Go.Dd

namespace Go.Dd
open Go Go.RowKit
open List hiding get
def G6 (S:List Nat) (L:Array Bool):Array Bool:=((range L.size).map fun i=>L.getD i true|| !S.contains i).toArray
def Nn:List Nat→Array Bool→Array Bool
 |[],L=>L
 |i::S,L=>Nn S (L.setIfInBounds i true)
theorem Hj (S:List Nat) (L:Array Bool):(G6 S L).size=L.size:=by simp [G6]
theorem FN {S:List Nat} {L:Array Bool} {i:Nat} (d:Bool) (h:i<L.size):(G6 S L).getD i d=(L.getD i true|| !S.contains i):=by
 simp [G6,h]
theorem MC:∀(S:List Nat) (L:Array Bool),(Nn S L).size=L.size
 |[],_=>rfl
 |i::S,L=>by simp [Nn,MC S]
theorem FQ (L:Array Bool) (i j:Nat) (d:Bool) (h:j<L.size):(L.setIfInBounds i true).getD j d=(L.getD j d||i==j):=by
 by_cases hij:i=j
 ·subst hij;simp [h]
 ·simp [Array.getElem?_setIfInBounds_ne hij,hij]
theorem Om {d:Bool}:∀(S:List Nat) (L:Array Bool) (j:Nat),j<L.size→(Nn S L).getD j d=(L.getD j d||S.contains j)
 |[],L,j,_=>by simp [Nn]
 |i::S,L,j,h=>by
  rw [Nn,Om S _ j (by simpa using h),FQ L i j d h,contains_cons,Bool.or_assoc]
  have e:(i==j)=(j==i):=by rw [Bool.eq_iff_iff];simp only [beq_iff_eq];exact eq_comm
  rw [e]
theorem MU {A B:Array Bool} (hs:A.size=B.size) (h:∀i,i<A.size→A.getD i true=B.getD i true):A=B:=by
 apply Array.ext hs
 intro i a b
 have:=h i a
 simpa [a,b] using this
section
variable {P : Program} {ops : Array Oper} {Q : CH} {T : Act → World → Prop}
theorem Rj {i:Nat} {a:Act} {w:World} {K e:Act→World→Prop} (h:wpOp P ops (CX T Q) i K a w) (f:∀a w,K a w→e a w):wpOp P ops Q i e a w:=by
 refine wpOp_mono f ?_
 unfold wpOp at*
 split
 ·rename_i c;simp only [c] at h;exact h
 ·rename_i o c
  simp only [c] at h
  split
  ·rename_i b
   simp only [b,if_true] at h
   refine h.imp (fun h=> ?_) (fun h=>h)
   unfold Oper.wp at*
   generalize (execOp a.eval o).run P w=r at*
   cases r with
   |ok nx w' =>cases nx<;>exact h
   |halt x w' =>cases x<;>exact h
  ·rename_i b;simp only [b] at h;exact h
def NC (ops:Array Oper) (S:List Nat) (L:Array Bool) (i:Nat):Bool:=match ops[i]? with
 |some o=>o.after.all fun e=> !Region.binds .any e||((L.getD e.on false||S.contains e.on) && decide (e.on<i))
 |none=>false
def OC (ops:Array Oper) (S:List Nat) (L:Array Bool) (t:Nat):Bool:=match ops[t]? with
 |some o=>o.after.any fun e=>Region.binds .any e && (!L.getD e.on false && !S.contains e.on)
 |none=>true
def Va (ops:Array Oper) (S:List Nat) (b:Nat) (L:Array Bool):Bool:=
 decide (L.size=ops.size) && decide S.Nodup && S.all (fun i=>decide (i<ops.size) && !L.getD i true && NC ops S L i && (range ops.size).any fun j=>decide (i<j) && (S.contains j||j==b) && Region.waitsFor .any ops j i) &&
 !S.contains b && (range ops.size).all fun t=>L.getD t true||S.contains t||t==b||OC ops S L t
structure XL (ops:Array Oper) (S:List Nat) (L0 L:Array Bool):Prop where
 size:L.size=ops.size
 ge:∀i,L0.getD i false=true→L.getD i false=true
 only:∀i,L.getD i false=true→L0.getD i false=true∨S.contains i=true
 closed:∀j o,S.contains j=true→ops[j]? =some o→L.getD j false=true→∀e ∈ o.after,Region.binds .any e=true→L.getD e.on false=true
theorem FS {L:Array Bool} {i:Nat} (a:i<L.size):L.getD i true=L.getD i false:=by simp [a]
theorem SY {S:List Nat} {b:Nat} {L0:Array Bool} {g:Nat} (hB:Va ops S b L0=true) (k:∀a w,T a w→wpAny P .any ops Q g (Nn S L0) a w):
  ∀(f:Nat) (L:Array Bool) (a:Act) (w:World),XL ops S L0 L→(S.filter fun i=> !L.getD i true).length=f→
   wpAny P .any ops (CX T Q) f (G6 S L) a w→wpAny P .any ops Q (f+g) L a w:=by
 simp only [Va,Bool.and_eq_true,decide_eq_true_eq,all_eq_true,mem_range,any_eq_true,Bool.or_eq_true,Bool.not_eq_true'] at hB
 obtain ⟨⟨⟨⟨hsz,I⟩,hS⟩,hbS⟩,J⟩:=hB
 intro f
 induction f with
 |zero=>
  intro L a w c hc h
  have hall:∀i ∈ S,L.getD i true=true:=fun i m=>by
   have s:=eq_nil_of_length_eq_zero hc
   rw [filter_eq_nil_iff] at s
   simpa using s i m
  have:L=Nn S L0:=by
   refine MU (by rw [MC,c.size,hsz]) fun i m=> ?_
   have hi0:i<L0.size:=by rw [hsz,← c.size];exact m
   rw [Om _ _ _ hi0,FS m,FS hi0]
   cases s:L.getD i false with
   |true=>
    rcases c.only i s with p|p
    ·rw [p];rfl
    ·rw [p,Bool.or_true]
   |false=>
    cases p:L0.getD i false with
    |true=>rw [c.ge i p] at s;cases s
    |false=>
     cases M:S.contains i with
     |false=>rfl
     |true=>
      have:=hall i (by simpa using M)
      rw [FS m,s] at this
      cases this
  rw [Nat.zero_add,this]
  exact k a w h.2
 |succ f ih=>
  intro L a w c hc h
  -- the ready ones are the same
  have K:∀i,i ∈ Region.ready .any ops L↔i ∈ Region.ready .any ops (G6 S L):=by
   intro i
   rw [mem_ready,mem_ready]
   constructor
   ·rintro ⟨p,o,z,M⟩
    have m:i<ops.size:=(Array.getElem?_eq_some_iff.1 z).1
    have G:i<L.size:=by rw [c.size];exact m
    have D:S.contains i=true:=by
     refine Classical.byContradiction fun hn=> ?_
     have hn:S.contains i=false:=by simpa using hn
     rcases J i m with ((H|H)|H)|H
     ·have y:L0.getD i false=true:=by rw [← FS (by omega)];exact H
      have:=c.ge i y
      rw [← FS G,p] at this;cases this
     ·rw [hn] at H;cases H
     ·-- the barrier waits
      have H:i=b:=by simpa using H
      have key:∀d j,ops.size - j=d→S.contains j=true→L.getD j true=false→False:=by
       intro d
       induction d using Nat.strongRecOn with
       |_ d ihd=>
        intro j U l q
        obtain ⟨⟨⟨X,_⟩,_⟩,t,ht,⟨hjt,R⟩,hw⟩:=hS j (by simpa using l)
        obtain ⟨ot,Y,e,B,hbn,hon⟩:=Region.waitsFor_spec hw
        rcases R with R|htb
        ·cases hl:L.getD t true with
         |false=>exact ihd (ops.size - t) (by omega) t rfl R hl
         |true=>
          have htL:t<L.size:=by rw [c.size];exact ht
          have r:=c.closed t ot R Y (by rw [← FS htL];exact hl) e B hbn
          rw [hon,← FS (by rw [c.size];exact X),q] at r
          cases r
        ·have htb:t=b:=by simpa using htb
         have:ot=o:=by rw [htb,← H] at Y;exact Option.some.inj (Y.symm.trans z)
         subst this
         have r:=M e B hbn
         rw [hon,← FS (by rw [c.size];exact X),q] at r
         cases r
      have hex:∃j ∈ S,L.getD j true=false:=by
       have F:(S.filter fun i=> !L.getD i true)≠[]:=fun s=>by rw [s] at hc;cases hc
       obtain ⟨j,l⟩:=exists_mem_of_ne_nil _ F
       rw [mem_filter] at l
       exact ⟨j,l.1,by simpa using l.2⟩
      obtain ⟨j,l,q⟩:=hex
      exact key _ j rfl (by simpa using l) q
     ·simp only [OC,z] at H
      obtain ⟨e,B,A⟩:=Array.any_eq_true'.1 H
      simp only [Bool.and_eq_true,Bool.not_eq_true'] at A
      have y:=M e B A.1
      rcases c.only _ y with r|r
      ·rw [A.2.1] at r;cases r
      ·rw [A.2.2] at r;cases r
    refine ⟨by rw [FN _ G,p,D];rfl,o,z,fun e B A=> ?_⟩
    have y:=M e B A
    have u:e.on<L.size:=by
     rcases Nat.lt_or_ge e.on L.size with h|h
     ·exact h
     ·simp [Array.getElem?_eq_none h] at y
    rw [FN _ u,FS u,y];rfl
   ·rintro ⟨p,o,z,M⟩
    have m:i<ops.size:=(Array.getElem?_eq_some_iff.1 z).1
    have G:i<L.size:=by rw [c.size];exact m
    rw [FN _ G,Bool.or_eq_false_iff] at p
    have D:S.contains i=true:=by simpa using p.2
    refine ⟨p.1,o,z,fun e B A=> ?_⟩
    have y:=M e B A
    have u:e.on<L.size:=by
     rcases Nat.lt_or_ge e.on L.size with h|h
     ·exact h
     ·simp [Array.getElem?_eq_none (show (G6 S L).size≤e.on by rw [Hj];exact h)] at y
    rw [FN _ u,FS u,Bool.or_eq_true] at y
    rcases y with y|y
    ·exact y
    ·have U:=(hS i (by simpa using D)).1.2
     simp only [NC,z] at U
     have r:=Array.all_eq_true_iff_forall_mem.1 U e B
     simp only [A,Bool.not_true,Bool.false_or,Bool.and_eq_true,Bool.or_eq_true] at r
     rcases r.1 with h6|h6
     ·exact c.ge _ h6
     ·rw [h6] at y;cases y
  have W:Region.ready .any ops L=Region.ready .any ops (G6 S L):=by
   unfold Region.ready
   refine filter_congr fun i m=> ?_
   have p:=K i
   unfold Region.ready at p
   rw [mem_filter,mem_filter] at p
   have M:=List.mem_range.1 m
   simp only [m,true_and] at p
   exact Bool.eq_iff_iff.2 p
  -- one of them is there
  have F:Region.ready .any ops L≠[]:=by
   have hex:∃j ∈ S,L.getD j true=false:=by
    have F:(S.filter fun i=> !L.getD i true)≠[]:=fun s=>by rw [s] at hc;cases hc
    obtain ⟨j,l⟩:=exists_mem_of_ne_nil _ F
    rw [mem_filter] at l
    exact ⟨j,l.1,by simpa using l.2⟩
   have key:∀j,j ∈ S→L.getD j true=false→∃i,i ∈ Region.ready .any ops L:=by
    intro j
    induction j using Nat.strongRecOn with
    |_ j ihj=>
     intro l q
     obtain ⟨⟨⟨X,_⟩,U⟩,_⟩:=hS j l
     cases z:ops[j]? with
     |none=>simp [NC,z] at U
     |some o=>
      simp only [NC,z] at U
      by_cases hall:∀e ∈ o.after,Region.binds .any e=true→L.getD e.on false=true
      ·exact ⟨j,mem_ready.2 ⟨q,o,z,hall⟩⟩
      ·simp only [Classical.not_forall] at hall
       obtain ⟨e,B,A,hnl⟩:=hall
       have r:=Array.all_eq_true_iff_forall_mem.1 U e B
       simp only [A,Bool.not_true,Bool.false_or,Bool.and_eq_true,Bool.or_eq_true,decide_eq_true_eq] at r
       rcases r.1 with h6|h6
       ·exact absurd (c.ge _ h6) hnl
       ·have u:e.on<L.size:=by rw [c.size];omega
        exact ihj e.on r.2 (by simpa using h6) (by rw [FS u];simpa using hnl)
   obtain ⟨j,l,q⟩:=hex
   obtain ⟨i,m⟩:=key j l q
   intro s;rw [s] at m;cases m
  rw [show f+1+g=(f+g)+1 by omega]
  refine ⟨fun s=>absurd s F,fun i m=> ?_⟩
  have Z:=(K i).1 m
  refine Rj (h.2 i Z) fun a' w' h' => ?_
  obtain ⟨q,o,z,hdeps⟩:=mem_ready.1 m
  have his:i<ops.size:=(Array.getElem?_eq_some_iff.1 z).1
  have G:i<L.size:=by rw [c.size];exact his
  have D:S.contains i=true:=by
   have:=(mem_ready.1 Z).1
   rw [FN _ G,Bool.or_eq_false_iff] at this
   simpa using this.2
  have hoth:G6 S (L.setIfInBounds i true)=(G6 S L).setIfInBounds i true:=by
   refine MU (by simp [Hj]) fun j l=> ?_
   have N:j<L.size:=by simpa [Hj] using l
   rw [FN _ (by simpa using N),FQ L i j true N,FQ (G6 S L) i j true (by rw [Hj];exact N),FN _ N,Bool.or_assoc,Bool.or_assoc,Bool.or_comm (i==j)]
  refine ih (L.setIfInBounds i true) a' w' ⟨by simpa using c.size,fun j l=>getD_set_true (c.ge j l),fun j l=> ?_,fun j oj hjS hoj l e B A=> ?_⟩ ?_ (by rw [hoth];exact h')
  ·by_cases hij:i=j
   ·subst hij;exact .inr D
   ·rw [getD_set_ne false hij] at l;exact c.only j l
  ·by_cases hij:i=j
   ·subst hij
    have:oj=o:=Option.some.inj (hoj.symm.trans z)
    subst this
    exact getD_set_true (hdeps e B A)
   ·rw [getD_set_ne false hij] at l
    exact getD_set_true (c.closed j oj hjS hoj l e B A)
  ·have V:i ∈ S:=by simpa using D
   have hsz' :∀j ∈ S,j<L.size:=fun j l=>by rw [c.size];exact (hS j l).1.1.1
   clear h h' W K F m Z k ih hS J
   have gen:∀(S:List Nat),S.Nodup→i ∈ S→(∀j ∈ S,j<L.size)→(S.filter fun j=> !(L.setIfInBounds i true).getD j true).length+1=(S.filter fun j=> !L.getD j true).length:=by
    intro S
    induction S with
    |nil=>intro _ h;cases h
    |cons x S ihS=>
     intro I m hlt
     rw [nodup_cons] at I
     have hx:=hlt x (by simp)
     by_cases hxi:x=i
     ·subst hxi
      have p:∀j ∈ S,(!(L.setIfInBounds x true).getD j true)= !L.getD j true:=fun j l=>by
       rw [getD_set_ne true (by rintro rfl;exact I.1 l)]
      have M:(!(L.setIfInBounds x true).getD x true)=false:=by rw [FQ _ _ _ _ hx];simp
      rw [filter_cons,filter_cons,M,filter_congr p]
      have H:(!L.getD x true)=true:=by rw [q];rfl
      rw [H]
      simp
     ·have hi' :i ∈ S:=by
       rcases List.mem_cons.1 m with h|h
       ·exact absurd h.symm hxi
       ·exact h
      have p:=ihS I.2 hi' fun j l=>hlt j (by simp [l])
      rw [filter_cons,filter_cons,getD_set_ne true (Ne.symm hxi)]
      cases hl:L.getD x true with
      |true=>simp only [Bool.not_true,Bool.false_eq_true,if_false];exact p
      |false=>simp only [Bool.not_false,if_true,length_cons];omega
   have:=gen S I V hsz'
   omega
end
section
variable {P : Program} {Q : CH} {n : Nat} {E : CS} {w : World} {l0 : List Oper}
theorem Fk {St:Type} {f g:Nat} {e:Array Bool} (S:List Nat) (b:Nat) (u:St→CS) (I:St→World→Prop) (z:Va l0.toArray S b e=true) (p:S.length+g=f)
  (h:Aw P l0 (CX (fun r c=>∃s,CK n (u s) r∧I s c) Q) n S.length (G6 S e) E w)
  (k:∀s c,I s c→Aw P l0 Q n g (Nn S e) (u s) c):Aw P l0 Q n f e E w:=fun a D=>by
 subst p
 have l:=z
 simp only [Va,Bool.and_eq_true,decide_eq_true_eq,all_eq_true] at l
 obtain ⟨⟨⟨⟨m,_⟩,x⟩,_⟩,_⟩:=l
 refine SY z (fun r c ⟨s,p,t⟩=>k s c t r p) S.length e a w ⟨m,fun _ h=>h,fun _ h=> .inl h,fun j o F A B=> ?_⟩ ?_ (h a D)
 ·have q:=x j (by simpa using F)
  have y:e.getD j true=false:=by simpa using q.1.1.2
  rw [FS (by rw [m];exact (Array.getElem?_eq_some_iff.1 A).1),B] at y
  cases y
 ·congr 1
  rw [filter_eq_self]
  intro i t
  exact (x i t).1.1.2
theorem Fj {St:Type} {a:St→CS} {I:St→World→Prop} (s:St) (b:Rg E (a s)) (c:I s w):Pw n E (fun g e=>∃s,CK n (a s) g∧I s e) w:=fun _ f=>⟨s,f.sub b,c⟩
end
section
variable {P : Program} {ops : Array Oper} {Q : CH} {C : World → Prop}
def G4 (P:Program) (ops:Array Oper) (Q:CH) (C:World→Prop):Nat→Array Bool→Act→World→Prop
 |0,listed,a,w=>Region.ready .any ops listed=[]∧Q .normal a w
 |fuel+1,listed,a,w=>
  (Region.ready .any ops listed=[]→Q .normal a w)∧
  ∀i ∈ Region.ready .any ops listed,wpOp P ops Q i (fun a' w' =>C w' ∧G4 P ops Q C fuel (listed.setIfInBounds i true) a' w') a w
theorem Ll:∀(fuel:Nat) (listed:Array Bool) (a:Act) (w:World),G4 P ops Q C fuel listed a w→wpAny P .any ops Q fuel listed a w
 |0,_,_,_,h=>h
 |fuel+1,_,_,_,h=>⟨h.1,fun i b=>wpOp_mono (fun _ _ c=>Ll fuel _ _ _ c.2) (h.2 i b)⟩
def FL (P:Program) (ops:Array Oper) (C:World→Prop) (o:Oper) (v:Value) (a:Act):Prop:=
 (Region.wanted o (yielded ops a.tmps)=true∧∀w,C w→(execOp a.eval o).run P w= .ok (.value v) w)∨
 (Region.wanted o (yielded ops a.tmps)=false∧v=undef)
theorem FL.of_same {o:Oper} {v:Value} {a b:Act} (e:FL P ops C o v a) (f:execOp b.eval o=execOp a.eval o)
  (c:Region.wanted o (yielded ops b.tmps)=Region.wanted o (yielded ops a.tmps)):FL P ops C o v b:=by
 unfold FL at*
 rw [f,c]
 exact e
theorem FL.wpOp {i:Nat} {o:Oper} {v:Value} {a:Act} (g:ops[i]? =some o) (f:FL P ops C o v a)
  {K:Act→World→Prop} {w:World} (c:C w) (h:K (a.put o.dst v) w):wpOp P ops Q i K a w:=by
 unfold Go.wpOp
 simp only [g]
 rcases f with ⟨b,e⟩|⟨b,rfl⟩
 ·simp only [b,if_true,Oper.wp,e w c,Oper.upon];exact .inl h
 ·simp only [b,Bool.false_eq_true,if_false];exact h
theorem Rk {j:Nat} {g l:Oper} {v:Value} (J:ops[j]? =some l) (z:g.apart ops l=true)
  (D:∀cs b,g.op≠ .select cs b) (t:∀cs b,l.op≠ .select cs b)
  (G:∀c a w,Q (.panic c) (a.put g.dst v) w→Q (.panic c) a w) {K:Act→World→Prop} {a:Act} {w:World}
  (m:FL P ops C g v a) (h:wpOp P ops Q j K (a.put g.dst v) w):
  wpOp P ops Q j (fun H y=>FL P ops C g v H∧K (H.put g.dst v) y) a w:=by
 obtain ⟨A,q,I⟩:=Oper.apart_spec z
 have keep:∀(a:Act),FL P ops C g v a→∀u,FL P ops C g v (a.put l.dst u):=fun a m u=>
  m.of_same (execOp_put g D a l.dst u I) (wanted_put g a l.dst u I)
 have o:∀d,FL P ops C g v {a with defers:=d::a.defers}:=fun d=>m.of_same rfl rfl
 unfold wpOp at*
 simp only [J] at*
 rw [wanted_put l a g.dst v A] at h
 split
 ·rename_i B
  simp only [B,if_true] at h
  rcases h with h|⟨k,p⟩
  case inr=>exact .inr ⟨by unfold Oper.asks at*;rw [execOp_put l t a g.dst v A] at k;exact k,p⟩
  refine .inl ?_
  unfold Oper.wp at*
  rw [execOp_put l t a g.dst v A] at h
  generalize (execOp a.eval l).run P w=r at*
  cases r with
  |ok n y=>
   cases n<;>simp only [Oper.upon] at h ⊢
   case value u=>exact ⟨keep a m u,by rw [← Act.put_comm a v u q];exact h⟩
   case skip=>exact ⟨keep a m _,by rw [← Act.put_comm a v undef q];exact h⟩
   case defer d=>
    refine ⟨keep _ (o d) _, ?_⟩
    rw [← Act.put_comm _ v undef q,← Act.put_defers]
    exact h
   case enter f args=>
    refine Calls.mono h fun e F s=> ?_
    cases e with
    |returned u=>exact ⟨keep a m u,by rw [← Act.put_comm a v u q];exact s⟩
    |panicked c=>exact G _ _ _ s
    |outgrown=>exact s
   case row row args=>exact Rows.mono h fun u F s=>⟨keep a m u,by rw [← Act.put_comm a v u q];exact s⟩
  |halt x y=>
   cases x<;>simp only [Oper.upon] at h ⊢
   case panic u=>exact G _ _ _ h
 ·rename_i B
  simp only [B] at h
  exact ⟨keep a m _,by rw [← Act.put_comm a v undef q];exact h⟩
theorem HA {i:Nat} {q:Oper} {v:Value} (J:ops[i]? =some q) (m:∀(j:Nat) (o:Oper) cs b,ops[j]? =some o→o.op≠ .select cs b)
  (R:∀c a w,Q (.panic c) (a.put q.dst v) w→Q (.panic c) a w):
  ∀(fuel:Nat) (listed:Array Bool) (a:Act) (w:World),C w→
   (∀j t,ops[j]? =some t→j≠i→listed.getD j true=false→(∀e ∈ t.after,Region.binds .any e=true→e.on≠i)→q.apart ops t=true)→
   i ∈ Region.ready .any ops listed→FL P ops C q v a→
   G4 P ops Q C fuel (listed.setIfInBounds i true) (a.put q.dst v) w→G4 P ops Q C (fuel+1) listed a w:=by
 intro fuel
 induction fuel with
 |zero=>
  intro listed a w u _ s z H
  refine ⟨fun h=>(by rw [h] at s;cases s),fun j B=> ?_⟩
  by_cases hji:j=i
  ·subst hji;exact z.wpOp J u ⟨u,H⟩
  ·have:=ready_mono B hji
   rw [H.1] at this
   cases this
 |succ fuel ih=>
  intro listed a w u f s z H
  refine ⟨fun h=>(by rw [h] at s;cases s),fun j B=> ?_⟩
  by_cases hji:j=i
  ·subst hji;exact z.wpOp J u ⟨u,H⟩
  ·have r:=H.2 j (ready_mono B hji)
   obtain ⟨l,t,p,hall⟩:=mem_ready.1 B
   have x:∀e ∈ t.after,Region.binds .any e=true→e.on≠i:=fun e V N G=>by
    have r:=hall e V N
    have K:=(mem_ready.1 s).1
    rw [G] at r
    rcases Nat.lt_or_ge i listed.size with I|I
    ·simp [I] at K r;rw [K] at r;cases r
    ·simp [Array.getElem?_eq_none I] at r
   have M:=Rk p (f j t p hji l x) (fun cs b=>m i q cs b J) (fun cs b=>m j t cs b p) R z r
   have g:∀k ok,ops[k]? =some ok→k≠i→(listed.setIfInBounds j true).getD k true=false→
     (∀e ∈ ok.after,Region.binds .any e=true→e.on≠i)→q.apart ops ok=true:=fun k ok S F y D=>by
    refine f k ok S F ?_ D
    by_cases hjk:j=k
    ·subst hjk;exact l
    ·rw [getD_set_ne true hjk] at y;exact y
   refine wpOp_mono (fun U L A=>⟨A.2.1,ih (listed.setIfInBounds j true) U L A.2.1 g (ready_mono s (Ne.symm hji)) A.1 ?_⟩) M
   rw [Array.setIfInBounds_comm _ _ hji]
   exact A.2.2
end
section
variable {P : Program} {Q : CH} {n : Nat} {E : CS} {w : World} {l0 : List Oper} {ty : TypeId} {pos : String} {af : Array Edge} {C : World → Prop}
def AZ (P:Program) (l0:List Oper) (Q:CH) (C:World→Prop) (n fuel:Nat) (listed:Array Bool) (E:CS) (w:World):Prop:=C w∧∀a,CK n E a→G4 P l0.toArray Q C fuel listed a w
theorem Dh {fuel:Nat} {listed:Array Bool} (C:World→Prop) (h:C w→AZ P l0 Q C n fuel listed E w) (c:C w):Aw P l0 Q n fuel listed E w:=fun a b=>Ll _ _ _ _ ((h c).2 a b)
theorem AZ.take {i d fuel:Nat} {op:Op} {v:Value} {listed:Array Bool} (p:AE Q) (g:ED l0 i=some ⟨some d,op,ty,pos,af,none⟩) (hs:Region.noSelect l0.toArray=true) (l:Region.free .any l0.toArray listed i=true)
  (o:(Region.ready .any l0.toArray listed).contains i=true) (h:∀w,C w→Ex P n E op ty w v) (j:Nat.blt d n=true) (k:AZ P l0 Q C n fuel (listed.setIfInBounds i true) ((d,v)::E) w):AZ P l0 Q C n (fuel+1) listed E w:=⟨k.1,fun a f=>
 HA (by rw [getElem?_toArray,DC];exact g) (Region.noSelect_spec hs) (fun c q e m=>p _ _ _ _ _ m) fuel listed a w k.1 (Region.free_spec (by rw [getElem?_toArray,DC];exact g) l) (by simpa using o)
  (.inl ⟨by simp [Region.wanted],fun e b=>h e b a f (some d) pos af none⟩) (k.2 _ (f.put v j))⟩
theorem Dt {i d j dj fuel:Nat} {op:Op} {v:Value} {g:Bool} {listed:Array Bool} (r:AE Q) (l:ED l0 i=some ⟨some d,op,ty,pos,af,some (j,g)⟩) (q:(ED l0 j).bind (·.dst)=some dj) (t:get E dj=some (.bool g)) (hs:Region.noSelect l0.toArray=true) (o:Region.free .any l0.toArray listed i=true)
  (s:(Region.ready .any l0.toArray listed).contains i=true) (h:∀w,C w→Ex P n E op ty w v) (m:Nat.blt d n=true) (k:AZ P l0 Q C n fuel (listed.setIfInBounds i true) ((d,v)::E) w):AZ P l0 Q C n (fuel+1) listed E w:=⟨k.1,fun a e=>
 HA (by rw [getElem?_toArray,DC];exact l) (Region.noSelect_spec hs) (fun c u f p=>r _ _ _ _ _ p) fuel listed a w k.1 (Region.free_spec (by rw [getElem?_toArray,DC];exact l) o) (by simpa using s)
  (.inl ⟨by simp [Region.wanted,FZ e q t],fun f b=>h f b a e (some d) pos af (some (j,g))⟩) (k.2 _ (e.put v m))⟩
theorem Db {i d j dj fuel:Nat} {op:Op} {g b:Bool} {listed:Array Bool} (q:AE Q) (f:ED l0 i=some ⟨some d,op,ty,pos,af,some (j,g)⟩) (p:(ED l0 j).bind (·.dst)=some dj) (s:get E dj=some (.bool b)) (o:(g==b)=false) (hs:Region.noSelect l0.toArray=true) (l:Region.free .any l0.toArray listed i=true)
  (r:(Region.ready .any l0.toArray listed).contains i=true) (h:Nat.blt d n=true) (k:AZ P l0 Q C n fuel (listed.setIfInBounds i true) ((d,undef)::E) w):AZ P l0 Q C n (fuel+1) listed E w:=⟨k.1,fun a e=>
 HA (by rw [getElem?_toArray,DC];exact f) (Region.noSelect_spec hs) (fun c u t m=>q _ _ _ _ _ m) fuel listed a w k.1 (Region.free_spec (by rw [getElem?_toArray,DC];exact f) l) (by simpa using r)
  (.inr ⟨by simp only [Region.wanted,FZ e p s];cases g<;>cases b<;>simp_all,rfl⟩) (k.2 _ (e.put undef h))⟩
theorem Fs {fuel:Nat} {listed:Array Bool} (d:Nat) {g:Bool} (j:get E d=some (.bool g)) (f:g=true→AZ P l0 Q C n fuel listed ((d, .bool true)::E) w) (k:g=false→AZ P l0 Q C n fuel listed ((d, .bool false)::E) w):AZ P l0 Q C n fuel listed E w:=by
 have key:∀b,g=b→AZ P l0 Q C n fuel listed ((d, .bool b)::E) w→AZ P l0 Q C n fuel listed E w:=fun b l h=>⟨h.1,fun a c=>h.2 a<|by
  subst l
  refine ⟨c.dfr,c.size,fun i u e=> ?_⟩
  by_cases hi:d=i
  ·subst hi;rw [CR] at e;exact c.has _ _ (j.trans e)
  ·rw [DZ _ _ hi] at e;exact c.has _ _ e⟩
 cases g with
 |true=>exact key true rfl (f rfl)
 |false=>exact key false rfl (k rfl)
theorem Cu {fuel:Nat} {listed:Array Bool} (e:C w) (c:Region.ready .any l0.toArray listed=[]) (h:Pw n E (Q .normal) w):AZ P l0 Q C n fuel listed E w:=⟨e,fun a b=>by
 cases fuel with
 |zero=>exact ⟨c,h a b⟩
 |succ f=>exact ⟨fun _=>h a b,by rw [c];simp⟩⟩
theorem AZ.all {fuel:Nat} {listed:Array Bool} (s:C w) (f:List Nat) (p:Region.ready .any l0.toArray listed=f) (j:f≠[])
  (h:∀i ∈ f,∀o,ED l0 i=some o→Lw P l0 (CX (fun c b=>C b∧G4 P l0.toArray Q C fuel (listed.setIfInBounds i true) c b) Q) n [o] E w):AZ P l0 Q C n (fuel+1) listed E w:=⟨s,fun a t=>
 ⟨fun y=>absurd (p ▸ y) j,fun i q=>by
  have k:i ∈ f:=p ▸ q
  obtain ⟨_,o,m,_⟩:=mem_ready.1 q
  have l:ED l0 i=some o:=by rw [← DC,← getElem?_toArray];exact m
  have e:=h i k o l a t
  unfold wpList at e
  unfold wpOp
  simp only [m]
  have u:wpList P l0.toArray (CX (fun c b=>C b∧G4 P l0.toArray Q C fuel (listed.setIfInBounds i true) c b) Q) []=fun c b=>C b∧G4 P l0.toArray Q C fuel (listed.setIfInBounds i true) c b:=by
   funext c b;rfl
  rw [u] at e
  split at e
  ·rename_i g
   rw [if_pos g]
   refine e.imp (fun h=> ?_) (fun h=>h)
   unfold Oper.wp at*
   generalize (execOp a.eval o).run P w=r at*
   cases r with
   |ok nx b=>cases nx<;>exact h
   |halt x b=>cases x<;>exact h
  ·rename_i g
   rw [if_neg g];exact e⟩⟩
theorem AZ.only {i fuel:Nat} {o:Oper} {listed:Array Bool} (c:C w) (k:Region.ready .any l0.toArray listed=[i]) (e:ED l0 i=some o)
  (h:Lw P l0 (CX (fun g b=>C b∧G4 P l0.toArray Q C fuel (listed.setIfInBounds i true) g b) Q) n [o] E w):AZ P l0 Q C n (fuel+1) listed E w:=
 AZ.all c [i] k (by simp) fun j f l a=>by
  obtain rfl:j=i:=by simpa using f
  obtain rfl:l=o:=Option.some.inj (a.symm.trans e)
  exact h
theorem AZ.two {i j fuel:Nat} {o q:Oper} {listed:Array Bool} (g:C w) (r:Region.ready .any l0.toArray listed=[i,j]) (l:ED l0 i=some o) (p:ED l0 j=some q)
  (h:Lw P l0 (CX (fun e a=>C a∧G4 P l0.toArray Q C fuel (listed.setIfInBounds i true) e a) Q) n [o] E w)
  (k:Lw P l0 (CX (fun e a=>C a∧G4 P l0.toArray Q C fuel (listed.setIfInBounds j true) e a) Q) n [q] E w):AZ P l0 Q C n (fuel+1) listed E w:=
 AZ.all g [i,j] r (by simp) fun m c f b=>by
  rcases List.mem_cons.1 c with rfl|c
  ·obtain rfl:f=o:=Option.some.inj (b.symm.trans l)
   exact h
  ·obtain rfl:m=j:=by simpa using c
   obtain rfl:f=q:=Option.some.inj (b.symm.trans p)
   exact k
theorem AZ.back {fuel:Nat} {listed:Array Bool} {e:List Oper} (h:AZ P l0 Q C n fuel listed E w):Lw P e (CX (fun f b=>C b∧G4 P l0.toArray Q C fuel listed f b) Q) n [] E w:=fun a c=>wpList_nil ⟨h.1,h.2 a c⟩
end
section
variable {P : Program} {n : Nat} {E : CS} {w : World}
def XN {St:Type} (n:Nat) (Ei:St→CS) (I:St→World→Prop):CH:=fun x a w=>x= .normal∧∃s,CK n (Ei s) a∧I s w
theorem Fi {St:Type} {c:Code} (e:St→CS) (I:St→World→Prop) {K:Act→World→Prop} {Q:CH} (h:Cw P (XN n e I) n c E w) (k:∀s b,I s b→Pw n (e s) K b):Cw P (CX K Q) n c E w:=fun a j=>
 Code.wp_mono (fun x l b f=>by
  obtain ⟨rfl,s,g,m⟩:=f
  exact k s b m l g) (h a j)
theorem Dq {St:Type} {a:St→CS} {I:St→World→Prop} (s:St) (hs:Rg E (a s)) (c:I s w):Pw n E (XN n a I .normal) w:=fun _ b=>⟨rfl,s,b.sub hs,c⟩
theorem Dy {St:Type} {a:St→CS} {I:St→World→Prop}:AE (XN n a I):=fun _ _ _ _ _ h=>by cases h.1
end
section
variable {P : Program} {Q : CH} {n : Nat} {E : CS} {w : World} {l0 : List Oper} {ty : TypeId} {pos : String} {af : Array Edge} {C : World → Prop} {i d fuel : Nat} {op : Op} {v : Value} {listed : Array Bool}
def AJ (P:Program) (l0:List Oper) (Q:CH) (C:World→Prop) (n fuel:Nat) (listed:Array Bool) (E:CS) (w:World):Prop:=AE Q→AZ P l0 Q C n fuel listed E w
theorem Cj (a:AE Q) (k:AJ P l0 Q C n fuel listed E w):AZ P l0 Q C n fuel listed E w:=k a
theorem Cb (k:AZ P l0 Q C n fuel listed E w):AJ P l0 Q C n fuel listed E w:=fun _=>k
theorem Ai (i : Nat) (f : ED l0 i = some ⟨some d, op, ty, pos, af, none⟩) (h : ∀ w, C w → Ex P n E op ty w v) (e : Nat.blt d n = true) (k : AJ P l0 Q C n fuel (listed.setIfInBounds i true) ((d, v) :: E) w)
    (hs:(Region.noSelect l0.toArray && Region.free .any l0.toArray listed i && (Region.ready .any l0.toArray listed).contains i)=true:=by kernel_rfl):AJ P l0 Q C n (fuel+1) listed E w:=fun c=>by
  have b:=(Bool.and_eq_true _ _).mp hs
  have a:=(Bool.and_eq_true _ _).mp b.1
  exact AZ.take c f a.1 a.2 b.2 h e (k c)
end
end Go.Dd

namespace Go.Dd
open Go Go.RowKit
open List hiding all
structure BY (S:Nat→Prop) (w w' :World):Prop where
 os:w'.os=w.os
 tape:w'.tape=w.tape
 output:w'.output=w.output
 size:w.heap.size≤w'.heap.size
 block:∀k,k<w.heap.size→¬S k→w'.heap[k]? =w.heap[k]?
namespace BY
variable {S T : Nat → Prop} {a b c : World}
theorem refl (S:Nat→Prop) (w:World):BY S w w:=⟨rfl,rfl,rfl,AX _,fun _ _ _=>rfl⟩
theorem trans (h:BY S a b) (k:BY S b c):BY S a c:=
 ⟨k.os.trans h.os,k.tape.trans h.tape,k.output.trans h.output,Nat.le_trans h.size k.size,fun i d hs=>(k.block i (Nat.lt_of_lt_of_le d h.size) hs).trans (h.block i d hs)⟩
theorem mono (h:BY S a b) (hs:∀k,S k→T k):BY T a b:=⟨h.os,h.tape,h.output,h.size,fun k d f=>h.block k d fun e=>f (hs k e)⟩
theorem below (h:BY S a b) (k:Below b.heap.size b c):BY S a c:=
 ⟨k.os.trans h.os,k.tape.trans h.tape,k.output.trans h.output,Nat.le_trans h.size k.size,fun i d hs=>(k.block i (Nat.lt_of_lt_of_le d h.size)).trans (h.block i d hs)⟩
theorem grown (h:BY S a b) {r:Option Nat} (k:b.grownBy c r) (g:∀n,r=some n→S n∨a.heap.size≤n):BY S a c:=
 ⟨k.os.trans h.os,k.tape.trans h.tape,k.output.trans h.output,Nat.le_trans h.size k.size,fun i f hs=>(k.block i (Nat.lt_of_lt_of_le f h.size) (fun e=>by
  rcases g i e.symm with d|d
  ·exact hs d
  ·omega)).trans (h.block i f hs)⟩
theorem of_below (h:Below a.heap.size a b):BY S a b:=(BY.refl S a).below h
theorem to_below {B:Nat} (h:BY S a b) (d:∀k,S k→B≤k) (g:B≤a.heap.size):Below B a b:=
 ⟨h.os,h.tape,h.output,h.size,fun k f=>h.block k (by omega) fun e=>by have:=d k e;omega⟩
end BY
theorem AO.chg {S:Nat→Prop} {w d:World} {b:Nat} {T:TypeId} {cs:List Value} (h:AO w b T cs) (g:BY S w d) (f:¬S b):AO d b T cs:=h.keep (g.block b (AH h) f)
theorem AV {S:Nat→Prop} {w i:World} {base:Nat} {e:TypeId} {sz:Nat} {v:Value} {n:Nat} {xs:List Value} (h:w.ownsRow base e sz v n xs) (g:BY S w i) (l:∀b,v.ownBlock=some b→¬S b):i.ownsRow base e sz v n xs:=by
 obtain ⟨j,f⟩:=h
 rcases f with f|⟨b,cap,d,rfl,o,k,m⟩
 ·exact ⟨j, .inl f⟩
 ·exact ⟨j, .inr ⟨b,cap,d,rfl,o,(g.block b (Array.getElem?_eq_some_iff.1 k).1 (l b rfl)).trans k,m⟩⟩
theorem BM.chg {S:Nat→Prop} {w d:World} {base:Nat} {e:TypeId} {sz:Nat} {v:Value} {n:Nat} {xs:List Value} (h:BM w base e sz v n xs) (g:BY S w d) (f:∀b,v.ownBlock=some b→¬S b):BM d base e sz v n xs:=
 h.heap fun b e=>g.block b (h.lt b e).2 (f b e)
theorem Sl.chg {S:Nat→Prop} {w d:World} {sz:Nat} {v:Value} {n:Nat} {xs:List Value} (h:Sl w sz v n xs) (g:BY S w d) (i:∀b,v.ownBlock=some b→b<w.heap.size→¬S b):Sl d sz v n xs:=
 h.keep fun b f e=>g.block b f (i b e f)
theorem EB (k:IntKind) (m:Int):(Value.int k m).oneCell' =true:=rfl
structure Hd where
 v:Value
 k:Nat
 xs:List Value
 n:Int
 g:Value
def Hd.cells (h:Hd):List Value:=[h.v,h.g, .int .i64 h.n]
def BF:List Hd→List Value
 |[]=>[]
 |h::hs=>h.v::h.g:: .int .i64 h.n::BF hs
theorem Gp:∀hs:List Hd,(BF hs).length=hs.length*3
 |[]=>rfl
 |h::hs=>by simp [BF,Gp hs];omega
theorem Ha:∀(a b:List Hd),BF (a++b)=BF a++BF b
 |[],_=>rfl
 |h::a,b=>by simp [BF,Ha a b]
theorem MQ:∀{hs:List Hd} {j:Nat} (h:j<hs.length),(BF hs)[j*3]? =some hs[j].v∧(BF hs)[j*3+1]? =some hs[j].g∧(BF hs)[j*3+2]? =some (.int .i64 hs[j].n)
 |t::ts,0,_=>by simp [BF]
 |t::ts,j+1,h=>by
  have:=MQ (hs:=ts) (j:=j) (by simpa using h)
  rw [Nat.succ_mul]
  simpa [BF] using this
theorem Gn:∀{hs:List Hd} {j:Nat} (h:j<hs.length) (g:Value),(BF hs).set (j*3+1) g=BF (hs.set j {hs[j] with g:=g})
 |t::ts,0,_,g=>by simp [BF]
 |t::ts,j+1,h,g=>by
  have:=Gn (hs:=ts) (j:=j) (by simpa using h) g
  rw [Nat.succ_mul,show j*3+3+1=(j*3+1)+3 by omega]
  simp [BF,this]
theorem BV {hs:List Hd} {j:Nat} (h:j<hs.length):∀i,i<3→∃q,hs[j].cells[i]? =some q∧(BF hs)[j*3+i]? =some q:=fun i k=>by
 obtain ⟨f,d,g⟩:=MQ h
 rcases (show i=0∨i=1∨i=2 by omega) with rfl|rfl|rfl
 ·exact ⟨_,rfl,f⟩
 ·exact ⟨_,rfl,d⟩
 ·exact ⟨_,rfl,g⟩
def BL (hs:List Hd):Nat→Prop:=fun b=>∃h ∈ hs,h.v.ownBlock=some b
structure KOk (hs:List Hd):Prop where
 num:∀h ∈ hs,0≤h.n∧h.n≤4000000
 few:∀h ∈ hs,h.k≤16777216
 apart:hs.Pairwise fun a b=>JX a.v b.v
 new:∀h ∈ hs,h.g= .slice none 0 0
structure FJ (w:World) (base:Nat) (E:TypeId) (sz:Nat) (hs:List Hd):Prop extends KOk hs where
 own:∀h ∈ hs,BM w base E sz h.v h.k h.xs
theorem FJ.nil (w:World) (base:Nat) (E:TypeId) (sz:Nat):FJ w base E sz []:=⟨⟨by simp,by simp,List.Pairwise.nil,by simp⟩,by simp⟩
theorem FJ.blk {w:World} {base:Nat} {E:TypeId} {sz:Nat} {hs:List Hd} (h:FJ w base E sz hs) {b:Nat} (f:BL hs b):base≤b∧b<w.heap.size:=by
 obtain ⟨x,d,e⟩:=f
 exact (h.own x d).lt b e
theorem FJ.chg {w d:World} {base:Nat} {E:TypeId} {sz:Nat} {hs:List Hd} {S:Nat→Prop} (h:FJ w base E sz hs) (g:BY S w d) (i:∀b,BL hs b→¬S b):FJ d base E sz hs:=
 ⟨h.toKOk,fun x f=>(h.own x f).chg g fun b e=>i b ⟨x,f,e⟩⟩
theorem FJ.bs {w d:World} {base:Nat} {E:TypeId} {sz:Nat} {hs:List Hd} (h:FJ w base E sz hs) (g:Below w.heap.size w d):FJ d base E sz hs:=
 ⟨h.toKOk,fun x f=>(h.own x f).bs g⟩
theorem BX {hs:List Hd} (h:hs.Pairwise fun a b=>JX a.v b.v) {i j:Nat} (l:i<hs.length) (k:j<hs.length) (g:i≠j):JX hs[i].v hs[j].v:=by
 rcases Nat.lt_or_gt_of_ne g with f|d
 ·exact List.pairwise_iff_getElem.1 h i j l k f
 ·exact (List.pairwise_iff_getElem.1 h j i k l d).symm
def CA (mk:Int→Value) (k:Nat) (n:Int):List Value:=replicate k (mk n)
theorem GO {mk:Int→Value} {k:Nat} {n:Int} {i:Nat} (h:i<k):(CA mk k n)[i]? =some (mk n):=by simp [CA,h]
theorem Jm {mk:Int→Value} {k:Nat} {n:Int} {xs:List Value} {i:Nat} (h:xs.length=k) (g:i<k):(CA mk i n++xs.drop i).set i (mk n)=CA mk (i+1) n++xs.drop (i+1):=by
 have f:(CA mk i n).length=i:=by simp [CA]
 have d:i<xs.length:=by omega
 rw [set_append_right _ _ (by omega),f,Nat.sub_self,drop_eq_getElem_cons d,set_cons_zero,CA,CA,replicate_succ',append_assoc]
 rfl
theorem Kt {mk:Int→Value} {k:Nat} {n:Int} {xs:List Value} {i:Nat} (d:xs.length=k) (f:i≤k):(CA mk i n++xs.drop i).length=k:=by simp [CA,d];omega
theorem Jn {mk:Int→Value} {k:Nat} {n:Int}:CA mk k n++[mk n]=CA mk (k+1) n:=by simp [CA,replicate_succ']
def He (w:World) (base:Nat) (E:TypeId) (mk:Int→Value) (hs:List Hd):Prop:=∀h ∈ hs,BM w base E 1 h.v h.k (CA mk h.k h.n)
theorem He.chg {w d:World} {base:Nat} {E:TypeId} {mk:Int→Value} {hs:List Hd} {S:Nat→Prop} (h:He w base E mk hs) (g:BY S w d) (i:∀b,BL hs b→¬S b):He d base E mk hs:=
 fun x f=>(h x f).chg g fun b e=>i b ⟨x,f,e⟩
theorem He.blk {w:World} {base:Nat} {E:TypeId} {mk:Int→Value} {hs:List Hd} (h:He w base E mk hs) {b:Nat} (f:BL hs b):base≤b∧b<w.heap.size:=by
 obtain ⟨x,d,e⟩:=f
 exact (h x d).lt b e
structure EE (w:World) (mk:Int→Value) (h:Hd):Prop where
 l:Sl w 1 h.v h.k (CA mk h.k h.n)
 g:Sl w 1 h.g (h.k+40) (CA mk (h.k+40) h.n)
theorem EE.chg {w d:World} {mk:Int→Value} {h:Hd} {S:Nat→Prop} (t:EE w mk h) (g:BY S w d) (f:∀b,h.v.ownBlock=some b→b<w.heap.size→¬S b) (i:∀b,h.g.ownBlock=some b→b<w.heap.size→¬S b):EE d mk h:=⟨t.l.chg g f,t.g.chg g i⟩
structure EA (w:World) (hs ts:List Hd):Prop where
 len:ts.length=hs.length
 all:∀j (h:j<hs.length) (h' :j<ts.length),ts[j].v=hs[j].v∧ts[j].k=hs[j].k∧ts[j].n=hs[j].n∧∀b,ts[j].g.ownBlock=some b→hs[j].v.ownBlock=some b∨w.heap.size≤b
theorem Ep (w:World) {hs:List Hd} (h:∀t ∈ hs,t.g= .slice none 0 0):EA w hs hs:=
 ⟨rfl,fun j d _=>⟨rfl,rfl,rfl,fun b e=>by rw [h _ (getElem_mem d)] at e;cases e⟩⟩
theorem EA.set {w:World} {hs ts:List Hd} {i:Nat} {g:Value} (h:EA w hs ts) (q:i<hs.length) (f:i<ts.length) (p:∀b,g.ownBlock=some b→hs[i].v.ownBlock=some b∨w.heap.size≤b):EA w hs (ts.set i {ts[i] with g:=g}):=by
 refine ⟨by rw [length_set];exact h.len,fun j k d=> ?_⟩
 rw [getElem_set]
 split
 ·rename_i e
  subst e
  obtain ⟨m,l,o,_⟩:=h.all i q f
  exact ⟨m,l,o,p⟩
 ·exact h.all j k (by simpa using d)
theorem EA.nums {w:World} {hs ts:List Hd} (h:EA w hs ts) (f:KOk hs):∀t ∈ ts,(0≤t.n∧t.n≤4000000)∧t.k≤16777216:=fun t k=>by
 obtain ⟨j,g,rfl⟩:=List.mem_iff_getElem.1 k
 have d:j<hs.length:=by rw [← h.len];exact g
 obtain ⟨_,i,l,_⟩:=h.all j d g
 rw [i,l]
 exact ⟨f.num _ (getElem_mem d),f.few _ (getElem_mem d)⟩
theorem EA.tall {m i o:World} {hs ts:List Hd} {mk:Int→Value} {S:Nat→Prop} (h:EA m hs ts) (r:∀t ∈ ts,EE i mk t) (c:BY S i o) (l:∀b,BL hs b→¬S b) (p:∀b,m.heap.size≤b→¬S b):∀t ∈ ts,EE o mk t:=fun t g=>by
 obtain ⟨j,k,rfl⟩:=List.mem_iff_getElem.1 g
 have d:j<hs.length:=by rw [← h.len];exact k
 obtain ⟨e1,_,_,q⟩:=h.all j d k
 refine (r _ g).chg c (fun b e _=>l b ⟨_,getElem_mem d,by rw [← e1];exact e⟩) fun b e _=> ?_
 rcases q b e with f|f
 ·exact l b ⟨_,getElem_mem d,f⟩
 ·exact p b f
theorem EE.bs {w d:World} {mk:Int→Value} {h:Hd} (t:EE w mk h) (g:Below w.heap.size w d):EE d mk h:=⟨t.l.bs g,t.g.bs g⟩
theorem Im {w:World} {base:Nat} {E:TypeId} {sz n:Nat} {v:Value} {xs:List Value} (h:w.ownsRow base E sz v n xs) (g:0<n):∃ad c k,v= .slice (some ad) c k:=by
 rcases h.2 with ⟨_,f⟩|⟨b,cap,d,rfl,_⟩
 ·omega
 ·exact ⟨_,_,_,rfl⟩
theorem Js {W q r:World} {base:Nat} {E:TypeId} {v g G:Value} {k m:Nat} {xs N:List Value} (C:BM W base E 1 v k xs) (s:BM r base E 1 G m N) (R:q.grownBy r g.ownBlock)
  (i:G.ownBlock=g.ownBlock∨((∀b,G.ownBlock=some b→q.heap.size≤b)∧Below q.heap.size q r)) (L:Sl q 1 v k xs) (_hm:k≤m) (H:N.take k=xs):Sl r 1 v k xs:=by
 rcases i with e|⟨_,Q⟩
 ·obtain ⟨I,B,cap,rfl,D,A,J,U⟩:=L
  cases B with
  |none=>exact ⟨I,none,cap,rfl,D,A,J,fun a K=>by cases K⟩
  |some ad=>
   have o:ad=⟨ad.block,0,none⟩:=by
    rcases C with C|⟨V,p,d,_⟩
    ·rcases C.2 with ⟨d,_⟩|⟨b,l,p,d,_⟩
     ·cases d
     ·cases d;rfl
    ·cases d;rfl
   by_cases hgo:g.ownBlock=some ad.block
   ·rw [hgo] at e
    obtain ⟨_,B,l,f,_,_,_,X⟩:=s.sl
    have F:B=some ad:=by
     rcases s with s|⟨V,p,d,_⟩
     ·rcases s.2 with ⟨d,_⟩|⟨Y,M,_,d,_⟩
      ·rw [d] at e;cases e
      ·rw [d] at f e
       cases f
       simp only [Value.ownBlock,Option.some.injEq] at e
       rw [o,e]
     ·rw [d] at f e
      cases f
      simp only [Value.ownBlock,Option.some.injEq] at e
      rw [o,e]
    refine ⟨I,some ad,cap,rfl,D,A,J,fun a K j u z=>X a (by rw [F];exact K) j u ?_⟩
    rw [← H,getElem?_take] at z
    split at z
    ·exact z
    ·cases z
   ·exact Sl.by ⟨I,some ad,cap,rfl,D,A,J,U⟩ R (.inr fun h=>hgo h.symm)
 ·exact L.bs Q
section
variable {P : Program} {n : Nat} {E : CS} {w : World} {ty t e : TypeId} {x y : Operand} {v u : Value} {sz base : Nat}
theorem NK {w M:World} {base:Nat} {t ty e:TypeId} {i:TypeInfo} {z:Value} {size p:Nat} (F:P.underlying t=some (.slice e)) (G:P.info? e=some i) (N:i.zero=some z)
  (q:i.size=size) (J:i.bytes=p) (W:0<size) {v v' :Value} {n:Nat} {xs:List Value} (o:w.ownsRow base e size v n xs)
  {a:Addr} {m c:Nat} {d:List Value} (C:d.length=m*size) (h:∀j u,d[j]? =some u→w.cell? (a.add j)=some u) (V:∀u ∈ d,u.oneCell' =true)
  (I:n+m≤maxLen) (l:(n+m)*p≤140737488355328) (f:(Builtin.append_ #[t,t] ty #[v, .slice (some a) m c]).run P w= .ok v' M):
  v'.ownBlock=v.ownBlock∨((∀b,v'.ownBlock=some b→w.heap.size≤b)∧Below w.heap.size w M):=by
 subst q
 subst J
 have D:n+m≤9223372036854775807:=by simp only [maxLen] at I;omega
 rcases o.2 with ⟨rfl,rfl⟩|⟨g,cap,A,rfl,X,U,Y,Q,L,K⟩
 ·by_cases hm:m=0
  ·subst hm
   obtain rfl:d=[]:=eq_nil_of_length_eq_zero (by simpa using C)
   have s:(Builtin.append_ #[t,t] ty #[.slice none 0 0, .slice (some a) 0 c]).run P w= .ok (.slice none 0 0) w:=by
    simp [Builtin.append_,run_underlying F,sizeOf,typeInfo,G,Builtin.lenOf,Builtin.firstCells,loadCells,loadCellsFrom]
   rw [s] at f
   cases f
   exact .inl rfl
  ·have s:=run_append_nil (P:=P) w t ty e i z F G N a m c d C h (by omega) (by omega) (by have R:=l;simp only [Nat.zero_add] at R;omega)
   rw [s] at f
   cases f
   exact .inr ⟨(fun b e=>by cases e;exact AX _),⟨rfl,rfl,rfl,by simp,fun k H=>heap_alloc_old w.drew _ H⟩⟩
 ·by_cases hroom:n+m≤cap
  ·have B:n*i.size+d.length≤A.size:=by rw [C,L,← Nat.add_mul];exact Nat.mul_le_mul_right _ hroom
   have s:=run_append_room (P:=P) w t ty e i F G g n cap A U a m c d C h V hroom B
   rw [s] at f
   cases f
   exact .inl rfl
  ·have r:∀j u,xs[j]? =some u→w.cell? ((⟨g,0,none⟩:Addr).add j)=some u:=o.cells (g:=g) rfl
   have s:=run_append_grow (P:=P) w t ty e i z F G N ⟨g,0,none⟩ n cap xs o.1 r a m c d C h (by omega) (by omega) (growslice_fits (by omega) l)
   rw [s] at f
   cases f
   exact .inr ⟨(fun b e=>by cases e;exact AX _),⟨rfl,rfl,rfl,by simp,fun k H=>heap_alloc_old w.drew _ H⟩⟩
theorem Eb {k m:Nat} {xs d:List Value} {f:Nat} {q:List Value} (s:GM P t e sz) (hi:HP P e q f) (G:q.length=sz) (M:0<sz) (R:ev E x=some v) (N:ev E y=some u)
  (g:w.ownsRow base e sz v k xs) (A:Sl w sz u m d) (z:d.all (·.oneCell')=true) (j:(k+m)*f≤140737488355328) (hm:k+m≤9223372036854775807) (l:base≤w.heap.size):
  Xw P n E (.call {callee:= .builtin .append,args:= #[x,y],argTypes:= #[t,t]}) ty w (fun v' p=>p.ownsRow base e sz v' (k+m) (xs++d)∧w.grownBy p v.ownBlock∧(v'.ownBlock=v.ownBlock∨((∀b,v'.ownBlock=some b→w.heap.size≤b)∧Below w.heap.size w p))):=fun a C=>by
 subst G
 obtain ⟨i,D,K,Q,zv,L,X⟩:=hi.i
 obtain ⟨H,W,cap,rfl,hc1,Z,J,r⟩:=A
 have I:zv.cells.size=q.length:=by rw [X];simp
 cases W with
 |none=>
  have U:=J rfl
  have F:m=0:=by omega
  subst F
  obtain rfl:d=[]:=eq_nil_of_length_eq_zero (by simpa using H)
  subst U
  have B:=run_append_owned_none (P:=P) w base t ty e i q.length s.u D v k xs g
  refine ⟨v,w,fun _ _ _ _=>by simp [execOp,resolve,invoke,builtin,C.ev R,C.ev N,B],by simpa using g,Jr _ _, .inl rfl⟩
 |some ad=>
  have o:k+m≤maxLen:=by unfold maxLen;omega
  have h:∀u ∈ d,u.oneCell' =true:=fun u s=>List.all_eq_true.1 z u s
  obtain ⟨v',p,B,Y,V,g3⟩:=run_append_own (P:=P) w base t ty e i zv q.length f s.u D L K Q I M v k xs g ad m cap d H (r ad rfl) h o j l
  exact ⟨v',p,fun _ _ _ _=>by simp [execOp,resolve,invoke,builtin,C.ev R,C.ev N,B],Y,V,NK s.u D L K Q M g H (r ad rfl) h o j B⟩
theorem Eo {k m:Nat} {xs h:List Value} {d:Nat} {A:List Value} (N:GM P t e sz) (Q:HP P e A d) (r:A.length=sz) (L:0<sz) (R:ev E x=some v) (M:ev E y=some u)
  (f:BM w base e sz v k xs) (p:Sl w sz u m h) (s:h.all (·.oneCell')=true) (l:(k+m)*d≤140737488355328) (hm:k+m≤9223372036854775807) (j:base≤w.heap.size) (Y:1≤m):
  Xw P n E (.call {callee:= .builtin .append,args:= #[x,y],argTypes:= #[t,t]}) ty w (fun v' q=>q.ownsRow base e sz v' (k+m) (xs++h)∧w.grownBy q v.ownBlock∧(v'.ownBlock=v.ownBlock∨((∀b,v'.ownBlock=some b→w.heap.size≤b)∧Below w.heap.size w q))):=fun a G=>by
 have C:=f.sl
 rcases f with f|⟨g,Z,rfl,h0,hb,h1,h2,h3⟩
 ·exact Eb N Q r L R M f p s l hm j a G
 ·subst r
  obtain ⟨i,i1,U,i3,zv,i4,X⟩:=Q.i
  obtain ⟨hl,W,cap,rfl,hc1,hc2,I,D⟩:=p
  have F:zv.cells.size=A.length:=by rw [X];simp
  cases W with
  |none=>have:=I rfl;omega
  |some ad=>
   obtain ⟨_,ao',K,B,_,_,_,H⟩:=C
   cases B
   obtain ⟨v',q,hr,J,z⟩:=run_append_arg_grows (P:=P) w t ty e i zv A.length d N.u i1 i4 U i3 F L ⟨g,0,none⟩ k k xs (by rw [h3,length_take];omega) (H _ rfl) ad m cap h hl (D ad rfl) (by omega) (by unfold maxLen;omega) l
   have o:Below w.heap.size w q:=⟨z.os,z.tape,z.output,z.size,fun k V=>z.block k V (by simp)⟩
   exact ⟨v',q,fun _ _ _ _=>by simp [execOp,resolve,invoke,builtin,G.ev R,G.ev M,hr],BH J j,DQ o _, .inr ⟨fun b e=>(AG J b e).1,o⟩⟩
theorem Ge {c j:Nat} {T:TypeId} {xs:List Value} (i:(sizeOf e).run P w= .ok 1 w) (z:ev E x=some (CI v j)) (q:ev E y=some u) (d:u.oneCell' =true) (h:BM w base T sz v c xs) (s:j<xs.length):
  Xu P n E (.store e x y) ty w (fun f=>BM f base T sz v c (xs.set j u)∧w.grownBy f v.ownBlock∧f.heap.size=w.heap.size):=fun a r=>by
 rcases h with h|⟨g,A,rfl,D,F,C,B,rfl⟩
 ·obtain ⟨f,o,p,l,m⟩:=D3 i z q d h s a r
  exact ⟨f,o, .inl p,l,m⟩
 ·have k:ev E x=some (.pointer (some ⟨g,j,none⟩)):=by simpa [CI,add_lit] using z
  rw [length_take] at s
  obtain ⟨f,o,p,l,m⟩:=Dj (P:=P) (ty:=ty) i k q d F (by omega) a r
  exact ⟨f,o, .inr ⟨g,_,rfl,D,p,by simpa using C,B,by rw [take_set]⟩,l,m⟩
end
end Go.Dd

namespace Go.Dd.Crc
end Go.Dd.Crc

namespace Go.Dd
open Go Go.RowKit List
def Zp (a b c d:BitVec 8):BitVec 32:=a.setWidth 32|||b.setWidth 32<<<8|||c.setWidth 32<<<16|||d.setWidth 32<<<24
theorem OP {α:Type} {ps:List (Value×List α)} {i:Nat} (h:i<ps.length):((ps.take (i+1)).map (·.2)).flatten=((ps.take i).map (·.2)).flatten++(ps.getD i default).2:=by
 rw [take_succ_eq_append_getElem h,map_append,flatten_append]
 congr 1
 simp [h]
theorem Ue {α:Type} {ps:List (Value×List α)} (i:Nat):((ps.take i).map (·.2)).flatten.length≤(ps.map (·.2)).flatten.length:=by
 have h:ps.map (·.2)=(ps.take i).map (·.2)++(ps.drop i).map (·.2):=by rw [← map_append,take_append_drop]
 rw [h,flatten_append,length_append]
 omega
theorem EU {α:Type} [Inhabited α] {l:List α} {i:Nat} (h:i<l.length):l.getD i default ∈ l:=by
 simp [h]
theorem Oi {α:Type} {enc:α→Value} {z:α}:∀(n:Nat),(replicate n [enc z]).flatten=(replicate n z).map enc
 |0=>rfl
 |n+1=>by rw [replicate_succ,replicate_succ,flatten_cons,Oi n];rfl
theorem NF {v:Value} {sz i j b:Nat} (h:(cut v sz i j).ownBlock=some b):v.ownBlock=some b:=by
 unfold cut at h
 split at h
 ·rename_i c k cap
  cases c with
  |none=>split at h<;>cases h
  |some a=>
   split at h
   ·exact h
   ·simp only [Value.ownBlock,Option.map_some,Option.some.injEq,K0] at h ⊢
    exact h
 ·cases h
section
variable {P : Program} {Q : CH} {n : Nat} {E : CS} {w : World} {l0 rest : List Oper} {ty : TypeId} {pos : String} {af : Array Edge}
variable {x y z : Operand} {v u : Value} {t s e : TypeId} {sz : Nat} {p q : BitVec 32}
theorem Fy (a:GM P t e sz) (b:ev E x=some (.slice none 0 0)):Ex P n E (.call {callee:= .builtin .cap,args:= #[x],argTypes:= #[t]}) ty w (.int .i64 0):=Fg a b
theorem Xw.grow0 {k b:Nat} {B kn:IntKind} {tn:TypeId} {d:List Value} (J:GM P t e sz) (L:HP P e d b) (l:d.length=sz) (S:0<sz) (j:P.underlying tn=some (.int kn)) (M:ev E x=some (.slice none 0 0)) (I:ev E y=some (.int B (k:Int))) (C:0<k) (R:k*b≤140737488355328) (T:k≤4611686018427387904):
  Xw P n E (.call {callee:= .builtin .append,args:= #[x,y],argTypes:= #[t,tn]}) ty w (fun v r=>∃cap xs,v= .slice (some ⟨w.heap.size,0,none⟩) k cap∧r.ownsRow w.heap.size e sz v k xs∧Below w.heap.size w r):=fun a A=>by
 subst l
 obtain ⟨i,G,N,K,zv,F,H⟩:=L.i
 subst K
 have g:=Lib.run_append_nil_zeros (P:=P) w t tn ty e i zv B kn J.u j G F k C (by omega) (by omega) (by omega)
 have f:=grownCap_ge w k 0 e
 have h:=grownCap_le_maxLen w k 0 e (by unfold maxLen;omega)
 have o:zv.cells.size=d.length:=by rw [H];simp
 have c:∀m,(Builtin.zeroCells zv.cells m).size=m*d.length:=fun m=>by simp [Builtin.zeroCells,o]
 refine ⟨_,_,fun _ _ _ _=>by simp [execOp,resolve,invoke,builtin,A.ev M,A.ev I,g],grownCap w k 0 e,((Builtin.zeroCells zv.cells k++Builtin.zeroCells zv.cells (grownCap w k 0 e - k)).toList.take (k*d.length)),rfl,⟨?_, .inr ⟨w.heap.size,_,_,rfl,AX _,heap_alloc_new w.drew _,f,h, ?_,rfl⟩⟩, ?_⟩
 ·simp only [length_take,Array.length_toList,Array.size_append,c];omega
 ·simp only [Array.size_append,c];rw [← Nat.add_mul];congr 1;omega
 ·exact ⟨rfl,rfl,rfl,by simp,fun k D=>heap_alloc_old w.drew _ D⟩
end
end Go.Dd

namespace Go.Dd
open Go Go.RowKit
open List hiding get
def rnd (ro:Option Nat):Fence:={Fence.wide with round:=ro}
theorem I0 {ro:Option Nat} {n:Nat} {P:Program} {f:FuncId} {args:Array Value} {w:World} {R:Ending→World→Prop}:CallsIn (rnd ro) n P f args w R↔Calls P f args w R:=
 (callsIn_wide (n:=n) (P:=P) (f:=f) (args:=args) (w:=w) (R:=R))
theorem Pu {ro:Option Nat} {n:Nat} {P:Program} {row:String} {args:Array Value} {w:World} {R:Value→World→Prop} (h:Rows P row args w R):RowsIn (rnd ro) n P row args w R:=
 fun c cs _=>let ⟨v,a,r,s⟩:=h c cs;⟨v,a,r,(stepsIn_wide (P:=P)).2 s⟩
def H7 (D:List Deferred) (Q:CH):CH:=fun e a w=>match e with
 | .outgrown=>False
 |e=>Q e {a with defers:=a.defers++D} w
theorem KS {D:List Deferred} {Q:CH}:¬LetsOut (H7 D Q):=fun ⟨_,_,h⟩=>h
theorem GI (a:Act) (D:List Deferred) (d:Option Tmp) (v:Value):({a with defers:=a.defers++D}:Act).put d v={a.put d v with defers:=(a.put d v).defers++D}:=by
 cases d<;>rfl
theorem F8 {D:List Deferred} {Q:CH} (h:AE Q):AE (H7 D Q):=fun c a w o v b=>h c _ w o v (by
 rw [GI];exact b)
theorem Mb (a:Act) (D:List Deferred):({a with defers:=D}:Act).eval=a.eval:=by
 funext x;cases x<;>rfl
def HJ (o:Oper):Bool:=match o.op with
 | .defer _=>true
 |_=>false
def FK (l:List Oper):Bool:=l.all fun o=> !HJ o
theorem PK {o:Oper} (h:HJ o=false):∀c,o.op≠ .defer c:=fun c e=>by simp [HJ,e] at h
theorem M3 {ro:Option Nat} {o:Oper} (h:HJ o=false) (ρ:Operand→Value):o.semAt ro ρ=execOp ρ o:=by
 cases ro with
 |none=>exact Oper.semAt_none ρ o
 |some l=>exact Oper.semAt_some l ρ o (PK h)
section
variable {P : Program} {Q : CH} {ro : Option Nat} {D : List Deferred} {m : Nat}
theorem P2 {Q0:CH} {o:Oper} {a:Act} {w:World} {K b:Act→World→Prop} (q:∀c a w,Q0 (.panic c) a w→Q (.panic c) a w) (t:HJ o=false) (k:∀a w,K a w→b {a with defers:=a.defers++D} w) (h:o.wp P a w K (H7 D Q0)):
  o.wpIn (rnd ro) m P {a with defers:=a.defers++D} w b Q:=by
 refine ⟨fun _ _=>trivial, ?_⟩
 rw [show (rnd ro).round=ro from rfl,M3 t,Mb]
 unfold Oper.wp at h
 generalize (execOp a.eval o).run P w=r at h
 cases r with
 |ok nx w' =>
  cases nx with
  |value v=>show b _ _;rw [GI];exact k _ _ h
  |skip=>show b _ _;rw [GI];exact k _ _ h
  |«defer» d=>
   have j:K (({a with defers:=d::a.defers}:Act).put o.dst undef) w' :=h
   have s:=k _ _ j
   show b (({tmps:=a.tmps,defers:=d::(a.defers++D)}:Act).put o.dst undef) w'
   rw [← GI] at s
   exact s
  |enter f args=>
   refine ⟨fun h=>by simp [rnd,Fence.wide] at h,I0.2 ?_⟩
   have j:Calls P f args w' _:=h
   refine j.mono fun e p i=> ?_
   cases e with
   |returned v=>show b _ _;rw [GI];exact k _ _ i
   |panicked chain=>exact q _ _ _ i
   |outgrown=>exact absurd i KS
  |row row args=>
   refine ⟨fun h=>by simp [rnd,Fence.wide] at h,Pu ?_⟩
   have j:Rows P row args w' _:=h
   refine j.mono fun v p i=> ?_
   show b _ _;rw [GI];exact k _ _ i
  |_=>exact h.elim
 |halt x w' =>
  cases x with
  |panic v=>exact q _ _ _ h
  |_=>exact h.elim
theorem LF {ops:Array Oper} {K:Act→World→Prop} {l2:List Oper} (d:∀(a:Act) (w:World),K {a with defers:=a.defers++D} w→wpListIn (rnd ro) m P ops Q l2 {a with defers:=a.defers++D} w):
  ∀(l:List Oper) (a:Act) (w:World),FK l=true→wpList P ops (H7 D (CX K Q)) l a w→wpListIn (rnd ro) m P ops Q (l++l2) {a with defers:=a.defers++D} w
 |[],a,w,_,h=>d a w h
 |o::l,a,w,hd,h=>by
  simp only [FK,all_cons,Bool.and_eq_true,Bool.not_eq_true'] at hd
  have c:∀a w,wpList P ops (H7 D (CX K Q)) l a w→wpListIn (rnd ro) m P ops Q (l++l2) {a with defers:=a.defers++D} w:=fun a w h=>LF d l a w hd.2 h
  unfold wpList at h
  show wpListIn (rnd ro) m P ops Q (o::(l++l2)) {a with defers:=a.defers++D} w
  unfold wpListIn
  split at h
  ·rename_i b
   rw [if_pos b]
   rcases h with h|⟨_,h⟩
   ·exact P2 (fun _ _ _ h=>h) hd.1 c h
   ·exact absurd h KS
  ·rename_i b
   rw [if_neg b]
   refine ⟨fun _ _=>trivial, ?_⟩
   rw [GI]
   exact c _ _ h
theorem QK {ops:Array Oper} (f:FK ops.toList=true):∀(l:List Nat) (a:Act) (w:World),wpOps P ops (H7 D Q) l a w→wpOpsIn (rnd ro) m P ops Q l {a with defers:=a.defers++D} w
 |[],a,w,h=>h
 |i::l,a,w,h=>by
  have d:=QK f l
  unfold wpOps at h
  unfold wpOpsIn
  cases ho:ops[i]? with
  |none=>simp only [ho] at h ⊢;exact d _ _ h
  |some o=>
   simp only [ho] at h ⊢
   have e:HJ o=false:=by
    have k:=List.all_eq_true.1 f o (by obtain ⟨c,j⟩:=Array.getElem?_eq_some_iff.1 ho;rw [← j];exact Array.getElem_mem_toList c)
    simpa using k
   split at h
   ·rename_i b
    rw [if_pos b]
    rcases h with h|⟨_,h⟩
    ·exact P2 (fun _ _ _ h=>h) e d h
    ·exact absurd h KS
   ·rename_i b
    rw [if_neg b]
    refine ⟨fun _ _=>trivial, ?_⟩
    rw [GI]
    exact d _ _ h
end
structure DB (D:List Deferred) (n:Nat) (E:CS) (a:Act):Prop where
 dfr:a.defers=D
 size:a.tmps.size=n
 has:∀i v,get E i=some v→a.tmps[i]? =some v
theorem DB.fits {D:List Deferred} {n:Nat} {E:CS} {a:Act} (h:DB D n E a):CK n E {a with defers:=[]}:=⟨rfl,h.size,h.has⟩
theorem DB.back {D:List Deferred} {n:Nat} {E:CS} {a:Act} (h:DB D n E a):({({a with defers:=[]}:Act) with defers:=({a with defers:=[]}:Act).defers++D}:Act)=a:=by
 cases a;simp only [nil_append];rw [← h.dfr]
theorem CK.g {n:Nat} {E:CS} {a:Act} (h:CK n E a) (D:List Deferred):DB D n E {a with defers:=a.defers++D}:=⟨by simp [h.dfr],h.size,h.has⟩
theorem CK.g0 {n:Nat} {E:CS} {a:Act} (h:CK n E a):DB [] n E a:=⟨h.dfr,h.size,h.has⟩
theorem DB.ev {D:List Deferred} {n:Nat} {E:CS} {a:Act} (h:DB D n E a) {x:Operand} {v:Value} (b:Dd.ev E x=some v):a.eval x=v:=by
 have:=h.fits.ev b
 rwa [Mb] at this
theorem DB.evs {D:List Deferred} {n:Nat} {E:CS} {a:Act} (h:DB D n E a) {l:List Operand} {vs:List Value} (b:Dd.evs E l=some vs):l.map a.eval=vs:=by
 have:=h.fits.evs b
 rwa [Mb] at this
theorem DB.put {D:List Deferred} {n:Nat} {E:CS} {a:Act} (h:DB D n E a) {d:Nat} (v:Value) (b:Nat.blt d n=true):DB D n ((d,v)::E) (a.put (some d) v):=
 ⟨h.dfr,(h.fits.put v b).size,(h.fits.put v b).has⟩
theorem DB.sub {D:List Deferred} {n:Nat} {E F:CS} {a:Act} (h:DB D n E a) (hs:Rg E F):DB D n F a:=⟨h.dfr,h.size,fun i v b=>h.has i v (hs.get i v b)⟩
def Cg (ro:Option Nat) (D:List Deferred) (P:Program) (Q:CH) (n:Nat) (c:Code) (E:CS) (w:World):Prop:=∀a,DB D n E a→c.wpIn (rnd ro) 9 P Q a w
def Pg (D:List Deferred) (n:Nat) (E:CS) (R:Act→World→Prop) (w:World):Prop:=∀a,DB D n E a→R a w
def Lg (ro:Option Nat) (D:List Deferred) (P:Program) (l0:List Oper) (Q:CH) (n:Nat) (l:List Oper) (E:CS) (w:World):Prop:=∀a,DB D n E a→wpListIn (rnd ro) 9 P l0.toArray Q l a w
section
variable {P : Program} {Q : CH} {n : Nat} {E : CS} {w : World} {ro : Option Nat} {D : List Deferred}
theorem Dg {x y:Code} (h:Cg ro D P (CX (fun a w=>y.wpIn (rnd ro) 9 P Q a w) Q) n x E w):Cg ro D P Q n (.seq x y) E w:=fun a b=>wpIn_seq (by have:=h a b;rwa [KM] at this)
theorem Cg.block {b:Nat} {c:Code} (h:Cg ro D P (IY b Q) n c E w):Cg ro D P Q n (.block b c) E w:=fun a d=>wpIn_block (by have:=h a d;rwa [O6] at this)
theorem E0 (h:Pg D n E (Q .normal) w):Cg ro D P Q n .skip E w:=fun a b=>wpIn_skip (h a b)
theorem Cg.exit {b:Nat} (h:Pg D n E (Q (.exit b)) w):Cg ro D P Q n (.exit b) E w:=fun a c=>wpIn_exit (h a c)
theorem E9 (h:Pg D n E (Q .ret) w):Cg ro D P Q n .ret E w:=fun a b=>wpIn_ret (h a b)
theorem E6 {c:Operand} {x y:Code} {t:Bool} (f:ev E c=some (.bool t)) (e:t=true→Cg ro D P Q n x E w) (d:t=false→Cg ro D P Q n y E w):Cg ro D P Q n (.cond c x y) E w:=
 fun a b=>wpIn_cond_split (b.ev f) (fun h=>e h a b) (fun h=>d h a b)
theorem Cg.condT {c:Operand} {x y:Code} (d:ev E c=some (.bool true)) (e:Cg ro D P Q n x E w):Cg ro D P Q n (.cond c x y) E w:=fun a b=>wpIn_cond_true (b.ev d) (e a b)
theorem Cg.condB {c:Operand} {x y:Code} {t:Bool} (e:ev E c=some (.bool t)) (b:Bool) (f:t=b) (h:Cg ro D P Q n (if b then x else y) E w):Cg ro D P Q n (.cond c x y) E w:=
 fun a d=>wpIn_cond (d.ev e) (by rw [f];exact h a d)
theorem Cg.out {c:Code} (h:Cg ro D P Q n c E w):Pg D n E (fun a w=>c.wpIn (rnd ro) 9 P Q a w) w:=h
theorem Cy {K:Act→World→Prop} (h:Pg D n E K w):Pg D n E (CX K Q .normal) w:=h
theorem E2 {K:Act→World→Prop} (h:Pg D n E (Q .ret) w):Pg D n E (CX K Q .ret) w:=h
theorem Fb {K:Act→World→Prop} {a:Nat} (h:Pg D n E (Q (.exit a)) w):Pg D n E (CX K Q (.exit a)) w:=h
theorem Er {a:Nat} (h:Pg D n E (Q .normal) w):Pg D n E (IY a Q .normal) w:=h
theorem Fu {b:Nat} (h:Pg D n E (Q .normal) w):Pg D n E (IY b Q (.exit b)) w:=fun a c=>by
 show if b=b then Q .normal a w else Q (.exit b) a w
 rw [if_pos rfl];exact h a c
theorem Cg.loop {S:Type} (j:S→CS) (I:S→World→Prop) (m:S→Nat) {c:Code} (z:S) (U:Rg E (j z)) (M:I z w)
  (q:∀s w,I s w→Cg ro D P (CX (fun i h=>∃f,DB D n (j f) i∧I f h∧m f<m s) Q) n c (j s) w):Cg ro D P Q n (.loop c) E w:=by
 intro a ha
 have key:∀k s a w,m s=k→DB D n (j s) a→I s w→(Code.loop c).wpIn (rnd ro) 9 P Q a w:=by
  intro k s a w hk v V
  refine wpIn_loop (fun i h=>∃f,DB D n (j f) i∧I f h) (fun i h=>Classical.epsilon fun k=>∃f,DB D n (j f) i∧I f h∧m f=k∧∀d,DB D n (j d) i→I d h→k≤m d) ⟨s,v,V⟩ ?_
  have o:∀i h,(∃f,DB D n (j f) i∧I f h)→∃k,∃f,DB D n (j f) i∧I f h∧m f=k∧∀d,DB D n (j d) i→I d h→k≤m d:=by
   intro i h ⟨f,u,t⟩
   have:∀b f,DB D n (j f) i→I f h→m f≤b→∃k,∃f,DB D n (j f) i∧I f h∧m f=k∧∀d,DB D n (j d) i→I d h→k≤m d:=by
    intro b
    induction b with
    |zero=>intro f u t Z;exact ⟨m f,f,u,t,rfl,fun d _ _=>by omega⟩
    |succ b ih=>
     intro f u t Z
     by_cases hex:∃d,DB D n (j d) i∧I d h∧m d≤b
     ·obtain ⟨d,p,r,G⟩:=hex;exact ih d p r G
     ·refine ⟨m f,f,u,t,rfl,fun d p r=> ?_⟩
      rcases Nat.lt_or_ge (m d) (m f) with L|x
      ·exact absurd ⟨d,p,r,by omega⟩ hex
      ·exact x
   exact this (m f) f u t (AX _)
  intro J C A
  obtain ⟨Y,X,T,g3,g4⟩:=Classical.epsilon_spec (o J C A)
  have H:=q Y C T J X
  rw [KM] at H
  refine Code.wpIn_mono (fun e a2 w2 F=> ?_) H
  cases e with
  |normal=>
   obtain ⟨y,p,r,G⟩:=F
   refine ⟨⟨y,p,r⟩, ?_⟩
   obtain ⟨s3,r1,r2,r3,N⟩:=Classical.epsilon_spec (o a2 w2 ⟨y,p,r⟩)
   have:=N y p r
   rw [← g3]
   omega
  |_=>exact F
 exact key _ z a w rfl (ha.sub U) M
theorem Pg.next {S:Type} {b:S→CS} {I:S→World→Prop} {m:S→Nat} {k:Nat} (a:S) (c:Rg E (b a)) (e:I a w) (d:m a<k):Pg D n E (fun i f=>∃a,DB D n (b a) i∧I a f∧m a<k) w:=
 fun _ h=>⟨a,h.sub c,e,d⟩
theorem Pg.low (h:Pg D n E (Q .normal) w):Pw n E (H7 D Q .normal) w:=fun a b=>h _ (b.g D)
theorem R0 {D:List Deferred} {Q:CH}:H7 D Q=H7 D (CX (fun a w=>Q .normal a w) Q):=by
 funext e a w;cases e<;>rfl
theorem C7 {e:Nat} {l:List Oper} (d:FK l=true) (h:Lw P l (H7 D Q) n l E w):Cg ro D P Q n (.region e l.toArray false) E w:=fun a b=>by
 have c:=h _ b.fits
 rw [← b.back]
 rw [R0] at c
 have:=LF (ro:=ro) (m:=9) (l2:=[]) (fun a w h=>h) l _ w d c
 rw [append_nil] at this
 exact wpIn_region_lit this
theorem Ib {d:Nat} {l:List Oper} {a:Act} (e:P.follows .mixedOrders=true) (c:FK l=true) (f:DB D n E a)
  (h:wpAny P .any l.toArray (H7 D Q) l.length (Array.replicate l.length false) {a with defers:=[]} {w with drawn:=w.drawn+1}):(Code.region d l.toArray true).wpIn (rnd ro) 9 P Q a w:=
 wpIn_region_draw fun t=>by
  simp only [Region.schedule,e,Bool.true_or,if_true]
  have i:=wpAny_sound l.toArray.size t _ _ _ (by simpa using h)
  have b:=QK (ro:=ro) (m:=9) (by simpa using c) _ _ _ i
  rw [f.back] at b
  exact b
theorem Cg.any {e:Nat} {l:List Oper} (f:P.follows .mixedOrders=true) (d:FK l=true) (h:∀b,Below w.heap.size w b→b.heap.size=w.heap.size→Aw P l (H7 D Q) n l.length (Array.replicate l.length false) E b):Cg ro D P Q n (.region e l.toArray true) E w:=fun a c=>
 Ib f d c (h _ (EX w) rfl _ c.fits)
theorem Cg.quiet {j:Nat} {l:List Oper} (k:P.follows .mixedOrders=true) (i:FK l=true) (e:Region.lexB .any l.toArray=true) (h:Qw P l (Below w.heap.size w) (fun d=>∀b,Below w.heap.size w b→H7 D Q .normal d b) n l E):
  Cg ro D P Q n (.region j l.toArray true) E w:=fun a f=>by
 refine Ib k i f ?_
 simp only [Region.lexB,Bool.and_eq_true] at e
 have:=wpAnyQ_lex (C:=Below w.heap.size w) (md:= .any) e.1 l.toArray.toList 0 (Array.replicate l.toArray.size false) _ (by simp) (by simpa using e.2) (by simpa using h _ f.fits)
 have o:=wpAny_of_quiet (Q:=fun d=>∀b,Below w.heap.size w b→H7 D Q .normal d b) (Q' :=H7 D Q) (fun _ b c h=>h b c) _ _ _ _ (EX w) this
 simpa using o
theorem Cg.tail {G:Nat} {l:List Oper} (k:Nat) (J:P.follows .mixedOrders=true) (A:FK l=true) (z:Region.lexTailB .any l.toArray k=true)
  (h:Qw P l (Below w.heap.size w) (fun q=>∀d,Below w.heap.size w d→wpList P l.toArray (H7 D Q) (l.drop k) q d) n (l.take k) E):Cg ro D P Q n (.region G l.toArray true) E w:=fun a y=>by
 refine Ib J A y ?_
 simp only [Region.lexTailB,Bool.and_eq_true,decide_eq_true_eq] at z
 obtain ⟨⟨⟨⟨i,v⟩,hs⟩,L⟩,f⟩:=z
 have I:k<l.length:=by simpa using v
 have b:(l.take k).length=k:=by simp;omega
 have o:(l.drop k).length=l.toArray.size - k:=by simp
 have e:HeadInv .any l.toArray k (Array.replicate l.toArray.size false):=
  ⟨by simp,fun j M _ u=>(by rw [getD_replicate_false] at u;cases u),fun t _ F=>getD_in (by simpa using F) (getD_replicate_false _ _)⟩
 have H:=Hh (P:=P) (C:=Below w.heap.size w) (md:= .any) (g:=l.toArray.size - k) i hs L v (l.take k) 0 _ _ (fun j x=>by
  have r:j<k:=by rw [b] at x;exact x
  simp [r]) (by simpa using b) e (by rw [b];exact f) (h _ y.fits)
 have:=GS (Q' :=H7 D Q) (g:=l.toArray.size - k) (fun c q d p s=>by
  have:=wpAny_of_seq (md:= .any) (Q' :=H7 D Q) (l.drop k) k c q d (fun j=>by simp [getElem?_drop]) (by rw [o];exact s.1) (s.2 d p)
  rwa [o] at this) _ _ _ _ (EX w) H
 rw [b,show k+(l.toArray.size - k)=l.toArray.size by omega] at this
 simpa using this
theorem Lg.plain {l0 l:List Oper} (k:Nat) (c:FK (l.take k)=true) (h:Lw P l0 (H7 D (CX (fun a w=>wpListIn (rnd ro) 9 P l0.toArray Q (l.drop k) a w) Q)) n (l.take k) E w):Lg ro D P l0 Q n l E w:=fun a b=>by
 have:=LF (ro:=ro) (m:=9) (l2:=l.drop k) (fun a w h=>h) (l.take k) _ w c (h _ b.fits)
 rwa [b.back,take_append_drop] at this
theorem Lg.nil {l0:List Oper} (h:Pg D n E (Q .normal) w):Lg ro D P l0 Q n [] E w:=fun a b=>wpListIn_nil (h a b)
theorem Lg.out {l0 l:List Oper} (h:Lg ro D P l0 Q n l E w):Pg D n E (CX (fun a w=>wpListIn (rnd ro) 9 P l0.toArray Q l a w) Q .normal) w:=h
end
def Yd (P:Program) (l:Nat) (args:List Value) (W:World) (R:Bool→World→Prop):Prop:=YieldAt Fence.wide 9 P l args.toArray W fun e w' =>∃b,e= .returned (.bool b)∧R b w'
theorem Rr {ro:Option Nat} {m a:Nat} {P:Program} {l:Nat} {f:FuncId} {tmps:Array Value} {assign body:Code} {w:World} {R:Ending→World→Prop} (h:RoundIn Fence.wide m P l f tmps assign body w R):RoundIn (rnd ro) a P l f tmps assign body w R:=
 ⟨trivial,fun c cs _=>h.2 c cs (room_wide _)⟩
section
variable {P : Program} {Q : CH} {n : Nat} {E : CS} {w : World} {ro : Option Nat} {D : List Deferred} {l0 rest : List Oper} {ty : TypeId} {pos : String} {af : Array Edge}
theorem Mp {a:Act} {y:Operand} {xs:List Operand} {vs:List Value} {ts:Array TypeId} {d:Option Nat} {g:Option (Nat×Bool)} {l:Nat} {r:Next} (e:a.eval y= .func (.yield l) #[] #[]) (c:xs.map a.eval=vs) (f:(Instr.yield l vs.toArray).run P w= .ok r w):
  (execOp a.eval ⟨d, .call {callee:= .value y,args:=xs.toArray,argTypes:=ts},ty,pos,af,g⟩).run P w= .ok r w:=by
 have b:xs.toArray.map a.eval=vs.toArray:=by rw [map_toArray,c]
 simp [execOp,resolve,b,e,Deferred.ofValue,invoke,f]
theorem Lg.yield {d l:Nat} {y:Operand} {xs:List Operand} {vs:List Value} {ts:Array TypeId} {R:Bool→World→Prop} (j:ev E y=some (.func (.yield l) #[] #[])) (t:evs E xs=some vs) (i:Nat.blt d n=true) (h:Yd P l vs w R)
  (k:∀b c,R b c→Lg ro D P l0 Q n rest ((d, .bool b)::E) c):Lg ro D P l0 Q n (⟨some d, .call {callee:= .value y,args:=xs.toArray,argTypes:=ts},ty,pos,af,none⟩::rest) E w:=
 fun a f=>wpListIn_plain rfl fun K r=>by
  obtain ⟨fn,tmps,assign,body,q,p⟩:=h
  refine ⟨fun _ _=>trivial, ?_⟩
  rw [show (rnd ro).round=ro from rfl,M3 rfl,Mp (f.ev j) (f.evs t) q]
  refine ⟨fun h=>by simp [rnd,Fence.wide] at h, ?_⟩
  refine (Rr p).mono fun e c ⟨b,o,s⟩=> ?_
  subst o
  exact r _ _ (k b c s _ (f.put _ i))
end
section
variable {P : Program} {Q : CH} {ro : Option Nat} {D : List Deferred} {ops : Array Oper} {md : Region.Mode} {m : Nat}
theorem Tm (k:FK ops.toList=true) {Q0:CH} (p:∀c a w,Q0 (.panic c) a w→Q (.panic c) a w) {K j:Act→World→Prop} (f:∀a w,K a w→j {a with defers:=a.defers++D} w) {i:Nat} {a:Act} {w:World}
  (h:wpOp P ops (H7 D Q0) i K a w):wpOpIn (rnd ro) m P ops Q i j {a with defers:=a.defers++D} w:=by
 unfold wpOp at h
 unfold wpOpIn
 cases ho:ops[i]? with
 |none=>simp only [ho] at h ⊢;exact f _ _ h
 |some o=>
  simp only [ho] at h ⊢
  have e:HJ o=false:=by
   have r:=List.all_eq_true.1 k o (by obtain ⟨d,q⟩:=Array.getElem?_eq_some_iff.1 ho;rw [← q];exact Array.getElem_mem_toList d)
   simpa using r
  split at h
  ·rename_i b
   rw [if_pos b]
   rcases h with h|⟨_,h⟩
   ·exact P2 p e f h
   ·exact absurd h KS
  ·rename_i b
   rw [if_neg b]
   refine ⟨fun _ _=>trivial, ?_⟩
   rw [GI]
   exact f _ _ h
theorem TI {C:World→Prop} {k g:Nat} {L:Array Bool→Act→Prop} (o:FK ops.toList=true) (p:∀b a w,C w→L b a→wpAnyIn (rnd ro) m P md ops Q g b {a with defers:=a.defers++D} w):
  ∀(f:Nat) (b:Array Bool) (a:Act) (w:World),C w→H9 P md ops C k L f b a→wpAnyIn (rnd ro) m P md ops Q (f+g) b {a with defers:=a.defers++D} w
 |0,b,a,w,hw,h=>by rw [Nat.zero_add];exact p _ _ _ hw h
 |f+1,b,a,w,hw,h=>by
  rw [show f+1+g=(f+g)+1 by omega]
  exact ⟨fun q=>absurd q h.1,fun i r=>Tm (Q0:=Q) o (fun _ _ _ h=>h) (K:=fun e d=>C d∧H9 P md ops C k L f (b.setIfInBounds i true) e) (fun e d c=>TI o p f _ e d c.1 c.2)
   (wpOp_of_qOp hw (fun e d j c=>⟨j,c⟩) (h.2 i r).2)⟩
theorem Ic {F:Fence}:∀(l:List Oper) (k:Nat) (b:Array Bool) (a:Act) (w:World),(∀j,l[j]? =ops[k+j]?)→
  Region.seqB md ops l.length k b=true→wpListIn F m P ops Q l a w→wpAnyIn F m P md ops Q l.length b a w
 |[],_,_,_,_,_,hB,h=>⟨by simpa [Region.seqB] using hB,h⟩
 |o::l,k,b,a,w,hl,hB,h=>by
  have s:ops[k]? =some o:=by simpa using (hl 0).symm
  simp only [length_cons,Region.seqB,Bool.and_eq_true,decide_eq_true_eq] at hB
  refine ⟨fun d=>(by rw [hB.1] at d;cases d),fun i e=> ?_⟩
  rw [hB.1] at e
  have c:i=k:=by simpa using e
  subst c
  have f:wpOpIn F m P ops Q i (wpListIn F m P ops Q l) a w:=by unfold wpOpIn;simp only [s];exact h
  exact wpOpIn_mono (fun r q p=>Ic l (i+1) _ r q (fun j=>by have:=hl (j+1);simpa [Nat.add_assoc,Nat.add_comm 1 j] using this) hB.2 p) f
theorem Cg.tailY {n:Nat} {E:CS} {w:World} {I:Nat} {l:List Oper} (k:Nat) (L:P.follows .mixedOrders=true) (A:FK l=true) (z:Region.lexTailB .any l.toArray k=true)
  (h:Qw P l (Below w.heap.size w) (fun f=>∀d,Below w.heap.size w d→wpListIn (rnd ro) 9 P l.toArray Q (l.drop k) {f with defers:=f.defers++D} d) n (l.take k) E):Cg ro D P Q n (.region I l.toArray true) E w:=fun a y=>by
 simp only [Region.lexTailB,Bool.and_eq_true,decide_eq_true_eq] at z
 obtain ⟨⟨⟨⟨o,v⟩,hs⟩,M⟩,i⟩:=z
 have J:k<l.length:=by simpa using v
 have b:(l.take k).length=k:=by simp;omega
 have p:(l.drop k).length=l.toArray.size - k:=by simp
 have e:HeadInv .any l.toArray k (Array.replicate l.toArray.size false):=
  ⟨by simp,fun j N _ u=>(by rw [getD_replicate_false] at u;cases u),fun t _ G=>getD_in (by simpa using G) (getD_replicate_false _ _)⟩
 have H:=Hh (P:=P) (C:=Below w.heap.size w) (md:= .any) (g:=l.toArray.size - k) o hs M v (l.take k) 0 _ _ (fun j x=>by
  have r:j<k:=by rw [b] at x;exact x
  simp [r]) (by simpa using b) e (by rw [b];exact i) (h _ y.fits)
 have:=TI (ro:=ro) (D:=D) (Q:=Q) (m:=9) (g:=l.toArray.size - k) (ops:=l.toArray) (by simpa using A) (fun c f d q s=>by
  have:=Ic (md:= .any) (F:=rnd ro) (m:=9) (Q:=Q) (l.drop k) k c {f with defers:=f.defers++D} d (fun j=>by simp [getElem?_drop]) (by rw [p];exact s.1) (s.2 d q)
  rwa [p] at this) _ _ _ {w with drawn:=w.drawn+1} (EX w) H
 rw [b,show k+(l.toArray.size - k)=l.toArray.size by omega,y.back] at this
 exact wpIn_region_any L this
theorem Qw.doneY {l0 l:List Oper} {C:World→Prop} {n:Nat} {E:CS} (h:∀b,C b→Lg ro D P l0 Q n l E b):Qw P l0 C (fun d=>∀b,C b→wpListIn (rnd ro) 9 P l0.toArray Q l {d with defers:=d.defers++D} b) n [] E:=
 fun a e=>wpQuiet_nil fun b c=>h b c _ (e.g D)
end
def Nc (B:Nat) (A A' :World):Prop:=∃r,A.grownBy A' r∧∀b,r=some b→B≤b∧∃o:Obj,A.heap[b]? =some o∧o.isCells=false
def YO (wr:Option Nat) (A A' :World):Prop:=∃r,A.grownBy A' r∧(r=none∨r=wr)
theorem Ns {B l:Nat} {A:World} {r:Loop} (o:Obj) (a:B≤l) (h:A.heap[l]? =some (.loop r)):Nc B A (A.putObj l o):=⟨some l,grownBy_putObj' A l o,fun b e=>by cases e;exact ⟨a,_,h,rfl⟩⟩
theorem L7 (B:Nat) (A:World) (o:Obj):Nc B A (A.alloc o):=⟨none,World.grownBy_alloc A o none,fun b e=>by cases e⟩
theorem Nc.mono {B B' :Nat} {A c:World} (h:Nc B A c) (f:B' ≤B):Nc B' A c:=by
 obtain ⟨r,d,a⟩:=h
 exact ⟨r,d,fun b e=>⟨Nat.le_trans f (a b e).1,(a b e).2⟩⟩
theorem Nc.blk {B:Nat} {A d:World} (h:Nc B A d) {k:Nat} {o:Obj} (c:A.heap[k]? =some o) (j:o.isCells=true):d.heap[k]? =A.heap[k]? :=by
 obtain ⟨r,i,f⟩:=h
 refine i.block k (Array.getElem?_eq_some_iff.1 c).1 fun e=> ?_
 obtain ⟨_,p,b,a⟩:=f k e.symm
 rw [c] at b;cases b
 rw [j] at a;cases a
theorem Nc.below {B:Nat} {A b:World} (h:Nc B A b) {a:Nat} (f:a≤B) (i:a≤A.heap.size):Below a A b:=by
 obtain ⟨r,d,c⟩:=h
 exact ET d i fun k e=>Nat.le_trans f (c k e).1
theorem _root_.Go.RowKit.Below.nc {B a:Nat} {W A b:World} (h:Below a W A) (k:Nc B A b) (c:a≤B) (d:a≤W.heap.size):Below a W b:=h.trans (k.below c (Nat.le_trans d h.size))
theorem AO.nc {B:Nat} {w a:World} {b:Nat} {T:TypeId} {cs:List Value} (h:AO w b T cs) (k:Nc B w a):AO a b T cs:=h.keep (k.blk h rfl)
theorem Ip {B:Nat} {w d:World} {base:Nat} {e:TypeId} {sz:Nat} {v:Value} {n:Nat} {xs:List Value} (h:w.ownsRow base e sz v n xs) (k:Nc B w d):d.ownsRow base e sz v n xs:=by
 obtain ⟨f,c⟩:=h
 rcases c with c|⟨b,cap,a,rfl,o,i,j⟩
 ·exact ⟨f, .inl c⟩
 ·exact ⟨f, .inr ⟨b,cap,a,rfl,o,(k.blk i rfl).trans i,j⟩⟩
theorem Yx {B:Nat} {W w a:World} (h:KeepsFrom B W w) (k:Below w.heap.size w a):KeepsFrom B W a:=h.trans ⟨k.size,fun i o _ b _=>(k.block i (Array.getElem?_eq_some_iff.1 b).1).trans b⟩
theorem _root_.Go.KeepsFrom.bs {B:Nat} {W w a:World} (h:KeepsFrom B W w) (k:Below w.heap.size w a):KeepsFrom B W a:=Yx h k
theorem _root_.Go.KeepsFrom.blk {B b:Nat} {W w c:World} {T:TypeId} {cs:List Value} (h:KeepsFrom B W w) (d:AO w b T cs) (k:w.grownBy c (some b)):KeepsFrom B W c:=
 h.trans ⟨k.size,fun i o _ a f=>(k.block i (Array.getElem?_eq_some_iff.1 a).1 (fun e=>by cases e;rw [show w.heap[b]? =_ from d] at a;cases a;cases f)).trans a⟩
theorem _root_.Go.KeepsFrom.own {B base:Nat} {W w c:World} {e:TypeId} {sz k:Nat} {v:Value} {xs:List Value} (h:KeepsFrom B W w) (f:w.ownsRow base e sz v k xs) (g:w.grownBy c v.ownBlock):KeepsFrom B W c:=
 h.trans ⟨g.size,fun i o _ a p=>(g.block i (Array.getElem?_eq_some_iff.1 a).1 (fun e=>by
  rcases f.2 with ⟨rfl,_⟩|⟨b,cap,d,rfl,_,j,_⟩
  ·simp [Value.ownBlock] at e
  ·simp only [Value.ownBlock,Option.some.injEq] at e
   subst e
   rw [j] at a;cases a;cases p)).trans a⟩
theorem _root_.Go.KeepsFrom.nc {B:Nat} {w A c:World} (h:KeepsFrom B w A) (k:Nc w.heap.size A c):KeepsFrom B w c:=by
 obtain ⟨r,g,f⟩:=k
 refine ⟨Nat.le_trans h.size g.size,fun i o j b d=> ?_⟩
 have a:=h.same i o j b d
 refine (g.block i (Array.getElem?_eq_some_iff.1 a).1 fun e=> ?_).trans a
 have:=(f i e.symm).1
 have:=(Array.getElem?_eq_some_iff.1 b).1
 omega
def Kp (Nd:Nat→Prop) (w w' :World):Prop:=w.heap.size≤w'.heap.size∧∀b,Nd b→b<w.heap.size→w'.heap[b]? =w.heap[b]?
theorem Kp.refl {Nd:Nat→Prop} {w:World}:Kp Nd w w:=⟨AX _,fun _ _ _=>rfl⟩
theorem Kp.trans {Nd:Nat→Prop} {a b c:World} (h:Kp Nd a b) (k:Kp Nd b c):Kp Nd a c:=⟨Nat.le_trans h.1 k.1,fun i e d=>(k.2 i e (Nat.lt_of_lt_of_le d h.1)).trans (h.2 i e d)⟩
theorem Kp.grown {Nd:Nat→Prop} {a b c:World} (h:Kp Nd a b) {r:Option Nat} (g:b.grownBy c r) (f:∀i,r=some i→¬Nd i):Kp Nd a c:=h.trans ⟨g.size,fun i j d=>g.block i d fun e=>f i e.symm j⟩
theorem Kp.bs {Nd:Nat→Prop} {a b c:World} (h:Kp Nd a b) (g:Below b.heap.size b c):Kp Nd a c:=h.trans ⟨g.size,fun i _ d=>g.block i d⟩
theorem Kp.nc {Nd:Nat→Prop} {B:Nat} {a b c:World} (h:Kp Nd a b) (g:Nc B b c) (j:∀i,Nd i→i<B):Kp Nd a c:=by
 obtain ⟨r,f,d⟩:=g
 exact h.grown f fun i e k=>by have:=(d i e).1;have:=j i k;omega
theorem Kp.below {Nd:Nat→Prop} {B:Nat} {a b c:World} (h:Kp Nd a b) (g:Below B b c) (e:∀i,Nd i→i<B):Kp Nd a c:=h.trans ⟨g.size,fun i d _=>g.block i (e i d)⟩
def Sq {α:Type} (P:Program) (gf:FuncId) (lf lb:List Value) (encs:α→List Value) (Nd:Nat→Prop) (wr:Option Nat) (xs:List α) (w:World):Prop:=
 ∀(l:Nat) (J:List α→World→Prop) (W:World),Below w.heap.size w W→(∀pre A A',J pre A→YO wr A A' →J pre A')→
  (∀pre x A,J pre A→pre++[x]<+:xs→Yd P l (encs x) A fun b A' =>b=true∧J (pre++[x]) A' ∧Kp Nd A A')→J [] W→
  AM P gf (lf++ .func (.yield l) #[] #[]::lb) W fun _ A=>J xs A
def Zf (B:Nat) (Nd:Nat→Prop) (W:World) (K:World→Prop):CH:=fun e _ w' =>match e with
 | .normal=>KeepsFrom B W w' ∧Kp Nd W w' ∧K w'
 |_=>False
def YP (B:Nat) (Nd:Nat→Prop) (l:Nat) (P:Program) (body:Code) (W:World) (K:World→Prop):CH:=fun e a w=>match e with
 | .normal=>KeepsFrom B W w∧Kp Nd W w∧∀w2,Nc l w w2→w2.heap.size=w.heap.size→(∃r,w2.heap[l]? =some (.loop r))→body.wpIn (rnd (some l)) 9 P (Zf B Nd w2 K) a w2
 |_=>False
section
variable {P : Program} {n : Nat} {E : CS} {w W : World} {B l : Nat} {Nd : Nat → Prop} {body : Code} {K : World → Prop}
theorem Gg (i:KeepsFrom B W w) (d:Kp Nd W w) (h:∀b,Nc l w b→b.heap.size=w.heap.size→(∃r,b.heap[l]? =some (.loop r))→Cg (some l) [] P (Zf B Nd b K) n body E b):Pg [] n E (YP B Nd l P body W K .normal) w:=
 fun a c=>⟨i,d,fun b e f j=>h b e f j a c⟩
theorem Gf {D:List Deferred} (a:KeepsFrom B W w) (b:Kp Nd W w) (h:K w):Pg D n E (Zf B Nd W K .normal) w:=fun _ _=>⟨a,b,h⟩
end
abbrev Kf (fn:FuncId) (tmps:Array Value) (ps:Array Tmp) (assign body:Code) (dD:Nat) (st:LoopState):Loop:={state:=st,pending:=none,fn,tmps,params:=ps,assign,body,defers:=dD}
theorem We {α:Type} {P:Program} {l j:Nat} {fn:FuncId} {tmps:Array Value} {ps:Array Tmp} {assign body:Code} {B:Nat} {Nd:Nat→Prop} {xs:List α} {encs:α→List Value} (X:∀x,(encs x).length=ps.size) {I:List α→World→Prop} {Ex:World→Prop} (i:B≤l) (G:∀b,Nd b→b<l)
  (hI:∀a A z,I a A→Nc B A z→I a z) (s:∀A z,Ex A→KeepsFrom B A z→Ex z) (L:∀A o,Ex A→Ex (A.putObj l o))
  (c:∀a x W,I a W→a++[x]<+:xs→(∃r,W.heap[l]? =some (.loop r))→assign.wpIn (rnd (some l)) 9 P (YP B Nd l P body W (I (a++[x]))) {tmps:=(ps.zip (encs x).toArray).foldl (fun t (p,v)=>t.setIfInBounds p v) tmps,defers:=[]} W)
  (a:List α) (x:α) (W:World) (h:I a W∧W.heap[l]? =some (.loop (Kf fn tmps ps assign body j .ready))∧Ex W) (y:a++[x]<+:xs):
  Yd P l (encs x) W fun b S=>b=true∧(I (a++[x]) S∧S.heap[l]? =some (.loop (Kf fn tmps ps assign body j .ready))∧Ex S)∧Kp Nd W S:=by
 obtain ⟨hi,U,V⟩:=h
 refine ⟨fn,_,assign,body,run_yield U (by simpa using X x),roundIn_of_wpIn (F:=Fence.wide) trivial ?_⟩
 refine wpIn_mono (c a x W hi y ⟨_,U⟩) ?_
 rintro e a1 T N
 cases e with
 |normal=>
  obtain ⟨k,Z,N⟩:=N
  have f:=k.same l _ i U rfl
  have q:=(Array.getElem?_eq_some_iff.1 f).1
  refine ⟨_,run_beginRound f O, ?_⟩
  have u:(T.putObj l (.loop (Kf fn tmps ps assign body j .busy))).heap[l]? =some (.loop (Kf fn tmps ps assign body j .busy)):=World.putObj_heap_same q
  have H:Nc l T (T.putObj l (.loop (Kf fn tmps ps assign body j .busy))):=Ns _ (AX _) f
  refine wpIn_mono (N _ H (by simp) ⟨_,u⟩) ?_
  rintro e a3 W3 hp
  cases e with
  |normal=>
   obtain ⟨J,hb3,Y⟩:=hp
   have d:=J.same l _ i u rfl
   have M:=(Array.getElem?_eq_some_iff.1 d).1
   have C:Nc l W3 (W3.putObj l (.loop (Kf fn tmps ps assign body j .ready))):=Ns _ (AX _) d
   refine ⟨_,_,run_endRound none d,true,rfl,rfl,⟨hI _ _ _ Y (C.mono i),World.putObj_heap_same M,L _ _ (s _ _ (L _ _ (s _ _ V k)) J)⟩, ?_⟩
   exact (((Z.nc H G).trans hb3).nc C G)
  |_=>exact hp.elim
 |_=>exact N.elim
def binds:List Nat→List Value→CS→CS
 |p::ps,v::vs,E=>binds ps vs ((p,v)::E)
 |_,_,E=>E
theorem Jt {n:Nat}:∀(pl:List Nat) (vs:List Value) (E:CS) (a:Act),pl.all (Nat.blt · n)=true→CK n E a→CK n (binds pl vs E) {a with tmps:=(pl.zip vs).foldl (fun t (p,v)=>t.setIfInBounds p v) a.tmps}
 |[],_,_,_,_,h=>h
 |_::_,[],_,_,_,h=>h
 |p::ps,v::vs,E,a,hp,h=>by
  simp only [all_cons,Bool.and_eq_true] at hp
  exact Jt ps vs ((p,v)::E) (a.put (some p) v) hp.2 (h.put v hp.1)
section
variable {P : Program} {Q : CH} {n : Nat} {E : CS} {w : World} {D : List Deferred} {α : Type} {g : Operand} {pl : List Nat} {assign body : Code} {gf : FuncId} {lf lb : List Value} {encs : α → List Value} {Nd : Nat → Prop} {wr : Option Nat} {xs : List α}
theorem IT {a : Act} {l : Nat} {W : World} (e : ∃ fn, P.funcs[gf]? = some fn ∧ (fn.name == "runtime.NumGoroutine") = false ∧ fn.body.isSome = true) (c : a.eval g = .func (.func gf) lf.toArray lb.toArray) :
  ∃d:Deferred,(resolve a.eval (rangeCall g l) 0).run P W= .ok d W∧(∀b,Target.leads P W d.target d.args=some b→(rnd none).fn b)∧(invoke d.target d.args).run P W= .ok (.enter gf (lf++ .func (.yield l) #[] #[]::lb).toArray) W:=by
 refine ⟨_,by simp only [resolve,c];simp [go_sem];rfl,fun _ _=>trivial, ?_⟩
 simp [invoke,go_sem,HG (P:=P) (w:=W) e]
theorem Gb (hg:ev E g=some (.func (.func gf) lf.toArray lb.toArray)) (M:Sq P gf lf lb encs Nd wr xs w) (Z:∀b,Nd b→b<w.heap.size) (Y:∀x,(encs x).length=pl.length) (N:pl.all (Nat.blt · n)=true) (I:List α→World→Prop)
  (G:∀b,wr=some b→b<w.heap.size) (h0:I [] w) (H:∀c A s,I c A→Nc w.heap.size A s→I c s) (hW:∀c A s,I c A→YO wr A s→I c s)
  (q:∀l c x W,w.heap.size≤l→I c W→c++[x]<+:xs→(∃r,W.heap[l]? =some (.loop r))→Cg (some l) [] P (YP w.heap.size Nd l P body W (I (c++[x]))) n assign (binds pl (encs x) E) W)
  (u:∀d W,w.heap.size≤d→I xs W→W.heap[d]? =some (.deferred (some []))→Pg ({target:= .collected d,args:= #[]}::D) n E (Q .normal) W):Cg none D P Q n (.rangeFunc g pl.toArray assign body) E w:=fun a F=>by
 refine wpIn_rangeFunc ?_
 intro fn hfn
 rw [show (rnd none).round=none from rfl]
 obtain ⟨j,i⟩:∃j,(w.alloc (.deferred (some []))).alloc (.loop (Kf fn a.tmps pl.toArray assign body w.heap.size .ready))=j:=⟨_,rfl⟩
 have T:j.heap[w.heap.size+1]? =some (.loop (Kf fn a.tmps pl.toArray assign body w.heap.size .ready)):=by
  rw [← i];have:=World.alloc_heap_new (w.alloc (.deferred (some []))) (.loop (Kf fn a.tmps pl.toArray assign body w.heap.size .ready));rwa [World.size_alloc] at this
 have hK1:j.heap[w.heap.size]? =some (.deferred (some [])):=by
  rw [← i];exact (Below.heap_alloc _ _ _ (by simp)).trans (World.alloc_heap_new w _)
 have U:I [] j:=by rw [← i];exact H _ _ _ (H _ _ _ h0 (L7 _ _ _)) (L7 _ _ _)
 have hb1:Below w.heap.size w j:=by
  rw [← i];exact ((Below.refl _ w).alloc (AX _) _).alloc (by simp) _
 have p:=M (w.heap.size+1) (fun c W=>I c W∧W.heap[w.heap.size+1]? =some (.loop (Kf fn a.tmps pl.toArray assign body w.heap.size .ready))∧W.heap[w.heap.size]? =some (.deferred (some []))) j hb1
  (fun c A s ⟨h1,h2,h3⟩ t=>by
   refine ⟨hW c A s h1 t, ?_, ?_⟩
   ·obtain ⟨r,y,f⟩:=t
    refine (y.block _ (Array.getElem?_eq_some_iff.1 h2).1 fun e=> ?_).trans h2
    rcases f with f|f
    ·rw [f] at e;cases e
    ·have:=G _ (f ▸ e.symm);omega
   ·obtain ⟨r,y,f⟩:=t
    refine (y.block _ (Array.getElem?_eq_some_iff.1 h3).1 fun e=> ?_).trans h3
    rcases f with f|f
    ·rw [f] at e;cases e
    ·have:=G _ (f ▸ e.symm);omega)
  (fun c x A h z=>We (by simpa using Y) (by omega) (fun b hb=>by have:=Z b hb;omega) H (fun A s h k=>k.same _ _ (AX _) h rfl) (fun A o h=>(World.putObj_heap_other (by omega)).trans h)
   (fun c x W X J f=>by
    have C:=Jt pl (encs x) E _ N F.fits
    have:=q (w.heap.size+1) c x W (by omega) X J f _ C.g0
    simpa using this) c x A h z)
  ⟨U,T,hK1⟩
 obtain ⟨d,V,L,S⟩:=IT (P:=P) (l:=w.heap.size+1) (W:=j) (lf:=lf) (lb:=lb) p.1 (F.ev hg)
 refine ⟨w.heap.size+1,[{target:= .collected w.heap.size,args:= #[]}],j,d,j,gf,_,j, ?_,V,L,S,fun h=>by simp [rnd,Fence.wide] at h,I0.2 (p.2.mono ?_)⟩
 ·rw [← i];exact run_enterLoop_outer _ _ _ _ _
 ·rintro e W2 ⟨v,rfl,X,J,hk⟩
  refine ⟨none,_,run_endLoop J (by simp), ?_⟩
  refine u w.heap.size _ (AX _) (H _ _ _ X (Ns _ (by omega) J)) ((World.putObj_heap_other (by omega)).trans hk) _ ⟨?_,F.size,F.has⟩
  show _++_=_
  rw [F.dfr];rfl
theorem Cg.rangeN {G:Nat} (t:∃r,w.heap[G]? =some (.loop r)) (hg:ev E g=some (.func (.func gf) lf.toArray lb.toArray)) (H:Sq P gf lf lb encs Nd wr xs w) (Z:∀b,Nd b→b<w.heap.size) (Y:∀x,(encs x).length=pl.length) (J:pl.all (Nat.blt · n)=true) (I:List α→World→Prop)
  (hwr:∀b,wr=some b→b<w.heap.size) (h0:I [] w) (U:∀c A p,I c A→Nc w.heap.size A p→I c p) (hW:∀c A p,I c A→YO wr A p→I c p)
  (o:∀l c x W,w.heap.size≤l→I c W→c++[x]<+:xs→(∃r,W.heap[l]? =some (.loop r))→Cg (some l) [] P (YP w.heap.size Nd l P body W (I (c++[x]))) n assign (binds pl (encs x) E) W)
  (q:∀W,I xs W→Pg D n E (Q .normal) W):Cg (some G) D P Q n (.rangeFunc g pl.toArray assign body) E w:=fun a C=>by
 obtain ⟨M,t⟩:=t
 refine wpIn_rangeFunc ?_
 intro fn hfn
 rw [show (rnd (some G)).round=some G from rfl]
 obtain ⟨j,k⟩:∃j,w.alloc (.loop (Kf fn a.tmps pl.toArray assign body M.defers .ready))=j:=⟨_,rfl⟩
 have N:j.heap[w.heap.size]? =some (.loop (Kf fn a.tmps pl.toArray assign body M.defers .ready)):=by rw [← k];exact World.alloc_heap_new w _
 have S:I [] j:=by rw [← k];exact U _ _ _ h0 (L7 _ _ _)
 have hb1:Below w.heap.size w j:=by rw [← k];exact (Below.refl _ w).alloc (AX _) _
 have i:=H w.heap.size (fun c W=>I c W∧W.heap[w.heap.size]? =some (.loop (Kf fn a.tmps pl.toArray assign body M.defers .ready))∧True) j hb1
  (fun c A p ⟨h1,h2,_⟩ u=>by
   refine ⟨hW c A p h1 u, ?_,trivial⟩
   obtain ⟨r,V,s⟩:=u
   refine (V.block _ (Array.getElem?_eq_some_iff.1 h2).1 fun e=> ?_).trans h2
   rcases s with s|s
   ·rw [s] at e;cases e
   ·have:=hwr _ (s ▸ e.symm);omega)
  (fun c x A h y=>We (by simpa using Y) (AX _) Z U (fun _ _ _ _=>trivial) (fun _ _ _=>trivial)
   (fun c x W X F s=>by
    have z:=Jt pl (encs x) E _ J C.fits
    have:=o w.heap.size c x W (AX _) X F s _ z.g0
    simpa using this) c x A h y)
  ⟨S,N,trivial⟩
 obtain ⟨d,T,hd2,L⟩:=IT (P:=P) (l:=w.heap.size) (W:=j) (lf:=lf) (lb:=lb) i.1 (C.ev hg)
 refine ⟨w.heap.size,[],j,d,j,gf,_,j, ?_,T,fun f h=>trivial,L,fun h=>by simp [rnd,Fence.wide] at h,I0.2 (i.2.mono ?_)⟩
 ·rw [← k];exact run_enterLoop_inner t _ _ _ _ _
 ·rintro e W2 ⟨v,rfl,X,F,_⟩
  refine ⟨none,_,run_endLoop F (by simp), ?_⟩
  exact q _ (U _ _ _ X (Ns _ (AX _) F)) _ ⟨C.dfr,C.size,C.has⟩
end
section
variable {P : Program} {n : Nat} {E : CS} {w : World} {ro : Option Nat} {D : List Deferred}
def XO {St:Type} (D:List Deferred) (n:Nat) (Ei:St→CS) (I:St→World→Prop):CH:=fun x a w=>x= .normal∧∃s,DB D n (Ei s) a∧I s w
theorem AE.midG {St:Type} {a:St→CS} {I:St→World→Prop}:AE (XO D n a I):=fun _ _ _ _ _ h=>by cases h.1
theorem F5 {St:Type} {c:Code} (d:St→CS) (I:St→World→Prop) {K:Act→World→Prop} {Q:CH} (h:Cg ro D P (XO D n d I) n c E w) (k:∀s b,I s b→Pg D n (d s) K b):Cg ro D P (CX K Q) n c E w:=fun a i=>
 Code.wpIn_mono (fun x j b e=>by
  obtain ⟨rfl,s,f,o⟩:=e
  exact k s b o j f) (h a i)
theorem Fl {St:Type} {a:St→CS} {I:St→World→Prop} (s:St) (hs:Rg E (a s)) (c:I s w):Pg D n E (XO D n a I .normal) w:=fun _ b=>⟨rfl,s,b.sub hs,c⟩
end
def U6 (P:Program) (fn:Func) (R:Value→World→Prop):CH:=fun e a w=>match e with
 | .panic _=>False
 |e=>bodyPostM Fence.wide 9 P fn (fun e w' =>∃v,e= .returned v∧R v w') e a w
theorem AE.retG {P:Program} {fn:Func} {R:Value→World→Prop}:AE (U6 P fn R):=fun _ _ _ _ _ h=>h
section
variable {P : Program} {n : Nat} {E : CS} {w : World} {fn : Func} {R : Value → World → Prop}
theorem E8 {f : FuncId} {c : Code} {args : List Value} (k : P.funcs[f]? = some fn) (b : (fn.name == "runtime.NumGoroutine") = false) (p : fn.body = some c)
  (s:fn.ntmps=n) (r:Nat.ble args.length n=true) (h:Cg none [] P (U6 P fn R) n c (params 0 args) w):AM P f args w R:=by
 refine ⟨⟨fn,k,b,by simp [p]⟩,callsIn_wide.1 (callsIn_of_wp_marks (n:=9) (F:=Fence.wide) k p trivial (wpIn_mono (h _ ⟨rfl, ?_,fun i v q=> ?_⟩) fun e a w o=> ?_) O)⟩
 ·have:args.length≤n:=Nat.le_of_ble_eq_true r
  simp [s];omega
 ·have j:=(Jk args 0 i v q).2
  simp only [Nat.sub_zero] at j
  have d:i<args.length:=by
   rcases Nat.lt_or_ge i args.length with h|h
   ·exact h
   ·simp [getElem?_eq_none h] at j
  rw [Array.getElem?_append]
  simp only [size_toArray,d,if_true,getElem?_toArray]
  exact j
 ·cases e<;>first|exact o|exact o.elim
theorem F7 {d:Nat} (f:w.heap[d]? =some (.deferred (some []))) (h:∀c,Nc d w c→c.heap.size=w.heap.size→Pw n E (RV P fn R .ret) c):Pg [{target:= .collected d,args:= #[]}] n E (U6 P fn R .ret) w:=fun a i=>by
 have o:Nc d w (w.putObj d (.deferred none)):=⟨some d,grownBy_putObj' w d _,fun b e=>by cases e;exact ⟨AX _,_,f,rfl⟩⟩
 obtain ⟨_,v,k,j⟩:=h _ o (by simp) _ i.fits
 show LeavesInM _ _ _ _ _ _ a.defers _ _
 rw [i.dfr]
 exact ⟨by simp, .inl ⟨d,_,rfl,run_takeDeferred f,v,k,j⟩⟩
theorem Et (h:Pw n E (RV P fn R .ret) w):Pg [] n E (U6 P fn R .ret) w:=fun a b=>by
 obtain ⟨_,v,d,c⟩:=h _ b.fits
 show LeavesInM _ _ _ _ _ _ a.defers _ _
 rw [b.dfr]
 exact ⟨v,d,c⟩
theorem Pg.closeE (h:Pw n E (RV P fn R .normal) w):Pg [] n E (U6 P fn R .normal) w:=fun a b=>by
 obtain ⟨_,v,d,c⟩:=h _ b.fits
 show LeavesInM _ _ _ _ _ _ a.defers _ _
 rw [b.dfr]
 exact ⟨v,d,c⟩
end
end Go.Dd

namespace Go.Dd
open Go Go.RowKit List
abbrev Zh:=Nat×List Nat×(Value→World→Prop)
def LD:List Zh→Nat→Value→World→Prop
 |[],_=>fun _ _=>True
 |(j,_,p)::r,i=>match Nat.beq j i with
  |true=>p
  |false=>LD r i
section
variable {P : Program} {Q : CH} {n : Nat} {E : CS} {w : World} {l0 : List Oper}
variable {C : World → Prop}
end

def ME (l:List (BitVec 32)) (rows wide c y x:Int):BitVec 32:=if y<0∨rows≤y∨x<0∨wide≤x then 0#32 else l.getD ((c*rows+y)*wide+x).toNat default
def HV (rows LD step:Int):Int:=if rows<LD then 0 else (rows - LD) / step+1
def FG (t w:List Int) (step pad:Int):List Int:=[w.getD 0 default,HV (t.getD 1 default+2*pad) (w.getD 2 default) step,HV (t.getD 2 default+2*pad) (w.getD 3 default) step]
def EZ (t w:List Int) (step pad:Int):Bool:= !Shapes.ok t|| !Shapes.ok w||decide (step<1)||decide (8<step)||decide (pad<0)||decide (8<pad)
def IZ (t w:List Int):Bool:=decide (t.length=3) && decide (w.length=4) && decide (t.getD 0 default=w.getD 1 default)
def BZ (t w:List Int) (step pad:Int):Int:=if EZ t w step pad then 1 else if IZ t w && Shapes.ok (FG t w step pad) then 0 else 10
def GJ (t:List Int) (wide:Int):List Int:=[t.getD 0 default,HV (t.getD 1 default) wide wide,HV (t.getD 2 default) wide wide]
def Hu (t:List Int) (wide:Int):Bool:= !Shapes.ok t||decide (wide<1)||decide (64<wide)
def Il (t:List Int) (wide:Int):Bool:=decide (t.length=3) && decide (wide≤t.getD 1 default) && decide (wide≤t.getD 2 default)
def CE (t:List Int) (wide:Int):Int:=if Hu t wide then 1 else if Il t wide then 0 else 10
theorem AW {s:List Int} (h:Shapes.good s) {k:Nat} (a:k<s.length):1≤s.getD k default∧s.getD k default≤64:=by
 have:s.getD k default ∈ s:=by simp [a]
 exact h _ this
def G3 (s:List Int) (i:Int):Int:=i / (s.getD 1 default*s.getD 2 default)
def HQ (s:List Int) (i:Int):Int:=i / s.getD 2 default % s.getD 1 default
def HR (s:List Int) (i:Int):Int:=i % s.getD 2 default
def Yf (s:List Int) (i:Nat):Value:= .agg #[.int .i64 (G3 s i), .int .i64 (HQ s i), .int .i64 (HR s i)]
def YQ (tl wl:List (BitVec 32)) (t s ws:List Int) (one:Nat) (step pad:Int) (i j:Nat):BitVec 32:=
 ME tl (t.getD 1 default) (t.getD 2 default) (G3 ws j) (HQ s i*step - pad+HQ ws j) (HR s i*step - pad+HR ws j)*wl.getD ((G3 s i).toNat*one+j) default
def Mm (tl wl:List (BitVec 32)) (t s ws:List Int) (one:Nat) (step pad:Int) (i:Nat) (n:Nat):BitVec 32:=sm n fun j=>YQ tl wl t s ws one step pad i j
theorem Kh {N:Nat} {a:List Nat} {x:Nat} (h:a++[x]<+:range N):x=a.length∧a.length<N∧a=range a.length:=by
 have b:=h.length_le
 rw [length_append,length_singleton,length_range] at b
 have d:(range N).take (a++[x]).length=a++[x]:=(List.prefix_iff_eq_take.1 h).symm
 rw [length_append,length_singleton,take_range,Nat.min_eq_left b,range_succ] at d
 have c:=append_inj' d rfl
 exact ⟨by simpa using c.2.symm,b,c.1.symm⟩
theorem Rv {i N:Nat} (h:i<N):range i++[i]<+:range N:=by
 rw [← range_succ]
 exact List.prefix_iff_eq_take.2 (by rw [length_range,take_range,Nat.min_eq_left h])
theorem Ni {s:List Int} {i:Int} (d:Shapes.ok s=true) (j:s.length=3) (h:0≤i∧i<Shapes.size s):0≤G3 s i∧G3 s i<s.getD 0 default:=by
 have f:=(Shapes.ok_iff s).1 d
 have n:=AW f.2.1 (k:=0) (by omega)
 have l:=AW f.2.1 (k:=1) (by omega)
 have g:=AW f.2.1 (k:=2) (by omega)
 have e:Shapes.size s=s.getD 0 default*(s.getD 1 default*s.getD 2 default):=by
  rw [Shapes.size_ok d]
  match s,j with
  |[a,b,c],_=>simp [Shapes.prod]
 have m:1*1≤s.getD 1 default*s.getD 2 default:=Int.mul_le_mul l.1 g.1 (by decide) (by omega)
 rw [e] at h
 unfold G3
 exact ⟨Int.ediv_nonneg h.1 (by omega),Int.ediv_lt_of_lt_mul (by omega) h.2⟩

theorem Rp {s:List Int} {c y x:Int} (b:0≤y∧y<s.getD 1 default) (a:0≤x∧x<s.getD 2 default):
  G3 s ((c*s.getD 1 default+y)*s.getD 2 default+x)=c∧HQ s ((c*s.getD 1 default+y)*s.getD 2 default+x)=y∧HR s ((c*s.getD 1 default+y)*s.getD 2 default+x)=x:=by
 unfold G3 HQ HR
 generalize s.getD 1 default=H at*
 generalize s.getD 2 default=V at*
 have d:(c*H+y)*V+x=x+(c*H+y)*V:=Int.add_comm _ _
 have e1:((c*H+y)*V+x) / V=c*H+y:=by
  rw [d,Int.add_mul_ediv_right _ _ (by omega),Int.ediv_eq_zero_of_lt a.1 a.2,Int.zero_add]
 refine ⟨?_, ?_, ?_⟩
 ·have e2:(c*H+y)*V+x=(y*V+x)+c*(H*V):=by rw [Int.add_mul,Int.mul_assoc];omega
  have f:0≤y*V:=Int.mul_nonneg b.1 (by omega)
  have e:(y+1)*V≤H*V:=Int.mul_le_mul_of_nonneg_right (by omega) (by omega)
  rw [Int.add_mul] at e
  rw [e2,Int.add_mul_ediv_right _ _ (by omega),Int.ediv_eq_zero_of_lt (by omega) (by omega),Int.zero_add]
 ·rw [e1,show c*H+y=y+c*H from Int.add_comm _ _,Int.add_mul_emod_self_right,Int.emod_eq_of_lt b.1 b.2]
 ·rw [d,Int.add_mul_emod_self_right,Int.emod_eq_of_lt a.1 a.2]
def SM (p q:BitVec 32):BitVec 32:=if p.toInt<q.toInt then q else p
theorem Og (p q:BitVec 32):(SM p q).toInt=if p.toInt<q.toInt then q.toInt else p.toInt:=by unfold SM;split<;>rfl
def mx (f:Nat→BitVec 32) (p:BitVec 32):Nat→BitVec 32
 |0=>p
 |n+1=>SM (mx f p n) (f n)
def Jj (tl:List (BitVec 32)) (t s:List Int) (m:Nat) (i k:Nat):BitVec 32:=ME tl (t.getD 1 default) (t.getD 2 default) (G3 s i) (HQ s i*m+((k / m:Nat):Int)) (HR s i*m+((k % m:Nat):Int))
def L3 (tl:List (BitVec 32)) (t s:List Int) (m:Nat) (i:Nat):BitVec 32:=mx (Jj tl t s m i) (Jj tl t s m i 0) (m*m)
def Xa (tl:List (BitVec 32)) (t s:List Int) (m:Nat):List (BitVec 32):=(range (Shapes.size s).toNat).map (L3 tl t s m)

section
variable {P : Program} {n : Nat} {E : CS} {w : World} {e ty : TypeId} {x : Operand}
theorem Eg {b o k:Nat} {T:TypeId} {cs ds:List Value} (d:(isAgg e).run P w= .ok true w) (hs:(sizeOf e).run P w= .ok k w) (g:ds.length=k) (m:ev E x=some (.pointer (some ⟨b,o,none⟩))) (h:AO w b T cs) (f:(cs.drop o).take k=ds):
  Ex P n E (.load e x) ty w (.agg ds.toArray):=fun a l _ _ _ _=>by
 subst g
 have i:=run_loadCells_list (P:=P) w ⟨b,o,none⟩ ds (fun j v c=>by
  rw [add_lit,h.cell]
  rw [← f,getElem?_take] at c
  split at c
  ·rw [getElem?_drop] at c;exact c
  ·cases c)
 simp [execOp,l.ev m,Instr.loadAt,Instr.sureAddr,loadVar,d,hs,i]
end

section
variable {P : Program} {Q : CH} {n : Nat} {E : CS} {w : World} {l0 rest : List Oper} {ty : TypeId} {pos : String} {af : Array Edge}
variable {x y z : Operand} {v u : Value} {t s e t2 : TypeId} {l : List (BitVec 8)} {a b : ByteArray}
end
end Go.Dd
