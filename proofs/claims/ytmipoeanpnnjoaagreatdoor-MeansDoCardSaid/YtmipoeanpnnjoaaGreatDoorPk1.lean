/- Texts of this proof, one behind the other: Base, Ops, Mem, Reg, Facts, Open, More, Own, Sum, Shp, Int, Seg, Book, Crc, Byt. -/
import Derived.WalkKit
import Derived.Deep.Quiet
import Derived.StillTail
import Derived.Test.YtmipoeanpnnjoaaGreatDoorProg
import Derived.ProofKit
import Derived.OpenShut
import Derived.SizedLaws
import Derived.Laws.Tables
import Derived.Lib.AppendZeros
import Derived.Laws.CopyRow
import Derived.Laws.IdiomCopy

/-! The step layer, part 1: frames as lists of known slots; rules for control and for pure operations. Nothing here names a program. -/
namespace Go.Dd
theorem O{α:Sort _}{a:α}:a=a:=rfl
open Go Go.RowKit

abbrev Env:=List (Nat×Value)

def get:Env→Nat→Option Value
 |[],_=>none
 |(j,v)::E,i=>match Nat.beq j i with
  |true=>some v
  |false=>get E i

theorem get_cons_self (d:Nat) (v:Value) (E:Env):get ((d,v)::E) d=some v:=by simp [get]
theorem get_cons_ne {d i:Nat} (v:Value) (E:Env) (h:d≠i):get ((d,v)::E) i=get E i:=by
 have:Nat.beq d i=false:=by
  cases hb:Nat.beq d i with
  |false=>rfl
  |true=>exact absurd (Nat.eq_of_beq_eq_true hb) h
 simp [get,this]

structure Fits (n:Nat) (E:Env) (a:Act):Prop where
 dfr:a.defers=[]
 size:a.tmps.size=n
 has:∀i v,get E i=some v→a.tmps[i]? =some v

def ev (E:Env):Operand→Option Value
 | .tmp t=>get E t
 | .const v=>some v
 | .global g=>some (.pointer (some ⟨g,0,none⟩))
 | .func f=>some (.func (.func f) #[] #[])

theorem Fits.ev {n:Nat} {E:Env} {a:Act} (h:Fits n E a) {x:Operand} {v:Value} (hx:ev E x=some v):a.eval x=v:=by
 cases x<;>simp [Dd.ev,Act.eval] at*
 ·have:=h.has _ _ hx
  simp [this]
 ·exact hx
 ·exact hx
 ·exact hx

theorem Fits.put {n:Nat} {E:Env} {a:Act} (h:Fits n E a) {d:Nat} (v:Value) (hd:Nat.blt d n=true):Fits n ((d,v)::E) (a.put (some d) v):=by
 have hd' :d<n:=by simpa [Nat.blt_eq] using hd
 refine ⟨h.dfr,by simp [Act.put,h.size],fun i u hu=> ?_⟩
 simp only [Act.put,Array.getElem?_setIfInBounds,h.size]
 by_cases hi:d=i
 ·subst hi
  rw [get_cons_self] at hu
  simpa [hd'] using hu
 ·rw [get_cons_ne v E hi] at hu
  simp [hi,h.has i u hu]

theorem Fits.put_none {n:Nat} {E:Env} {a:Act} (h:Fits n E a) (v:Value):Fits n E (a.put none v):=h

/-- Each entry of the second list is known in the first one. -/
def Sub (E:Env):Env→Prop
 |[]=>True
 |(j,v)::F=>get E j=some v∧Sub E F

theorem Sub.get {E:Env}:∀{F:Env},Sub E F→∀i v,get F i=some v→Dd.get E i=some v
 |[],_,i,v,h=>by simp [Dd.get] at h
 |(j,u)::F,hs,i,v,h=>by
  simp only [Dd.get] at h
  split at h
  ·rename_i hb
   have:j=i:=Nat.eq_of_beq_eq_true hb
   subst this
   simp only [Option.some.injEq] at h
   subst h
   exact hs.1
  ·exact Sub.get hs.2 i v h

theorem Fits.sub {n:Nat} {E F:Env} {a:Act} (h:Fits n E a) (hs:Sub E F):Fits n F a:=⟨h.dfr,h.size,fun i v hv=>h.has i v (hs.get i v hv)⟩

/-! ### Code -/

abbrev Post:=Exit→Act→World→Prop

def Cw (P:Program) (Q:Post) (n:Nat) (c:Code) (E:Env) (w:World):Prop:=∀a,Fits n E a→c.wp P Q a w
/-- A post, of every frame that fits. -/
def Pw (n:Nat) (E:Env) (R:Act→World→Prop) (w:World):Prop:=∀a,Fits n E a→R a w

def Lw (P:Program) (l0:List Oper) (Q:Post) (n:Nat) (l:List Oper) (E:Env) (w:World):Prop:=∀a,Fits n E a→wpList P l0.toArray Q l a w

abbrev Then (K:Act→World→Prop) (Q:Post):Post:=fun e a w=>match e with
 | .normal=>K a w
 |e=>Q e a w

abbrev InBlk (id:Nat) (Q:Post):Post:=fun e a w=>match e with
 | .exit id' =>if id' =id then Q .normal a w else Q (.exit id') a w
 |e=>Q e a w

section
variable {P : Program} {Q : Post} {n : Nat} {E : Env} {w : World}

theorem then_eq (K:Act→World→Prop) (Q:Post):Then K Q=Exit.then K Q:=by
 funext e a w;cases e<;>rfl
theorem inblk_eq (id:Nat) (Q:Post):InBlk id Q=Exit.inBlock id Q:=by
 funext e a w;cases e<;>rfl

theorem Ae {x y:Code} (h:Cw P (Then (fun a w=>y.wp P Q a w) Q) n x E w):Cw P Q n (.seq x y) E w:=fun a ha=>wp_seq (by have:=h a ha;rwa [then_eq] at this)
theorem Cw.block {id:Nat} {c:Code} (h:Cw P (InBlk id Q) n c E w):Cw P Q n (.block id c) E w:=fun a ha=>wp_block (by have:=h a ha;rwa [inblk_eq] at this)
theorem Aq (h:Pw n E (Q .normal) w):Cw P Q n .skip E w:=fun a ha=>wp_skip (h a ha)
theorem Bi {id:Nat} (h:Pw n E (Q (.exit id)) w):Cw P Q n (.exit id) E w:=fun a ha=>wp_exit (h a ha)
theorem An (h:Pw n E (Q .ret) w):Cw P Q n .ret E w:=fun a ha=>wp_ret (h a ha)
theorem Au {c:Operand} {x y:Code} {t:Bool} (hc:ev E c=some (.bool t)) (ht:t=true→Cw P Q n x E w) (hf:t=false→Cw P Q n y E w):Cw P Q n (.cond c x y) E w:=
 fun a ha=>wp_cond_split (ha.ev hc) (fun h=>ht h a ha) (fun h=>hf h a ha)
theorem Br {c:Operand} {x y:Code} (hc:ev E c=some (.bool true)) (ht:Cw P Q n x E w):Cw P Q n (.cond c x y) E w:=fun a ha=>wp_cond_true (ha.ev hc) (ht a ha)
theorem C9 {c:Operand} {x y:Code} (hc:ev E c=some (.bool false)) (hf:Cw P Q n y E w):Cw P Q n (.cond c x y) E w:=fun a ha=>wp_cond_false (ha.ev hc) (hf a ha)
theorem Bs {c:Operand} {x y:Code} {t:Bool} (hc:ev E c=some (.bool t)) (b:Bool) (hb:t=b) (h:Cw P Q n (if b then x else y) E w):Cw P Q n (.cond c x y) E w:=
 fun a ha=>wp_cond (ha.ev hc) (by rw [hb];exact h a ha)
theorem Ab {id:Nat} {l:List Oper} (h:Lw P l Q n l E w):Cw P Q n (.region id l.toArray false) E w:=fun a ha=>wp_region_lit (h a ha)
/-- A slot's value, told otherwise. -/
theorem C3 {c:Code} (d:Nat) {v v' :Value} (hd:get E d=some v) (hv:v=v') (h:Cw P Q n c ((d,v')::E) w):Cw P Q n c E w:=fun a ha=>h a<|by
 subst hv
 refine ⟨ha.dfr,ha.size,fun i u hu=> ?_⟩
 by_cases hi:d=i
 ·subst hi;rw [get_cons_self] at hu;exact ha.has _ _ (hd.trans hu)
 ·rw [get_cons_ne _ _ hi] at hu;exact ha.has _ _ hu

theorem Cw.out {c:Code} (h:Cw P Q n c E w):Pw n E (fun a w=>c.wp P Q a w) w:=h
theorem Af {l0:List Oper} (h:Pw n E (Q .normal) w):Lw P l0 Q n [] E w:=fun a ha=>wpList_nil (h a ha)

/-- What stands behind a piece of code, in a sequence. -/
theorem Aa {K:Act→World→Prop} (h:Pw n E K w):Pw n E (Then K Q .normal) w:=h
theorem Ak {K:Act→World→Prop} (h:Pw n E (Q .ret) w):Pw n E (Then K Q .ret) w:=h
theorem Am {K:Act→World→Prop} {id:Nat} (h:Pw n E (Q (.exit id)) w):Pw n E (Then K Q (.exit id)) w:=h
theorem Bo {id:Nat} (h:Pw n E (Q .normal) w):Pw n E (InBlk id Q .normal) w:=h
theorem Bk {id:Nat} (h:Pw n E (Q .ret) w):Pw n E (InBlk id Q .ret) w:=h
theorem Az {id:Nat} (h:Pw n E (Q .normal) w):Pw n E (InBlk id Q (.exit id)) w:=fun a ha=>by
 show if id=id then Q .normal a w else Q (.exit id) a w
 rw [if_pos rfl];exact h a ha
/-- A loop: 'Ei', 'I' and 'm' go by a state of any type. -/
theorem Bj {S:Type} (Ei:S→Env) (I:S→World→Prop) (m:S→Nat) {c:Code} (s0:S) (hE:Sub E (Ei s0)) (h0:I s0 w)
  (round:∀s w,I s w→Cw P (Then (fun a' w' =>∃s',Fits n (Ei s') a' ∧I s' w' ∧m s' <m s) Q) n c (Ei s) w):Cw P Q n (.loop c) E w:=by
 intro a ha
 have key:∀k s a w,m s=k→Fits n (Ei s) a→I s w→(Code.loop c).wp P Q a w:=by
  intro k s a w hk hfit hI
  refine wp_loop (fun a' w' =>∃s',Fits n (Ei s') a' ∧I s' w') (fun a' w' =>Classical.epsilon fun k=>∃s',Fits n (Ei s') a' ∧I s' w' ∧m s' =k∧∀s'',Fits n (Ei s'') a' →I s'' w' →k≤m s'') ⟨s,hfit,hI⟩ ?_
  have least:∀a' w',(∃s',Fits n (Ei s') a' ∧I s' w')→∃k,∃s',Fits n (Ei s') a' ∧I s' w' ∧m s' =k∧∀s'',Fits n (Ei s'') a' →I s'' w' →k≤m s'' :=by
   intro a' w' ⟨s',h1,h2⟩
   have:∀b s',Fits n (Ei s') a' →I s' w' →m s' ≤b→∃k,∃s',Fits n (Ei s') a' ∧I s' w' ∧m s' =k∧∀s'',Fits n (Ei s'') a' →I s'' w' →k≤m s'' :=by
    intro b
    induction b with
    |zero=>intro s' h1 h2 h3;exact ⟨m s',s',h1,h2,rfl,fun s'' _ _=>by omega⟩
    |succ b ih=>
     intro s' h1 h2 h3
     by_cases hex:∃s'',Fits n (Ei s'') a' ∧I s'' w' ∧m s'' ≤b
     ·obtain ⟨s'',q1,q2,q3⟩:=hex;exact ih s'' q1 q2 q3
     ·refine ⟨m s',s',h1,h2,rfl,fun s'' q1 q2=> ?_⟩
      rcases Nat.lt_or_ge (m s'') (m s') with hlt|hge
      ·exact absurd ⟨s'',q1,q2,by omega⟩ hex
      ·exact hge
   exact this (m s') s' h1 h2 (Nat.le_refl _)
  intro a1 w1 hin
  obtain ⟨s1,g1,g2,g3,g4⟩:=Classical.epsilon_spec (least a1 w1 hin)
  have hr:=round s1 w1 g2 a1 g1
  rw [then_eq] at hr
  refine Code.wp_mono (fun e a2 w2 hq=> ?_) hr
  cases e with
  |normal=>
   obtain ⟨s2,q1,q2,q3⟩:=hq
   refine ⟨⟨s2,q1,q2⟩, ?_⟩
   obtain ⟨s3,r1,r2,r3,r4⟩:=Classical.epsilon_spec (least a2 w2 ⟨s2,q1,q2⟩)
   have:=r4 s2 q1 q2
   rw [← g3]
   omega
  |_=>exact hq
 exact key _ s0 a w rfl (ha.sub hE) h0

theorem Bq {S:Type} {Ei:S→Env} {I:S→World→Prop} {m:S→Nat} {k:Nat} (s' :S) (hE:Sub E (Ei s')) (hI:I s' w) (hm:m s' <k):Pw n E (fun a' w' =>∃s',Fits n (Ei s') a' ∧I s' w' ∧m s' <k) w:=
 fun _ ha=>⟨s',ha.sub hE,hI,hm⟩

/-! ### Functions -/

/-- The call returns, with a value and in a world of that kind. -/
def Fnc (P:Program) (f:FuncId) (args:List Value) (w:World) (R:Value→World→Prop):Prop:=
 (∃ fn, P.funcs[f]? = some fn ∧ (fn.name == "runtime.NumGoroutine") = false ∧ fn.body.isSome = true) ∧ Calls P f args.toArray w (fun e w' => ∃ v, e = .returned v ∧ R v w')

def Ret (P:Program) (fn:Func) (R:Value→World→Prop):Post:=bodyPost P fn (fun e w' =>∃v,e= .returned v∧R v w')

theorem Fnc.mono {f:FuncId} {args:List Value} {R R' :Value→World→Prop} (h:Fnc P f args w R) (hr:∀v w',R v w' →R' v w'):Fnc P f args w R' :=
 ⟨h.1,h.2.mono fun _ _ ⟨v,he,hv⟩=>⟨v,he,hr _ _ hv⟩⟩

def params:Nat→List Value→Env
 |_,[]=>[]
 |k,v::l=>(k,v)::params (k+1) l

theorem params_get:∀(l:List Value) (k i:Nat) (v:Value),get (params k l) i=some v→k≤i∧l[i - k]? =some v
 |[],_,_,_,h=>by simp [params,Dd.get] at h
 |x::l,k,i,v,h=>by
  simp only [params,Dd.get] at h
  split at h
  ·rename_i hb
   have:k=i:=Nat.eq_of_beq_eq_true hb
   subst this
   simpa using h
  ·have:=params_get l (k+1) i v h
   refine ⟨by omega, ?_⟩
   have h2:i - k=(i - (k+1))+1:=by omega
   rw [h2];simpa using this.2

theorem Ap {f : FuncId} {fn : Func} {c : Code} {args : List Value} {R : Value → World → Prop} (hf : P.funcs[f]? = some fn) (hname : (fn.name == "runtime.NumGoroutine") = false) (hb : fn.body = some c)
  (hn:fn.ntmps=n) (hl:Nat.ble args.length n=true) (h:Cw P (Ret P fn R) n c (params 0 args) w):Fnc P f args w R:=by
 refine ⟨⟨fn,hf,hname,by simp [hb]⟩,calls_of_wp hf hb (h _ ⟨rfl, ?_,fun i v hv=> ?_⟩)⟩
 ·have:args.length≤n:=Nat.le_of_ble_eq_true hl
  simp [hn];omega
 ·have hg:=(params_get args 0 i v hv).2
  simp only [Nat.sub_zero] at hg
  have hlt:i<args.length:=by
   rcases Nat.lt_or_ge i args.length with h|h
   ·exact h
   ·simp [List.getElem?_eq_none h] at hg
  rw [Array.getElem?_append]
  simp only [List.size_toArray,hlt,if_true,List.getElem?_toArray]
  exact hg

theorem Bb {fn:Func} {R:Value→World→Prop} {t:Nat} {v:Value} (hr:fn.results= #[.tmp t]) (he:get E t=some v) (h:R v w):Pw n E (Ret P fn R .ret) w:=fun a ha=>
 bodyPost_ret (v:=v) (by rw [results_tmp hr];simp [Array.getD_eq_getD_getElem?,ha.has _ _ he]) ha.dfr ⟨v,rfl,h⟩
theorem Cf {fn:Func} {R:Value→World→Prop} (hr:fn.results= #[]) (h:R (.tuple #[]) w):Pw n E (Ret P fn R .normal) w:=fun _ ha=>
 bodyPost_end (v:= .tuple #[]) (by rw [results_none hr]) ha.dfr ⟨_,rfl,h⟩
theorem Bu {fn:Func} {R:Value→World→Prop} {t u:Nat} {v x:Value} (hr:fn.results= #[.tmp t, .tmp u]) (he:get E t=some v) (hx:get E u=some x) (h:R (.tuple #[v,x]) w):Pw n E (Ret P fn R .ret) w:=fun a ha=>
 bodyPost_ret (v:= .tuple #[v,x]) (by rw [results_tmp2 hr];simp [Array.getD_eq_getD_getElem?,ha.has _ _ he,ha.has _ _ hx]) ha.dfr ⟨_,rfl,h⟩

end
end Go.Dd

/-! The step layer, part 2: rules for one operation each. Nothing here names a program. -/
namespace Go.Dd
open Go Go.RowKit

abbrev b8 (x:BitVec 8):Value:= .int .u8 (x.toNat:Int)
abbrev u32 (x:BitVec 32):Value:= .int .u32 (x.toNat:Int)
abbrev i32 (x:BitVec 32):Value:= .int .i32 x.toInt

/-- The operation yields v and leaves the world alone. -/
def Ex (P:Program) (n:Nat) (E:Env) (op:Op) (ty:TypeId) (w:World) (v:Value):Prop:=
 ∀a,Fits n E a→∀d pos af g,(execOp a.eval ⟨d,op,ty,pos,af,g⟩).run P w= .ok (.value v) w
/-- The operation yields a value and a world of that kind. -/
def Xw (P:Program) (n:Nat) (E:Env) (op:Op) (ty:TypeId) (w:World) (R:Value→World→Prop):Prop:=
 ∀a,Fits n E a→∃v w',(∀d pos af g,(execOp a.eval ⟨d,op,ty,pos,af,g⟩).run P w= .ok (.value v) w')∧R v w'
/-- The operation yields nothing, and a world of that kind. -/
def Xu (P:Program) (n:Nat) (E:Env) (op:Op) (ty:TypeId) (w:World) (R:World→Prop):Prop:=
 ∀a,Fits n E a→∃w',(∀d pos af g,(execOp a.eval ⟨d,op,ty,pos,af,g⟩).run P w= .ok .skip w')∧R w'
/-- The operation calls that function. -/
def Xc (P:Program) (n:Nat) (E:Env) (op:Op) (ty:TypeId) (w:World) (f:FuncId) (args:List Value):Prop:=
 ∀a,Fits n E a→∀d pos af g,(execOp a.eval ⟨d,op,ty,pos,af,g⟩).run P w= .ok (.enter f args.toArray) w

def nth:List Oper→Nat→Option Oper
 |[],_=>none
 |o::_,0=>some o
 |_::l,k+1=>nth l k

theorem nth_eq:∀(l:List Oper) (k:Nat),l[k]? =nth l k
 |[],_=>by simp [nth]
 |_::_,0=>by simp [nth]
 |_::l,k+1=>by simpa [nth] using nth_eq l k

section
variable {P : Program} {Q : Post} {n : Nat} {E : Env} {w : World} {l0 rest : List Oper} {ty : TypeId} {pos : String} {af : Array Edge}

theorem Lw.val {d:Nat} {op:Op} {v:Value} (h:Ex P n E op ty w v) (hd:Nat.blt d n=true) (k:Lw P l0 Q n rest ((d,v)::E) w):Lw P l0 Q n (⟨some d,op,ty,pos,af,none⟩::rest) E w:=
 fun a ha=>wpList_plain rfl fun K hK=>by
  unfold Oper.wp;rw [h a ha];exact hK _ _ (k _ (ha.put v hd))
theorem Bl {d:Nat} {op:Op} {R:Value→World→Prop} (h:Xw P n E op ty w R) (hd:Nat.blt d n=true) (k:∀v w',R v w' →Lw P l0 Q n rest ((d,v)::E) w'):Lw P l0 Q n (⟨some d,op,ty,pos,af,none⟩::rest) E w:=
 fun a ha=>wpList_plain rfl fun K hK=>by
  obtain ⟨v,w',hr,hR⟩:=h a ha
  unfold Oper.wp;rw [hr];exact hK _ _ (k v w' hR _ (ha.put v hd))
theorem Ay {op:Op} {R:World→Prop} (h:Xu P n E op ty w R) (k:∀w',R w' →Lw P l0 Q n rest E w'):Lw P l0 Q n (⟨none,op,ty,pos,af,none⟩::rest) E w:=
 fun a ha=>wpList_plain rfl fun K hK=>by
  obtain ⟨w',hr,hR⟩:=h a ha
  unfold Oper.wp;rw [hr];exact hK _ _ (k w' hR _ (ha.put_none _))
theorem Lw.call {d:Nat} {op:Op} {f:FuncId} {args:List Value} {R:Value→World→Prop} (h:Xc P n E op ty w f args) (hd:Nat.blt d n=true) (hf:Fnc P f args w R)
  (k:∀v w',R v w' →Lw P l0 Q n rest ((d,v)::E) w'):Lw P l0 Q n (⟨some d,op,ty,pos,af,none⟩::rest) E w:=
 fun a ha=>wpList_plain rfl fun K hK=>by
  unfold Oper.wp;rw [h a ha]
  exact hf.2.mono fun e w' ⟨v,he,hR⟩=>by subst he;exact hK _ _ (k v w' hR _ (ha.put v hd))
theorem Cd {l:List Oper} (d:Nat) {v v' :Value} (hd:get E d=some v) (hv:v=v') (h:Lw P l0 Q n l ((d,v')::E) w):Lw P l0 Q n l E w:=fun a ha=>h a<|by
 subst hv
 refine ⟨ha.dfr,ha.size,fun i u hu=> ?_⟩
 by_cases hi:d=i
 ·subst hi;rw [get_cons_self] at hu;exact ha.has _ _ (hd.trans hu)
 ·rw [get_cons_ne _ _ hi] at hu;exact ha.has _ _ hu
/-- A guard's slot, parted. -/
theorem Bt {l:List Oper} (d:Nat) {g:Bool} (hd:get E d=some (.bool g)) (yes:g=true→Lw P l0 Q n l ((d, .bool true)::E) w) (no:g=false→Lw P l0 Q n l ((d, .bool false)::E) w):Lw P l0 Q n l E w:=by
 cases g with
 |true=>exact Cd d hd rfl (yes rfl)
 |false=>exact Cd d hd rfl (no rfl)

theorem yielded_of {a:Act} (ha:Fits n E a) {j dj:Nat} {g:Bool} (hj:(nth l0 j).bind (·.dst)=some dj) (hg:get E dj=some (.bool g)):yielded l0.toArray a.tmps j=some g:=by
 unfold yielded
 rw [List.getElem?_toArray,nth_eq,hj]
 simp [ha.has _ _ hg]

/-- A guarded operation that is carried out. -/
theorem Lw.take {d:Option Tmp} {op:Op} {j dj:Nat} {g:Bool} (hj:(nth l0 j).bind (·.dst)=some dj) (hg:get E dj=some (.bool g))
  (h:Lw P l0 Q n (⟨d,op,ty,pos,af,none⟩::rest) E w):Lw P l0 Q n (⟨d,op,ty,pos,af,some (j,g)⟩::rest) E w:=fun a ha=>by
 have h1:=h a ha
 unfold wpList at h1 ⊢
 rw [if_pos (by simp [Region.wanted])] at h1
 rw [if_pos (by simp [Region.wanted,yielded_of ha hj hg])]
 exact h1
/-- One that is passed over. -/
theorem Ai {d:Nat} {op:Op} {j dj:Nat} {g g' :Bool} (hj:(nth l0 j).bind (·.dst)=some dj) (hg:get E dj=some (.bool g')) (hne:(g==g')=false) (hd:Nat.blt d n=true)
  (h:Lw P l0 Q n rest ((d,undef)::E) w):Lw P l0 Q n (⟨some d,op,ty,pos,af,some (j,g)⟩::rest) E w:=fun a ha=>by
 unfold wpList
 rw [if_neg]
 ·exact h _ (ha.put _ hd)
 ·simp only [Region.wanted,yielded_of ha hj hg]
  cases g<;>cases g' <;>simp_all
/-! ### Pure operations -/
section
variable {x y z : Operand} {v u : Value} {t s : TypeId}

theorem Ad (hx:ev E x=some v):Ex P n E (.move x) ty w v:=fun a ha _ _ _ _=>by simp [execOp,ha.ev hx]
theorem Ac (hx:ev E x=some v):Ex P n E (.assign x) ty w v:=fun a ha _ _ _ _=>by simp [execOp,ha.ev hx]
/-- A value told otherwise. -/
theorem Ex.as {op:Op} (h:Ex P n E op ty w v) (e:v=u):Ex P n E op ty w u:=e ▸ h
theorem As (hc:ev E x=some (.bool true)) (hy:ev E y=some v):Ex P n E (.pick x y z) ty w v:=fun a ha _ _ _ _=>by simp [execOp,ha.ev hc,ha.ev hy,asBool]
theorem Bd (hc:ev E x=some (.bool false)) (hz:ev E z=some v):Ex P n E (.pick x y z) ty w v:=fun a ha _ _ _ _=>by simp [execOp,ha.ev hc,ha.ev hz,asBool]
theorem Be {a0:Addr} (hx:ev E x=some (.pointer (some a0))):Ex P n E (.nilCheck x) ty w (.pointer (some a0)):=fun a ha _ _ _ _=>by simp [execOp,ha.ev hx]
theorem guard_int {op:BinOp} {k:IntKind} {m:Int}:eqGuard op t x y (.int k m) u=pure ():=by cases op<;>rfl

section ints
variable {k : IntKind} {m q : Int}
theorem C5 {op:BinOp} {r:Value} (hx:ev E x=some (.int k m)) (hy:ev E y=some u) (h:(binOp op t (.int k m) u).run P w= .ok r w):Ex P n E (.binOp op t x y s) ty w r:=fun a ha _ _ _ _=>by
 simp only [execOp,ha.ev hx,ha.ev hy,guard_int]
 simp [h]

theorem Ex.add (hx:ev E x=some (.int k m)) (hy:ev E y=some (.int k q)):Ex P n E (.binOp .add t x y s) ty w (.int k (k.wrap (m+q))):=C5 hx hy (by simp [go_sem,Op.intArith])
theorem Ex.subt (hx:ev E x=some (.int k m)) (hy:ev E y=some (.int k q)):Ex P n E (.binOp .sub t x y s) ty w (.int k (k.wrap (m - q))):=C5 hx hy (by simp [go_sem,Op.intArith])
theorem Ex.mul (hx:ev E x=some (.int k m)) (hy:ev E y=some (.int k q)):Ex P n E (.binOp .mul t x y s) ty w (.int k (k.wrap (m*q))):=C5 hx hy (by simp [go_sem,Op.intArith])
theorem Bc (hx:ev E x=some (.int .i64 m)) (hy:ev E y=some (.int .i64 q)) (h: -9223372036854775808≤m+q∧m+q≤9223372036854775807):Ex P n E (.binOp .add t x y s) ty w (.int .i64 (m+q)):=by
 have:=Ex.add (P:=P) (n:=n) (w:=w) (ty:=ty) (t:=t) (s:=s) hx hy;rwa [IntWalk.i64_in _ h] at this
theorem Cx (hx:ev E x=some (.int .i64 m)) (hy:ev E y=some (.int .i64 q)) (h: -9223372036854775808≤m - q∧m - q≤9223372036854775807):Ex P n E (.binOp .sub t x y s) ty w (.int .i64 (m - q)):=by
 have:=Ex.subt (P:=P) (n:=n) (w:=w) (ty:=ty) (t:=t) (s:=s) hx hy;rwa [IntWalk.i64_in _ h] at this
theorem Ca (hx:ev E x=some (.int .i64 m)) (hy:ev E y=some (.int .i64 q)) (h: -9223372036854775808≤m*q∧m*q≤9223372036854775807):Ex P n E (.binOp .mul t x y s) ty w (.int .i64 (m*q)):=by
 have:=Ex.mul (P:=P) (n:=n) (w:=w) (ty:=ty) (t:=t) (s:=s) hx hy;rwa [IntWalk.i64_in _ h] at this
/-- Sums of natural numbers stay such. -/
theorem Ex.addN {i j:Nat} (hx:ev E x=some (.int .i64 (i:Int))) (hy:ev E y=some (.int .i64 (j:Int))) (h:i+j≤9223372036854775807):Ex P n E (.binOp .add t x y s) ty w (.int .i64 ((i+j:Nat):Int)):=by
 have:=Bc (P:=P) (n:=n) (w:=w) (ty:=ty) (t:=t) (s:=s) hx hy (by omega)
 rwa [← Int.natCast_add] at this
theorem Ex.mulN {i j:Nat} (hx:ev E x=some (.int .i64 (i:Int))) (hy:ev E y=some (.int .i64 (j:Int))) (h:i*j≤9223372036854775807):Ex P n E (.binOp .mul t x y s) ty w (.int .i64 ((i*j:Nat):Int)):=by
 have e:(i:Int)*(j:Int)=((i*j:Nat):Int):=(Int.natCast_mul i j).symm
 have:=Ca (P:=P) (n:=n) (w:=w) (ty:=ty) (t:=t) (s:=s) hx hy (by rw [e];omega)
 rwa [e] at this
theorem Ct (hx:ev E x=some (.int .i64 m)) (hy:ev E y=some (.int .i64 q)) (h0:0≤m∧m≤9223372036854775807) (h1:1≤q):Ex P n E (.binOp .quo t x y s) ty w (.int .i64 (m / q)):=C5 hx hy (by
 have:¬q=0:=by omega
 simp [go_sem,Op.intDiv,this,IntWalk.i64_quo m q ⟨h0.1,h0.2,h1⟩])
theorem Ex.quoN {i j:Nat} (hx:ev E x=some (.int .i64 (i:Int))) (hy:ev E y=some (.int .i64 (j:Int))) (h0:i≤9223372036854775807) (h1:1≤j):Ex P n E (.binOp .quo t x y s) ty w (.int .i64 ((i / j:Nat):Int)):=by
 have:=Ct (P:=P) (n:=n) (w:=w) (ty:=ty) (t:=t) (s:=s) hx hy (by omega) (by omega)
 rwa [← Int.natCast_ediv] at this
theorem Ex.remI (hx:ev E x=some (.int .i64 m)) (hy:ev E y=some (.int .i64 q)) (h0:0≤m) (h1:q≠0):Ex P n E (.binOp .rem t x y s) ty w (.int .i64 (m % q)):=C5 hx hy (by
 simp [go_sem,Op.intDiv,h1,IntWalk.rem_in m q h0])
theorem Ex.remN {i j:Nat} (hx:ev E x=some (.int .i64 (i:Int))) (hy:ev E y=some (.int .i64 (j:Int))) (h1:1≤j):Ex P n E (.binOp .rem t x y s) ty w (.int .i64 ((i % j:Nat):Int)):=by
 have:=Ex.remI (P:=P) (n:=n) (w:=w) (ty:=ty) (t:=t) (s:=s) hx hy (by omega) (by omega)
 rwa [← Int.natCast_emod] at this

theorem Bh (hx:ev E x=some (.int k m)) (hy:ev E y=some (.int k q)):Ex P n E (.binOp .lss t x y s) ty w (.bool (decide (m<q))):=C5 hx hy (by simp [go_sem])
theorem C8 (hx:ev E x=some (.int k m)) (hy:ev E y=some (.int k q)):Ex P n E (.binOp .leq t x y s) ty w (.bool (decide (m≤q))):=C5 hx hy (by simp [go_sem])
theorem Cr (hx:ev E x=some (.int k m)) (hy:ev E y=some (.int k q)):Ex P n E (.binOp .gtr t x y s) ty w (.bool (decide (q<m))):=C5 hx hy (by simp [go_sem])
theorem Cu (hx:ev E x=some (.int k m)) (hy:ev E y=some (.int k q)):Ex P n E (.binOp .geq t x y s) ty w (.bool (decide (q≤m))):=C5 hx hy (by simp [go_sem])
theorem beq_dec (m q:Int):(m==q)=decide (m=q):=by by_cases h:m=q<;>simp [h]
theorem Cn (hx:ev E x=some (.int k m)) (hy:ev E y=some (.int k q)):Ex P n E (.binOp .eql t x y s) ty w (.bool (decide (m=q))):=C5 hx hy (by rw [binOp_eql,beq_dec];rfl)
theorem B7 (hx:ev E x=some (.int k m)) (hy:ev E y=some (.int k q)):Ex P n E (.binOp .neq t x y s) ty w (.bool (!decide (m=q))):=C5 hx hy (by rw [binOp_neq,bne,beq_dec];rfl)

theorem Ex.shlI {k' :IntKind} {j:Nat} (hx:ev E x=some (.int .i64 m)) (hy:ev E y=some (.int k' (j:Int))) (hj:j≤64) (h: -9223372036854775808≤m*2 ^ j∧m*2 ^ j≤9223372036854775807):Ex P n E (.binOp .shl t x y s) ty w (.int .i64 (m*2 ^ j)):=C5 hx hy (by
 have hmin:min j IntKind.i64.bits=j:=Nat.min_eq_left hj
 simp [go_sem,Op.shift,hmin,IntWalk.i64_in _ h])
theorem Ex.shrI {k' :IntKind} {j:Nat} (hx:ev E x=some (.int .i64 m)) (hy:ev E y=some (.int k' (j:Int))) (hj:j≤64):Ex P n E (.binOp .shr t x y s) ty w (.int .i64 (m / 2 ^ j)):=C5 hx hy (by
 have hmin:min j IntKind.i64.bits=j:=Nat.min_eq_left hj
 have hp:(0:Int)≤2 ^ j:=Int.le_of_lt (Int.pow_pos (by decide))
 simp [go_sem,Op.shift,hmin,Int.fdiv_eq_ediv_of_nonneg _ hp])
theorem Ex.convI {m:Int} (hs:(P.underlying s).isSome=true) (hd:P.underlying t=some (.int k)) {k' :IntKind} (hx:ev E x=some (.int k' m)):Ex P n E (.convert s t x) ty w (.int k (k.wrap m)):=fun a ha _ _ _ _=>by
 obtain ⟨d,hd'⟩:=Option.isSome_iff_exists.mp hs
 simp [execOp,ha.ev hx,convert,run_underlying hd',run_underlying hd,Conv.intToInt]
theorem Ex.convI64 {m:Int} (hs:(P.underlying s).isSome=true) (hd:P.underlying t=some (.int .i64)) {k' :IntKind} (hx:ev E x=some (.int k' m)) (h: -9223372036854775808≤m∧m≤9223372036854775807):Ex P n E (.convert s t x) ty w (.int .i64 m):=by
 have:=Ex.convI (P:=P) (n:=n) (w:=w) (ty:=ty) hs hd hx;rwa [IntWalk.i64_in _ h] at this

theorem Ex.min2 (hx:ev E x=some (.int k m)) (hy:ev E y=some (.int k q)) {ts:Array TypeId}:Ex P n E (.call {callee:= .builtin .min,args:= #[x,y],argTypes:=ts}) ty w (.int k (if q<m then q else m)):=fun a ha _ _ _ _=>by
 simp [execOp,resolve,invoke,builtin,ha.ev hx,ha.ev hy,Builtin.min_,Builtin.min2]
theorem Ex.max2 (hx:ev E x=some (.int k m)) (hy:ev E y=some (.int k q)) {ts:Array TypeId}:Ex P n E (.call {callee:= .builtin .max,args:= #[x,y],argTypes:=ts}) ty w (.int k (if m<q then q else m)):=fun a ha _ _ _ _=>by
 simp [execOp,resolve,invoke,builtin,ha.ev hx,ha.ev hy,Builtin.max_,Builtin.max2]
end ints

/-! ### Bits -/
theorem ofInt_toInt {k:Nat} (x:BitVec k):BitVec.ofInt k x.toInt=x:=BitVec.ofInt_toInt
theorem wrap_i32_bv (n:Int):IntKind.i32.wrap n=(BitVec.ofInt 32 n).toInt:=by
 rw [BitVec.toInt_ofInt,IntKind.wrap_i32,Int.bmod_def]
 omega
theorem wrap_u8_int (n:Int):IntKind.u8.wrap n=((BitVec.ofInt 8 n).toNat:Int):=by
 rw [BitVec.toNat_ofInt,IntKind.wrap_u8];omega
section u32
variable {p q : BitVec 32}
end u32

section b8
variable {p q : BitVec 8}
theorem b8_eq:((p.toNat:Int)=(q.toNat:Int))↔p=q:=by
 constructor
 ·intro h;exact BitVec.eq_of_toNat_eq (by omega)
 ·intro h;rw [h]
theorem Ce (hx:ev E x=some (b8 p)) (hy:ev E y=some (b8 q)):Ex P n E (.binOp .eql t x y s) ty w (.bool (decide (p=q))):=by
 have:=Cn (P:=P) (n:=n) (w:=w) (ty:=ty) (t:=t) (s:=s) hx hy;simp only [b8_eq] at this;exact this
theorem Ex.neq8 (hx:ev E x=some (b8 p)) (hy:ev E y=some (b8 q)):Ex P n E (.binOp .neq t x y s) ty w (.bool (!decide (p=q))):=by
 have:=B7 (P:=P) (n:=n) (w:=w) (ty:=ty) (t:=t) (s:=s) hx hy;simp only [b8_eq] at this;exact this
end b8

section i32
variable {p q : BitVec 32}
theorem Cy (hx:ev E x=some (i32 p)) (hy:ev E y=some (i32 q)):Ex P n E (.binOp .add t x y s) ty w (i32 (p+q)):=by
 refine (Ex.add hx hy).as ?_
 rw [wrap_i32_bv,BitVec.ofInt_add,ofInt_toInt,ofInt_toInt]
theorem Ex.muli32 (hx:ev E x=some (i32 p)) (hy:ev E y=some (i32 q)):Ex P n E (.binOp .mul t x y s) ty w (i32 (p*q)):=by
 refine (Ex.mul hx hy).as ?_
 rw [wrap_i32_bv,BitVec.ofInt_mul,ofInt_toInt,ofInt_toInt]
theorem i32_eq:(p.toInt=q.toInt)↔p=q:=BitVec.toInt_inj
theorem Ex.eqli32 (hx:ev E x=some (i32 p)) (hy:ev E y=some (i32 q)):Ex P n E (.binOp .eql t x y s) ty w (.bool (decide (p=q))):=by
 have:=Cn (P:=P) (n:=n) (w:=w) (ty:=ty) (t:=t) (s:=s) hx hy;simp only [i32_eq] at this;exact this
theorem Ex.neqi32 (hx:ev E x=some (i32 p)) (hy:ev E y=some (i32 q)):Ex P n E (.binOp .neq t x y s) ty w (.bool (!decide (p=q))):=by
 have:=B7 (P:=P) (n:=n) (w:=w) (ty:=ty) (t:=t) (s:=s) hx hy;simp only [i32_eq] at this;exact this
end i32

/-! ### Conversions -/
theorem Ex.conv8 {k' :IntKind} {m:Int} (hs:(P.underlying s).isSome=true) (hd:P.underlying t=some (.int .u8)) (hx:ev E x=some (.int k' m)):Ex P n E (.convert s t x) ty w (b8 (BitVec.ofInt 8 m)):=by
 have:=Ex.convI (P:=P) (n:=n) (w:=w) (ty:=ty) hs hd hx;rwa [wrap_u8_int] at this
theorem Ex.convi32 {k' :IntKind} {m:Int} (hs:(P.underlying s).isSome=true) (hd:P.underlying t=some (.int .i32)) (hx:ev E x=some (.int k' m)):Ex P n E (.convert s t x) ty w (i32 (BitVec.ofInt 32 m)):=by
 have:=Ex.convI (P:=P) (n:=n) (w:=w) (ty:=ty) hs hd hx;rwa [wrap_i32_bv] at this
theorem Ex.conv8_I {p:BitVec 8} (hs:(P.underlying s).isSome=true) (hd:P.underlying t=some (.int .i64)) (hx:ev E x=some (b8 p)):Ex P n E (.convert s t x) ty w (.int .i64 (p.toNat:Int)):=Ex.convI64 hs hd hx (by have:=p.isLt;omega)
theorem Ex.convi32_I {p:BitVec 32} (hs:(P.underlying s).isSome=true) (hd:P.underlying t=some (.int .i64)) (hx:ev E x=some (i32 p)):Ex P n E (.convert s t x) ty w (.int .i64 p.toInt):=Ex.convI64 hs hd hx (by have h1:=BitVec.toInt_lt (x:=p);have h2:=BitVec.le_toInt (x:=p);omega)
theorem Ex.negI {m:Int} {t:TypeId} (hx:ev E x=some (.int .i64 m)) (h: -9223372036854775807≤m∧m≤9223372036854775807):Ex P n E (.unOp .neg t x) ty w (.int .i64 (-m)):=fun a ha _ _ _ _=>by
 have:IntKind.i64.wrap (-m)= -m:=IntWalk.i64_in _ (by omega)
 simp [execOp,ha.ev hx,Op.unary,Op.intArith,this]

/-! ### Bools -/
theorem Bx {b:Bool} {t:TypeId} (hx:ev E x=some (.bool b)):Ex P n E (.unOp .not t x) ty w (.bool (!b)):=fun a ha _ _ _ _=>by simp [execOp,ha.ev hx,Op.unary]
/-! ### Tuples -/
theorem Ax {vs:List Value} {i:Nat} (hx:ev E x=some (.tuple vs.toArray)) (hv:vs[i]? =some v):Ex P n E (.extract x i) ty w v:=fun a ha _ _ _ _=>by
 simp [execOp,ha.ev hx,Instr.extract,hv]

/-! ### Calls -/
theorem run_callFunc {f : FuncId} {args : Array Value} (hf : ∃ fn, P.funcs[f]? = some fn ∧ (fn.name == "runtime.NumGoroutine") = false ∧ fn.body.isSome = true) : (callFunc f args).run P w = .ok (.enter f args) w := by
 obtain ⟨fn,h1,h2,h3⟩:=hf
 have h4:fn.body.isNone=false:=by cases hb:fn.body<;>simp_all
 unfold callFunc
 simp only [Sem.run_bind,program,Sem.run,Result.andThen_ok,h1,h2,h4,Bool.false_eq_true,if_false]
 rfl

def evs (E:Env):List Operand→Option (List Value)
 |[]=>some []
 |x::l=>match ev E x,evs E l with
  |some v,some vs=>some (v::vs)
  |_,_=>none

theorem Fits.evs {a:Act} (h:Fits n E a):∀{l:List Operand} {vs:List Value},evs E l=some vs→l.map a.eval=vs
 |[],vs,hl=>by simp [Dd.evs] at hl;simp [hl]
 |x::l,vs,hl=>by
  simp only [Dd.evs] at hl
  split at hl
  ·rename_i v us h1 h2
   simp only [Option.some.injEq] at hl
   subst hl
   simp [h.ev h1,Fits.evs h h2]
  ·simp at hl

theorem C7 {f:FuncId} {xs ys:List Operand} {vs us:List Value} (hx:Dd.evs E xs=some vs) (hy:Dd.evs E ys=some us):Ex P n E (.makeFunc (.func f) xs.toArray ys.toArray) ty w (.func (.func f) vs.toArray us.toArray):=fun a ha _ _ _ _=>by
 have h1:xs.toArray.map a.eval=vs.toArray:=by rw [List.map_toArray,ha.evs hx]
 have h2:ys.toArray.map a.eval=us.toArray:=by rw [List.map_toArray,ha.evs hy]
 simp [execOp,h1,h2,Instr.makeFunc]
theorem Xc.mk {f : FuncId} {xs : List Operand} {vs : List Value} {ts : Array TypeId} (hf : ∃ fn, P.funcs[f]? = some fn ∧ (fn.name == "runtime.NumGoroutine") = false ∧ fn.body.isSome = true) (hx : Dd.evs E xs = some vs) :
  Xc P n E (.call {callee:= .value (.func f),args:=xs.toArray,argTypes:=ts}) ty w f vs:=fun a ha _ _ _ _=>by
 have hmap:xs.toArray.map a.eval=vs.toArray:=by rw [List.map_toArray,ha.evs hx]
 simp [execOp,resolve,hmap,Act.eval,Deferred.ofValue,invoke,run_callFunc (P:=P) (w:=w) hf]
/-- A call of a function value. -/
theorem Xc.val {f : FuncId} {c : Operand} {p q : List Value} {xs : List Operand} {vs : List Value} {ts : Array TypeId} (hf : ∃ fn, P.funcs[f]? = some fn ∧ (fn.name == "runtime.NumGoroutine") = false ∧ fn.body.isSome = true)
  (hc:ev E c=some (.func (.func f) p.toArray q.toArray)) (hx:Dd.evs E xs=some vs):
  Xc P n E (.call {callee:= .value c,args:=xs.toArray,argTypes:=ts}) ty w f (p++vs++q):=fun a ha _ _ _ _=>by
 have hmap:xs.toArray.map a.eval=vs.toArray:=by rw [List.map_toArray,ha.evs hx]
 simp [execOp,resolve,hmap,ha.ev hc,Deferred.ofValue,invoke,run_callFunc (P:=P) (w:=w) hf]

theorem Al {d:Nat} {f:FuncId} {xs:List Operand} {vs:List Value} {ts:Array TypeId} {R:Value→World→Prop} (hx:evs E xs=some vs) (hd:Nat.blt d n=true) (hf:Fnc P f vs w R)
  (k:∀v w',R v w' →Lw P l0 Q n rest ((d,v)::E) w'):Lw P l0 Q n (⟨some d, .call {callee:= .value (.func f),args:=xs.toArray,argTypes:=ts},ty,pos,af,none⟩::rest) E w:=
 Lw.call (Xc.mk hf.1 hx) hd hf k
theorem Lw.callV {d:Nat} {f:FuncId} {c:Operand} {p q:List Value} {xs:List Operand} {vs:List Value} {ts:Array TypeId} {R:Value→World→Prop} (hc:ev E c=some (.func (.func f) p.toArray q.toArray)) (hx:evs E xs=some vs) (hd:Nat.blt d n=true)
  (hf:Fnc P f (p++vs++q) w R) (k:∀v w',R v w' →Lw P l0 Q n rest ((d,v)::E) w'):Lw P l0 Q n (⟨some d, .call {callee:= .value c,args:=xs.toArray,argTypes:=ts},ty,pos,af,none⟩::rest) E w:=
 Lw.call (Xc.val hf.1 hc hx) hd hf k
end
end
end Go.Dd

/-! The step layer, part 3: memory. Nothing here names a program. -/
namespace Go.Dd
open Go Go.RowKit

/-- Block b holds these cells, of elements of type T; none is frozen. -/
def Blk (w:World) (b:Nat) (T:TypeId) (cs:List Value):Prop:=w.heap[b]? =some (.cells cs.toArray T (0,0))

/-- What can be read from an address on. -/
def Cells (w:World) (ao:Option Addr) (ys:List Value):Prop:=∀a,ao=some a→∀j u,ys[j]? =some u→w.cell? (a.add j)=some u

/-- A slice value of n elements of sz cells each, that reads so. -/
structure Sl (w:World) (sz:Nat) (v:Value) (n:Nat) (xs:List Value):Prop where
 len:xs.length=n*sz
 ex:∃ao cap,v= .slice ao n cap∧n≤cap∧cap≤maxLen∧(ao=none→cap=0)∧Cells w ao xs

/-- The place j cells behind a slice's head. -/
def elemPtr (v:Value) (j:Nat):Value:=match v with
 | .slice ao _ _=> .pointer (ao.map (·.add j))
 |_=>undef

/-- A slice value of n elements, whatever it holds. -/
def Shp (v:Value) (n:Nat):Prop:=∃ao cap,v= .slice ao n cap∧n≤cap∧cap≤maxLen∧(ao=none→cap=0)
theorem Sl.shp {w:World} {sz:Nat} {v:Value} {n:Nat} {xs:List Value} (h:Sl w sz v n xs):Shp v n:=by
 obtain ⟨_,ao,cap,h1,h2,h3,h4,_⟩:=h
 exact ⟨ao,cap,h1,h2,h3,h4⟩

/-- A slice of one-cell elements. -/
abbrev SlT {α:Type} (enc:α→Value) (w:World) (v:Value) (l:List α):Prop:=Sl w 1 v l.length (l.map enc)

theorem blk_lt {w:World} {b:Nat} {T:TypeId} {cs:List Value} (h:Blk w b T cs):b<w.heap.size:=(Array.getElem?_eq_some_iff.1 h).1
theorem add_add (a:Addr) (i j:Nat):(a.add i).add j=if i+j=0 then a else {a with off:=a.off+(i+j),spot:=none}:=by
 unfold Addr.add
 by_cases hi:i=0
 ·subst hi;simp
 ·by_cases hj:j=0
  ·subst hj;simp [hi]
  ·have:¬(i+j=0):=by omega
   simp [hi,hj];omega
theorem add_add' (a:Addr) (i j:Nat):(a.add i).add j=a.add (i+j):=by rw [add_add];rfl
theorem add_block (a:Addr) (i:Nat):(a.add i).block=a.block:=by unfold Addr.add;split<;>rfl
theorem add_lit (b o i:Nat):(⟨b,o,none⟩:Addr).add i=⟨b,o+i,none⟩:=by unfold Addr.add;split<;>simp_all
theorem Blk.cell {w:World} {b:Nat} {T:TypeId} {cs:List Value} (h:Blk w b T cs) (o:Nat):w.cell? ⟨b,o,none⟩=cs[o]? :=by
 rw [cell_of_row w b o _ T (0,0) h];simp

/-! ### What stays -/
theorem Blk.keep {w w' :World} {b:Nat} {T:TypeId} {cs:List Value} (h:Blk w b T cs) (k:w'.heap[b]? =w.heap[b]?):Blk w' b T cs:=by unfold Blk at*;rw [k];exact h
theorem Blk.bl {w w' :World} {b B:Nat} {T:TypeId} {cs:List Value} (h:Blk w b T cs) (hb:Below B w w') (hB:b<B):Blk w' b T cs:=h.keep (hb.block b hB)
theorem Blk.bs {w w' :World} {b:Nat} {T:TypeId} {cs:List Value} (h:Blk w b T cs) (hb:Below w.heap.size w w'):Blk w' b T cs:=h.bl hb (blk_lt h)
theorem Blk.by {w w' :World} {b:Nat} {T:TypeId} {cs:List Value} {r:Option Nat} (h:Blk w b T cs) (hb:w.grownBy w' r) (hne:some b≠r):Blk w' b T cs:=h.keep (hb.block b (blk_lt h) hne)

theorem Cells.keep {w w' :World} {ao:Option Addr} {ys:List Value} (h:Cells w ao ys) (k:∀a,ao=some a→ys≠[]→w'.heap[a.block]? =w.heap[a.block]?):Cells w' ao ys:=fun a ha j u hu=>by
 have hne:ys≠[]:=by intro h0;subst h0;simp at hu
 have h1:=h a ha j u hu
 have:w'.cell? (a.add j)=w.cell? (a.add j):=World.cell?_of_block (by rw [add_block];exact k a ha hne)
 rw [this];exact h1
theorem Cells.lt {w:World} {a:Addr} {ys:List Value} (h:Cells w (some a) ys) (hne:ys≠[]):a.block<w.heap.size:=by
 obtain ⟨u,ys,rfl⟩:=List.exists_cons_of_ne_nil hne
 have:=World.block_lt_of_cell? w (a.add 0) (h a rfl 0 u (by simp))
 rwa [add_block] at this
theorem Sl.keep {w w' :World} {sz:Nat} {v:Value} {n:Nat} {xs:List Value} (h:Sl w sz v n xs) (k:∀b,b<w.heap.size→v.ownBlock=some b→w'.heap[b]? =w.heap[b]?):Sl w' sz v n xs:=by
 obtain ⟨h1,ao,cap,rfl,h2,h3,h4,h5⟩:=h
 refine ⟨h1,ao,cap,rfl,h2,h3,h4,h5.keep fun a ha hne=> ?_⟩
 subst ha
 exact k _ (Cells.lt h5 hne) rfl
theorem Sl.bs {w w' :World} {sz:Nat} {v:Value} {n:Nat} {xs:List Value} (h:Sl w sz v n xs) (hb:Below w.heap.size w w'):Sl w' sz v n xs:=h.keep fun b hlt _=>hb.block b hlt
theorem Sl.by {w w' :World} {sz:Nat} {v:Value} {n:Nat} {xs:List Value} {r:Option Nat} (h:Sl w sz v n xs) (hb:w.grownBy w' r) (hne:v.ownBlock=none∨v.ownBlock≠r):Sl w' sz v n xs:=h.keep fun b hlt hv=>hb.block b hlt (by rcases hne with h|h<;>simp_all)
theorem Sl.le {w:World} {sz:Nat} {v:Value} {n:Nat} {xs:List Value} (h:Sl w sz v n xs):n≤9223372036854775807:=by
 obtain ⟨_,ao,cap,_,h1,h2,_⟩:=h
 unfold maxLen at h2;omega
theorem Sl.nil (w:World) (sz:Nat):Sl w sz (.slice none 0 0) 0 []:=⟨by simp,none,0,rfl,Nat.le_refl _,Nat.zero_le _,fun _=>rfl,fun a ha=>by cases ha⟩

theorem Sl.one {w:World} {sz:Nat} {v:Value} {n:Nat} {xs:List Value} (h:Sl w sz v n xs):v.cells=[v].toArray:=by
 obtain ⟨_,ao,cap,rfl,_⟩:=h;rfl
theorem Sl.one' {w:World} {sz:Nat} {v:Value} {n:Nat} {xs:List Value} (h:Sl w sz v n xs):v.oneCell' =true:=by
 obtain ⟨_,ao,cap,rfl,_⟩:=h;rfl

theorem own_sl {w:World} {base:Nat} {e:TypeId} {sz:Nat} {v:Value} {n:Nat} {xs:List Value} (h:w.ownsRow base e sz v n xs):Sl w sz v n xs:=by
 obtain ⟨h1,h2⟩:=h
 rcases h2 with ⟨rfl,rfl⟩|⟨g,cap,cur,rfl,hb,hg,hnc,hcm,hcs,htake⟩
 ·have:xs=[]:=List.eq_nil_of_length_eq_zero (by simpa using h1)
  subst this;exact Sl.nil w sz
 ·refine ⟨h1,some ⟨g,0,none⟩,cap,rfl,hnc,hcm,(fun h=>by cases h),fun a ha j u hu=> ?_⟩
  simp only [Option.some.injEq] at ha
  subst ha
  exact World.ownsRow.cells ⟨h1, .inr ⟨g,cap,cur,rfl,hb,hg,hnc,hcm,hcs,htake⟩⟩ (g:=g) rfl j u hu

theorem own_block {w:World} {base:Nat} {e:TypeId} {sz:Nat} {v:Value} {n:Nat} {xs:List Value} (h:w.ownsRow base e sz v n xs):∀b,v.ownBlock=some b→base≤b∧b<w.heap.size:=h.lt
theorem own_bs {w w' :World} {base:Nat} {e:TypeId} {sz:Nat} {v:Value} {n:Nat} {xs:List Value} (h:w.ownsRow base e sz v n xs) (hb:Below w.heap.size w w'):w'.ownsRow base e sz v n xs:=
 h.kept (row:=none) ⟨hb.os,hb.tape,hb.output,hb.size,fun k hk _=>hb.block k hk⟩ (by cases hv:v.ownBlock<;>simp)
theorem _root_.Go.World.ownsRow.bs {w w' :World} {base:Nat} {e:TypeId} {sz:Nat} {v:Value} {n:Nat} {xs:List Value} (h:w.ownsRow base e sz v n xs) (hb:Below w.heap.size w w'):w'.ownsRow base e sz v n xs:=own_bs h hb
/-- A world further on, from the start. -/
theorem _root_.Go.RowKit.Below.bs {a b c:World} (h:Below a.heap.size a b) (k:Below b.heap.size b c):Below a.heap.size a c:=h.trans (k.mono h.size)
theorem grown_below {w w' :World} {r:Option Nat} (h:w.grownBy w' r) {B:Nat} (hB:B≤w.heap.size) (hr:∀k,r=some k→B≤k):Below B w w' :=(Below.refl B w).grown h hB hr
theorem below_grown {w w' :World} (hb:Below w.heap.size w w') (r:Option Nat):w.grownBy w' r:=⟨hb.os,hb.tape,hb.output,hb.size,fun k hk _=>hb.block k hk⟩
theorem grown_trans {a b c:World} {r:Option Nat} (h:a.grownBy b r) (k:b.grownBy c r):a.grownBy c r:=
 ⟨k.os.trans h.os,k.tape.trans h.tape,k.output.trans h.output,Nat.le_trans h.size k.size,fun i hi hne=>(k.block i (Nat.lt_of_lt_of_le hi h.size) hne).trans (h.block i hi hne)⟩
theorem grown_refl (w:World) (r:Option Nat):w.grownBy w r:=⟨rfl,rfl,rfl,Nat.le_refl _,fun _ _ _=>rfl⟩
theorem below_size {B:Nat} {w w' :World} (h:Below B w w'):w.heap.size≤w'.heap.size:=h.size
theorem below_new (w:World) (o:Obj):Below w.heap.size w (w.alloc o):=(Below.refl _ _).alloc (Nat.le_refl _) o
theorem below_tr {B:Nat} {a b c:World} (h:Below B a b) (k:Below b.heap.size b c) (hB:B≤a.heap.size):Below B a c:=h.trans (k.mono (Nat.le_trans hB h.size))

theorem bt {a b c:World} (h:Below a.heap.size a b) (k:Below b.heap.size b c):Below a.heap.size a c:=below_tr h k (Nat.le_refl _)

/-- A slice type: its elements' type, their cells, whether they are structs or arrays. -/
structure STy (P:Program) (t e:TypeId) (sz:Nat):Prop where
 u:P.underlying t=some (.slice e)
 s:∀w,(sizeOf e).run P w= .ok sz w
/-- An element type that can be made anew. -/
structure ITy (P:Program) (e:TypeId) (z:List Value) (bytes:Nat):Prop where
 i:∃i,P.info? e=some i∧i.size=z.length∧i.bytes=bytes∧∃zv,i.zero=some zv∧zv.cells=z.toArray

section
variable {P : Program} {Q : Post} {n : Nat} {E : Env} {w : World} {l0 rest : List Oper} {ty : TypeId} {pos : String} {af : Array Edge}
variable {x y z : Operand} {v u : Value} {t s e : TypeId} {sz : Nat}

/-! ### Reading -/
theorem Av {k:Nat} {xs:List Value} (hu:STy P t e sz) (hx:ev E x=some v) (h:Sl w sz v k xs):Ex P n E (.call {callee:= .builtin .len,args:= #[x],argTypes:= #[t]}) ty w (.int .i64 (k:Int)):=fun a ha _ _ _ _=>by
 obtain ⟨_,ao,cap,rfl,_⟩:=h
 simp [execOp,resolve,invoke,builtin,ha.ev hx,Builtin.len_,run_underlying hu.u,goInt]
theorem Ex.capS {ao:Option Addr} {k cap:Nat} (hu:STy P t e sz) (hx:ev E x=some (.slice ao k cap)):Ex P n E (.call {callee:= .builtin .cap,args:= #[x],argTypes:= #[t]}) ty w (.int .i64 (cap:Int)):=fun a ha _ _ _ _=>by
 simp [execOp,resolve,invoke,builtin,ha.ev hx,Builtin.cap_,run_underlying hu.u,goInt]

theorem Bz {k:IntKind} {m:Int} {c:Nat} {xs:List Value} (hu:STy P t e sz) (hx:ev E x=some v) (hy:ev E y=some (.int k m)) (h:Sl w sz v c xs) (j:Nat) (hm:m=(j:Int)) (hj:j<c):
  Ex P n E (.indexAddr t x y) ty w (elemPtr v (j*sz)):=fun a ha _ _ _ _=>by
 obtain ⟨_,ao,cap,rfl,hc,_,hn,_⟩:=h
 subst hm
 cases ao with
 |none=>have:=hn rfl;omega
 |some ad=>
  have h1:(0:Int)≤(j:Int)∧(j:Int)<(c:Int):=by omega
  have h2:¬c≤j:=by omega
  simp [execOp,ha.ev hx,ha.ev hy,Instr.indexAt,asIntOf,run_underlying hu.u,h1,hj,hu.s w,elemPtr]

/-- The same, in whatever world. -/
theorem Cm {k:IntKind} {m:Int} {c:Nat} (hu:STy P t e 1) (hx:ev E x=some v) (hy:ev E y=some (.int k m)) (h:Shp v c) (j:Nat) (hm:m=(j:Int)) (hj:j<c):Ex P n E (.indexAddr t x y) ty w (elemPtr v j):=fun a ha _ _ _ _=>by
 obtain ⟨ao,cap,rfl,hc,_,hn⟩:=h
 subst hm
 cases ao with
 |none=>have:=hn rfl;omega
 |some ad=>
  have h1:(0:Int)≤(j:Int)∧(j:Int)<(c:Int):=by omega
  simp [execOp,ha.ev hx,ha.ev hy,Instr.indexAt,asIntOf,run_underlying hu.u,h1,hj,hu.s w,elemPtr]
theorem C6 {c j:Nat} {xs:List Value} (hag:(isAgg e).run P w= .ok false w) (hx:ev E x=some (elemPtr v j)) (h:Sl w sz v c xs) (hj:xs[j]? =some u):Ex P n E (.load e x) ty w u:=fun a ha _ _ _ _=>by
 obtain ⟨hl,ao,cap,rfl,hc,_,hn,hce⟩:=h
 cases ao with
 |none=>
  have h0:=hn rfl
  have h1:j<xs.length:=by
   rcases Nat.lt_or_ge j xs.length with h|h
   ·exact h
   ·simp [List.getElem?_eq_none h] at hj
  have:c=0:=by omega
  subst this;rw [hl] at h1;simp at h1
 |some ad=>
  have h1:=hce ad rfl j u hj
  have hx' :ev E x=some (.pointer (some (ad.add j))):=by simpa [elemPtr] using hx
  simp [execOp,ha.ev hx',Instr.loadAt,Instr.sureAddr,loadVar,hag,h1]

/-- An element of a slice of one-cell elements. -/
theorem Ba {α:Type} {enc:α→Value} {l:List α} {k:IntKind} {m:Int} (hu:STy P t e 1) (hx:ev E x=some v) (hy:ev E y=some (.int k m)) (h:SlT enc w v l) (j:Nat) (hm:m=(j:Int)) (hj:j<l.length):
  Ex P n E (.indexAddr t x y) ty w (elemPtr v j):=by
 have:=Bz (ty:=ty) (n:=n) hu hx hy h j hm hj
 rwa [Nat.mul_one] at this
theorem Bg {α:Type} [Inhabited α] {enc:α→Value} {l:List α} {j:Nat} (hag:(isAgg e).run P w= .ok false w) (hx:ev E x=some (elemPtr v j)) (h:SlT enc w v l) (hj:j<l.length):
  Ex P n E (.load e x) ty w (enc (l.getD j default)):=C6 hag hx h (by simp [List.getElem?_eq_getElem hj])

/-- A cell of a known block. -/
theorem Aj {b o:Nat} {T:TypeId} {cs:List Value} (hag:(isAgg e).run P w= .ok false w) (hx:ev E x=some (.pointer (some ⟨b,o,none⟩))) (h:Blk w b T cs) (ho:cs[o]? =some u):Ex P n E (.load e x) ty w u:=fun a ha _ _ _ _=>by
 have h1:=(h.cell o).trans ho
 simp [execOp,ha.ev hx,Instr.loadAt,Instr.sureAddr,loadVar,hag,h1]
/-- A whole struct or array out of a block of its own. -/
theorem Bw {b k:Nat} {T:TypeId} {cs:List Value} (hag:(isAgg e).run P w= .ok true w) (hs:(sizeOf e).run P w= .ok k w) (hk:cs.length=k) (hx:ev E x=some (.pointer (some ⟨b,0,none⟩))) (h:Blk w b T cs):Ex P n E (.load e x) ty w (.agg cs.toArray):=fun a ha _ _ _ _=>by
 subst hk
 have hl:=run_loadCells_list (P:=P) w ⟨b,0,none⟩ cs (fun j v hv=>by rw [add_lit,Nat.zero_add,h.cell];exact hv)
 simp [execOp,ha.ev hx,Instr.loadAt,Instr.sureAddr,loadVar,hag,hs,hl]
theorem Pw.retC {fn:Func} {R:Value→World→Prop} {p b k:Nat} {T:TypeId} {cs:List Value} {d:TypeDesc} (hr:fn.results= #[.cell p e]) (hp:get E p=some (.pointer (some ⟨b,0,none⟩))) (hb:Blk w b T cs)
  (hu:P.underlying e=some d) (hd:(match d with| .struct _| .array _ _=>true|_=>false)=true) (hi:(P.info? e).map (·.size)=some k) (hk:cs.length=k) (h:R (.agg cs.toArray) w):Pw n E (Ret P fn R .ret) w:=fun a ha=>by
 subst hk
 exact
 bodyPost_ret (v:= .agg cs.toArray) (results_cell_row hr a.tmps w b T cs.toArray (0,0) d (by simp [Array.getD_eq_getD_getElem?,ha.has _ _ hp]) hb hu hd (by simpa using hi)) ha.dfr ⟨_,rfl,h⟩

/-- An array's element's place. -/
theorem Ex.idxB {k:IntKind} {m:Int} {b o c:Nat} (hu:P.underlying t=some (.array c e)) (hsz:∀w,(sizeOf e).run P w= .ok sz w) (hx:ev E x=some (.pointer (some ⟨b,o,none⟩))) (hy:ev E y=some (.int k m)) (j:Nat) (hm:m=(j:Int)) (hj:j<c):
  Ex P n E (.indexAddr t x y) ty w (.pointer (some ⟨b,o+j*sz,none⟩)):=fun a ha _ _ _ _=>by
 subst hm
 have h1:(0:Int)≤(j:Int)∧(j:Int)<(c:Int):=by omega
 have h2:¬c≤j:=by omega
 simp [execOp,ha.ev hx,ha.ev hy,Instr.indexAt,asIntOf,run_underlying hu,h1,hj,hsz w,Instr.sureAddr,add_lit]
theorem Ag {b o f q:Nat} {fs:Array Field} {fd:Field} (hu:P.underlying t=some (.struct fs)) (hf:fs[f]? =some fd) (hq:(sizeOf fd.type).run P w= .ok (q+1) w) (hx:ev E x=some (.pointer (some ⟨b,o,none⟩))):
  Ex P n E (.fieldAddr t x f) ty w (.pointer (some ⟨b,o+fd.offset,none⟩)):=fun a ha _ _ _ _=>by
 simp [execOp,ha.ev hx,Instr.fieldAt,Instr.sureAddr,fieldPlace,run_underlying hu,hf,hq,add_lit]
/-! ### Making -/
theorem Xw.alloc {zs:List Value} {zv:Value} (hz:(zeroValue e).run P w= .ok zv w) (hc:zv.cells=zs.toArray):Xw P n E (.alloc e) ty w (fun v w' =>v= .pointer (some ⟨w.heap.size,0,none⟩)∧Blk w' w.heap.size e zs∧Below w.heap.size w w' ∧w'.heap.size=w.heap.size+1):=fun a ha=>by
 refine ⟨_,w.alloc (.cells zs.toArray e),fun _ _ _ _=> ?_,rfl,heap_alloc_new w _,below_new w _,by simp⟩
 simp [execOp,Instr.alloc,hz,newVar,newRow,hc]
theorem Xw.new {zs:List Value} {bytes:Nat} (hi:ITy P e zs bytes):Xw P n E (.alloc e) ty w (fun v w' =>v= .pointer (some ⟨w.heap.size,0,none⟩)∧Blk w' w.heap.size e zs∧Below w.heap.size w w' ∧w'.heap.size=w.heap.size+1):=by
 obtain ⟨i,h1,h2,h3,zv,h4,h5⟩:=hi.i
 exact Xw.alloc (zv:=zv) (by simp [zeroValue,typeInfo,h1,h4]) h5
theorem Xw.box {cs:List Value} (hx:ev E x=some v) (hc:v.cells=cs.toArray):Xw P n E (.box e x) ty w (fun v w' =>v= .pointer (some ⟨w.heap.size,0,none⟩)∧Blk w' w.heap.size e cs∧Below w.heap.size w w' ∧w'.heap.size=w.heap.size+1):=fun a ha=>by
 refine ⟨_,w.alloc (.cells cs.toArray e),fun _ _ _ _=> ?_,rfl,heap_alloc_new w _,below_new w _,by simp⟩
 simp [execOp,ha.ev hx,Instr.box,newVar,newRow,hc]

theorem setCell_blk {b o:Nat} {T:TypeId} {cs:List Value} (h:Blk w b T cs) (u:Value):Blk (w.setCell ⟨b,o,none⟩ u) b T (cs.set o u)∧w.grownBy (w.setCell ⟨b,o,none⟩ u) (some b):=by
 refine ⟨?_,⟨rfl,rfl,rfl,by simp,fun k _ hk=>heap_setCell_other w ⟨b,o,none⟩ k u (fun e=>hk (by simp [e]))⟩⟩
 have:=heap_setCell_same w b o cs.toArray T u h
 unfold Blk
 rw [this]
 simp

/-- A store into a cell of a known block. -/
theorem Co {b o:Nat} {T:TypeId} {cs:List Value} (hag:(sizeOf e).run P w= .ok 1 w) (hx:ev E x=some (.pointer (some ⟨b,o,none⟩))) (hy:ev E y=some u) (hone:u.oneCell' =true) (h:Blk w b T cs) (ho:o<cs.length):
  Xu P n E (.store e x y) ty w (fun w' =>Blk w' b T (cs.set o u)∧w.grownBy w' (some b)∧w'.heap.size=w.heap.size):=fun a ha=>by
 refine ⟨w.setCell ⟨b,o,none⟩ u,fun _ _ _ _=> ?_,(setCell_blk h u).1,(setCell_blk h u).2,by simp⟩
 have hcell:w.cell? ⟨b,o,none⟩=some cs[o]:=by rw [h.cell,List.getElem?_eq_getElem ho]
 have hfr:w.frozen? ⟨b,o,none⟩=false:=by simp [World.frozen?,show w.heap[b]? =_ from h]
 have hcs:u.cells= #[u]:=by cases u<;>first|rfl|simp [Value.oneCell'] at hone
 have hst:=run_store P w ⟨b,o,none⟩ u .plain hone
 simp only [hcell,hfr] at hst
 simp [execOp,ha.ev hx,ha.ev hy,Instr.storeAt,Instr.sureAddr,storeVar,hag,hcs,storeCells,add_lit,hst]
/-- A whole struct or array into a block of its own. -/
theorem Bp {b k:Nat} {T:TypeId} {old cs:List Value} (hs:(P.info? e).map (·.size)=some k) (hk:cs.length=k) (hx:ev E x=some (.pointer (some ⟨b,0,none⟩))) (hy:ev E y=some (.agg cs.toArray)) (hone:cs.all (·.oneCell')=true) (h:Blk w b T old) (ho:old.length=k):
  Xu P n E (.store e x y) ty w (fun w' =>Blk w' b T cs∧w.grownBy w' (some b)∧w'.heap.size=w.heap.size):=fun a ha=>by
 subst hk
 have hrun:=run_storeVar_row (P:=P) w b T e old.toArray cs.toArray h (by simpa using hs) (by simpa using ho) (by simpa using hone)
 refine ⟨w.setRow b cs.toArray,fun _ _ _ _=> ?_,setRow_heap w b _ _ _ _ h,⟨rfl,rfl,rfl,by simp [World.setRow],fun k _ hk=>setRow_other w b k _ (fun e=>hk (by simp [e]))⟩,by simp [World.setRow]⟩
 simp [execOp,ha.ev hx,ha.ev hy,Instr.storeAt,Instr.sureAddr,hrun]

/-- A store into an element of a slice of the call's own. -/
theorem Cv {base c j:Nat} {T:TypeId} {xs:List Value} (hag:(sizeOf e).run P w= .ok 1 w) (hx:ev E x=some (elemPtr v j)) (hy:ev E y=some u) (hone:u.oneCell' =true) (h:w.ownsRow base T sz v c xs) (hj:j<xs.length):
  Xu P n E (.store e x y) ty w (fun w' =>w'.ownsRow base T sz v c (xs.set j u)∧w.grownBy w' v.ownBlock∧w'.heap.size=w.heap.size):=fun a ha=>by
 rcases h.2 with ⟨rfl,rfl⟩|⟨g,cap,cur,rfl,hb,hg,hnc,hcm,hcs,htake⟩
 ·have:=h.1;simp at this;subst this;simp at hj
 ·have hst:=World.ownsRow.stored h j u
  refine ⟨w.setCell ⟨g,j,none⟩ u,fun _ _ _ _=> ?_,hst.1,hst.2,by simp⟩
  have hx' :ev E x=some (.pointer (some ⟨g,j,none⟩)):=by simpa [elemPtr,add_lit] using hx
  have hcell:w.cell? ⟨g,j,none⟩=some xs[j]:=by
   rw [World.ownsRow.cellAt h j (by rw [← h.1];exact hj),List.getElem?_eq_getElem hj]
  have hfr:=World.ownsRow.frozenAt h j
  have hcs' :u.cells= #[u]:=by cases u<;>first|rfl|simp [Value.oneCell'] at hone
  have hrun:=run_store P w ⟨g,j,none⟩ u .plain hone
  simp only [hcell,hfr] at hrun
  simp [execOp,ha.ev hx',ha.ev hy,Instr.storeAt,Instr.sureAddr,storeVar,hag,hcs',storeCells,add_lit,hrun]

/-- 'make([]T, l, c)'. -/
theorem C2 {l c : Nat} {zs : List Value} {bytes : Nat} (hu : STy P t e sz) (hi : ITy P e zs bytes) (hzl : zs.length = sz) (hx : ev E x = some (.int .i64 (l : Int))) (hy : ev E y = some (.int .i64 (c : Int))) (hlc : l ≤ c) (hb : bytes * c ≤ 281474976710656) (hm : c ≤ 9223372036854775807) :
    Xw P n E (.makeSlice t x y) ty w (fun v w' =>w'.ownsRow w.heap.size e sz v l ((List.replicate l zs).flatten)∧v= .slice (some ⟨w.heap.size,0,none⟩) l c∧Below w.heap.size w w' ∧w'.heap.size=w.heap.size+1):=fun a ha=>by
  subst hzl
  obtain ⟨i,h1,h2,h3,zv,h4,h5⟩:=hi.i
  subst h3
  have hrun:=run_make (P:=P) w t e i zv hu.u h1 h4 .i64 .i64 l c (by omega) (by omega) (by have:=hb;omega) (by omega)
  simp only [Int.toNat_natCast] at hrun
  refine ⟨_,w.alloc (.cells (madeCells zv.cells (c*i.size)) e),fun _ _ _ _=>by simp [execOp,ha.ev hx,ha.ev hy,hrun], ?_,rfl,below_new w _,by simp⟩
  refine ⟨by simp, .inr ⟨w.heap.size,c,_,rfl,Nat.le_refl _,heap_alloc_new w _,hlc,by unfold maxLen;omega,by rw [size_madeCells,h2], ?_⟩⟩
  rw [h5,h2]
  apply List.ext_getElem?
  intro k
  by_cases hk:k<l*zs.length
  · have hk2:k<c*zs.length:=Nat.lt_of_lt_of_le hk (Nat.mul_le_mul_right _ hlc)
    have hz : 0 < zs.length := by rcases Nat.eq_zero_or_pos zs.length with h | h; · rw [h] at hk; simp at hk
                                  · exact h
    have hf:((List.replicate l zs).flatten)[k]? =zs[k % zs.length]? :=by
      clear hk2 hrun hb hm hlc hx hy
      induction l generalizing k with
      |zero=>simp at hk
      |succ l ih=>
        rw [List.replicate_succ,List.flatten_cons,List.getElem?_append]
        by_cases hlt:k<zs.length
        · simp [hlt,Nat.mod_eq_of_lt hlt]
        · simp only [hlt,if_false]
          rw [ih (k - zs.length) (by rw [Nat.succ_mul] at hk;omega)]
          rw [← Nat.mod_eq_sub_mod (by omega)]
    rw [hf]
    simp only [List.getElem?_take,hk,if_true]
    simp [madeCells,hk2,Nat.mod_lt k hz]
  · have:((List.replicate l zs).flatten).length=l*zs.length:=by simp
    rw [List.getElem?_eq_none (l:=(List.replicate l zs).flatten) (by rw [this];omega)]
    simp [List.getElem?_take,hk]

/-- The parts of a literal, in their order. -/
def ordered:Nat→List (Nat×Operand)→Option (List Operand)
 |_,[]=>some []
 |k,p::r=>match Nat.beq p.1 k,ordered (k+1) r with
  |true,some l=>some (p.2::l)
  |_,_=>none
def fromN:Nat→List Value→List (Nat×Value)
 |_,[]=>[]
 |k,v::l=>(k,v)::fromN (k+1) l

theorem ordered_evs {a:Act} (ha:Fits n E a):∀(ps:List (Nat×Operand)) (k:Nat) (xs:List Operand) (vs:List Value),ordered k ps=some xs→evs E xs=some vs→ps.map (fun p=>(p.1,a.eval p.2))=fromN k vs
 |[],k,xs,vs,h,hx=>by
  simp only [ordered,Option.some.injEq] at h
  subst h
  simp only [evs,Option.some.injEq] at hx
  subst hx;rfl
 |p::r,k,xs,vs,h,hx=>by
  simp only [ordered] at h
  split at h
  ·rename_i l hb hl
   simp only [Option.some.injEq] at h
   subst h
   simp only [evs] at hx
   split at hx
   ·rename_i v us h1 h2
    simp only [Option.some.injEq] at hx
    subst hx
    have:=Nat.eq_of_beq_eq_true hb
    simp [fromN,this,ha.ev h1,ordered_evs ha r (k+1) l us hl h2]
   ·simp at hx
  ·simp at h

theorem fill_from:∀(vs:List Value) (k:Nat) (cells:Array Value),cells.size=k+vs.length→vs.all (·.oneCell')=true→
  Instr.fill (fun i=>some (i*1,1)) cells (fromN k vs)=some ((cells.toList.take k++vs).toArray)
 |[],k,cells,h,_=>by
  have:cells.toList.take k=cells.toList:=List.take_of_length_le (by simp at h ⊢;omega)
  simp [fromN,Instr.fill,this]
 |v::vs,k,cells,h,h1=>by
  simp only [List.all_cons,Bool.and_eq_true] at h1
  have hc:v.cells= #[v]:=by cases v<;>first|rfl|simp [Value.oneCell'] at h1
  have hk:k<cells.size:=by simp at h;omega
  have hn:¬(k+1>cells.size):=by omega
  have ih:=fill_from vs (k+1) (cells.setIfInBounds k v) (by simp at h ⊢;omega) h1.2
  simp only [fromN,Instr.fill,hc,Nat.mul_one]
  rw [if_neg (by simp;omega)]
  have hz:(#[v].zipIdx.foldl (fun cs (c,j)=>cs.setIfInBounds (k+j) c) cells)=cells.setIfInBounds k v:=by simp [Array.zipIdx]
  simp only [hz]
  simp only [Nat.mul_one] at ih
  rw [ih]
  congr 2
  apply List.ext_getElem?
  intro j
  simp only [Array.toList_setIfInBounds,List.getElem?_append,List.length_take,List.length_set,Array.length_toList,List.getElem?_take,List.getElem?_set]
  by_cases hj:j<k
  ·have a1:j<min (k+1) cells.size:=by omega
   have a2:j<min k cells.size:=by omega
   have a3:j<k+1:=by omega
   have a4:¬k=j:=by omega
   simp [hj,a1,a2,a3,a4]
  ·by_cases hj2:j=k
   ·subst hj2;simp [hk,show min j cells.size=j by omega,show min (j+1) cells.size=j+1 by omega]
   ·simp [show ¬j<k by omega,show ¬j<k+1 by omega,show min k cells.size=k by omega,show min (k+1) cells.size=k+1 by omega,show j - k=(j - (k+1))+1 by omega]

/-- A literal slice of one-cell elements ('[]T{..}', a variadic call's list). -/
theorem Cp {ps:List (Nat×Operand)} {xs:List Operand} {vs:List Value} {z0:Value} {bytes k:Nat} (hu:STy P t e 1) (hi:ITy P e [z0] bytes) (hp:ordered 0 ps=some xs) (hx:evs E xs=some vs) (hk:vs.length=k) (hone:vs.all (·.oneCell')=true) (hsm:Nat.ble k 16777216=true):
  Xw P n E (.buildSlice t k ps.toArray) ty w (fun v w' =>w'.ownsRow w.heap.size e 1 v k vs∧v= .slice (some ⟨w.heap.size,0,none⟩) k k∧Below w.heap.size w w' ∧w'.heap.size=w.heap.size+1):=fun a ha=>by
 obtain ⟨i,h1,h2,h3,zv,h4,h5⟩:=hi.i
 have hsm' :¬(k*1>2 ^ 24):=by have:=Nat.le_of_ble_eq_true hsm;omega
 refine ⟨.slice (some ⟨w.heap.size,0,none⟩) k k,w.alloc (.cells vs.toArray e),fun _ _ _ _=> ?_,⟨by simpa using hk, .inr ⟨w.heap.size,k,vs.toArray,rfl,Nat.le_refl _,heap_alloc_new w _,Nat.le_refl _,by have:=Nat.le_of_ble_eq_true hsm;unfold maxLen;omega,by simpa using hk, ?_⟩⟩,rfl,below_new w _,by simp⟩
 ·have hmap:(ps.toArray.map fun (i,x)=>(i,a.eval x)).toList=fromN 0 vs:=by
   rw [← ordered_evs ha ps 0 xs vs hp hx];simp
  have hf:∀(cells:Array Value),cells.size=k→Instr.fill (fun i=>some (i*1,1)) cells (fromN 0 vs)=some vs.toArray:=fun cells hc=>by
   rw [fill_from vs 0 cells (by omega) hone];simp
  have hz:(zeroValue e).run P w= .ok zv w:=by simp [zeroValue,typeInfo,h1,h4]
  have hs:=hu.s w
  simp only [execOp,Instr.buildSlice,Sem.run_bind,run_underlying hu.u,Result.andThen_ok,hs,Sem.run_ite,if_neg hsm',Sem.run_pure,hmap]
  by_cases h0:k*1=0
  ·have:vs=[]:=List.eq_nil_of_length_eq_zero (by omega)
   subst this
   obtain rfl:k=0:=by simpa using hk.symm
   have hr:Array.range 0= #[]:=rfl
   simp [fromN,Instr.fill,newRow,hr]
  ·simp only [if_neg h0,hz,Result.andThen_ok]
   rw [hf _ (by simp)]
   simp [newRow]
 ·rw [List.take_of_length_le (by simp [hk])]
end
end Go.Dd

/-! The step layer, part 4: regions that draw their order; append. Nothing here names a program. -/
namespace Go.Dd
open Go Go.RowKit

/-! ### A head whose operations are quiet in a class of worlds, in any order; a tail in a forced order -/
section
variable {P : Program} {ops : Array Oper} {md : Region.Mode} {C : World → Prop}

def wpAnyLC (P:Program) (md:Region.Mode) (ops:Array Oper) (C:World→Prop) (n:Nat) (L:Array Bool→Act→Prop):Nat→Array Bool→Act→Prop
 |0,listed,a=>L listed a
 |f+1,listed,a=>
  Region.ready md ops listed≠[]∧∀i ∈ Region.ready md ops listed,i<n∧qOp P ops C i (wpAnyLC P md ops C n L f (listed.setIfInBounds i true)) a

theorem wpAny_of_headC {n g:Nat} {L:Array Bool→Act→Prop} {Q' :Exit→Act→World→Prop} (hL:∀listed a w,C w→L listed a→wpAny P md ops Q' g listed a w):
  ∀(f:Nat) (listed:Array Bool) (a:Act) (w:World),C w→wpAnyLC P md ops C n L f listed a→wpAny P md ops Q' (f+g) listed a w
 |0,listed,a,w,hw,h=>by rw [Nat.zero_add];exact hL _ _ _ hw h
 |f+1,listed,a,w,hw,h=>by
  rw [show f+1+g=(f+g)+1 by omega]
  exact ⟨fun h0=>absurd h0 h.1,fun i hi=>wpOp_of_qOp hw (fun a' w' hw' h' =>wpAny_of_headC hL f _ a' w' hw' h') (h.2 i hi).2⟩

theorem wpAnyLC_first {n i:Nat} {oi:Oper} {v:Value} {L:Array Bool→Act→Prop} (hi:ops[i]? =some oi) (hsel:∀(j:Nat) (o:Oper) cs b,ops[j]? =some o→o.op≠ .select cs b)
  (hs:Region.sinkB md ops n=true) (hc:Region.chainB md ops n=true) (hn:n<ops.size) (hin:i<n)
  (hdone:∀listed a,L listed a→∀j ∈ Region.ready md ops listed,n≤j):
  ∀(f:Nat) (listed:Array Bool) (a:Act),HeadInv md ops n listed→
   (∀j oj,ops[j]? =some oj→j≠i→listed.getD j true=false→(∀e ∈ oj.after,Region.binds md e=true→e.on≠i)→oi.apart ops oj=true)→
   i ∈ Region.ready md ops listed→YieldsIn P ops C oi v a→
   wpAnyLC P md ops C n L f (listed.setIfInBounds i true) (a.put oi.dst v)→wpAnyLC P md ops C n L (f+1) listed a:=by
 intro f
 induction f with
 |zero=>
  intro listed a inv _ hr hy H
  have hun:=(mem_ready.1 hr).1
  refine ⟨fun h=>(by rw [h] at hr;cases hr),fun j hj=> ?_⟩
  have hjn:j<n:=by
   rcases Nat.lt_or_ge j n with h|h
   ·exact h
   ·exact absurd hj (tail_waits hs hc hn inv _ i rfl hin hun j h)
  refine ⟨hjn, ?_⟩
  by_cases hji:j=i
  ·subst hji;exact hy.qOp hi H
  ·have:=hdone _ _ H j (ready_mono hj hji)
   omega
 |succ f ih=>
  intro listed a inv hfree hr hy H
  have hun:=(mem_ready.1 hr).1
  refine ⟨fun h=>(by rw [h] at hr;cases hr),fun j hj=> ?_⟩
  have hjn:j<n:=by
   rcases Nat.lt_or_ge j n with h|h
   ·exact h
   ·exact absurd hj (tail_waits hs hc hn inv _ i rfl hin hun j h)
  refine ⟨hjn, ?_⟩
  by_cases hji:j=i
  ·subst hji;exact hy.qOp hi H
  ·have h1:=(H.2 j (ready_mono hj hji)).2
   obtain ⟨hjun,oj,hoj,hall⟩:=mem_ready.1 hj
   have hnot:∀e ∈ oj.after,Region.binds md e=true→e.on≠i:=fun e he hb heq=>by
    have h1:=hall e he hb
    rw [heq,getD_both hun] at h1
    cases h1
   have h2:=qOp_put hoj (hfree j oj hoj hji hjun hnot) (fun cs b=>hsel i oi cs b hi) (fun cs b=>hsel j oj cs b hoj) hy h1
   have hfree' :∀k ok,ops[k]? =some ok→k≠i→(listed.setIfInBounds j true).getD k true=false→
     (∀e ∈ ok.after,Region.binds md e=true→e.on≠i)→oi.apart ops ok=true:=fun k ok hk hki hun hno=>by
    refine hfree k ok hk hki ?_ hno
    by_cases hjk:j=k
    ·subst hjk;exact hjun
    ·rw [getD_set_ne true hjk] at hun;exact hun
   refine qOp_mono (fun a' h3=>ih (listed.setIfInBounds j true) a' (inv.set hj hjn) hfree' (ready_mono hr (Ne.symm hji)) h3.1 ?_) h2
   rw [Array.setIfInBounds_comm _ _ hji]
   exact h3.2

theorem wpAnyLC_lex {n g:Nat} {Lq:Act→Prop} (hsel:Region.noSelect ops=true) (hs:Region.sinkB md ops n=true) (hc:Region.chainB md ops n=true) (hn:n<ops.size):
  ∀(l:List Oper) (k:Nat) (listed:Array Bool) (a:Act),(∀j,j<l.length→l[j]? =ops[k+j]?)→k+l.length=n→HeadInv md ops n listed→
  Region.lexHead md ops g l.length k listed=true→wpQuiet P ops C Lq l a→
  wpAnyLC P md ops C n (fun listed' a' =>Region.seqB md ops g n listed' =true∧Lq a') l.length listed a
 |[],k,listed,a,_,hk,_,hB,h=>by
  have:k=n:=by simpa using hk
  subst this
  exact ⟨by simpa [Region.lexHead] using hB,h⟩
 |o::l,k,listed,a,hl,hk,inv,hB,h=>by
  have h0:ops[k]? =some o:=by simpa using (hl 0 (by simp)).symm
  simp only [List.length_cons,Region.lexHead,Bool.and_eq_true] at hB
  obtain ⟨⟨hr,hf⟩,hB'⟩:=hB
  have hkn:k<n:=by simp only [List.length_cons] at hk;omega
  have hr' :k ∈ Region.ready md ops listed:=by simpa using hr
  have hst:qOp P ops C k (wpQuiet P ops C Lq l) a:=by unfold qOp;simp only [h0];exact h
  obtain ⟨v,hy,hK⟩:=yieldsIn_of_qOp h0 hst
  exact wpAnyLC_first h0 (Region.noSelect_spec hsel) hs hc hn hkn (fun listed' a' hL=>seqB_ready hL.1) l.length listed a inv (Region.free_spec h0 hf) hr' hy
   (wpAnyLC_lex hsel hs hc hn l (k+1) _ _ (fun j hj=>by have:=hl (j+1) (by simp;omega);simpa [Nat.add_assoc,Nat.add_comm 1 j] using this) (by simp only [List.length_cons] at hk;omega) (inv.set hr' hkn) hB' hK)

theorem wp_region_quiet_tail {id:Nat} {Q:Exit→Act→World→Prop} {a:Act} {w:World} {l:List Oper} (n:Nat) (hm:P.follows .mixedOrders=true) (hB:Region.lexTailB .any l.toArray n=true) (hC:C {w with drawn:=w.drawn+1})
  (h:wpQuiet P l.toArray C (fun a' =>∀w',C w' →wpList P l.toArray Q (l.drop n) a' w') (l.take n) a):(Code.region id l.toArray true).wp P Q a w:=by
 simp only [Region.lexTailB,Bool.and_eq_true,decide_eq_true_eq] at hB
 obtain ⟨⟨⟨⟨hsel,hn⟩,hs⟩,hc⟩,hlex⟩:=hB
 have hn' :n<l.length:=by simpa using hn
 have htl:(l.take n).length=n:=by simp;omega
 have hdl:(l.drop n).length=l.toArray.size - n:=by simp
 have inv0:HeadInv .any l.toArray n (Array.replicate l.toArray.size false):=
  ⟨by simp,fun j oj _ hl=>(by rw [getD_replicate_false] at hl;cases hl),fun t _ ht=>getD_in (by simpa using ht) (getD_replicate_false _ _)⟩
 have H:=wpAnyLC_lex (P:=P) (C:=C) (md:= .any) (g:=l.toArray.size - n) hsel hs hc hn (l.take n) 0 _ a (fun j hj=>by
  have hj' :j<n:=by rw [htl] at hj;exact hj
  simp [hj']) (by simpa using htl) inv0 (by rw [htl];exact hlex) h
 refine wp_region_any hm ?_
 have:=wpAny_of_headC (Q' :=Q) (g:=l.toArray.size - n) (fun listed a' w' hw' hL=>by
  have:=wpAny_of_seq (md:= .any) (Q' :=Q) (l.drop n) n listed a' w' (fun j=>by simp [List.getElem?_drop]) (by rw [hdl];exact hL.1) (hL.2 w' hw')
  rwa [hdl] at this) _ _ _ _ hC H
 rw [htl,show n+(l.toArray.size - n)=l.toArray.size by omega] at this
 exact this
end

/-! ### The same from a state in which some operations have come up already -/
section
variable {P : Program} {ops : Array Oper} {md : Region.Mode} {C : World → Prop}

end

/-- A post that no panic meets. -/
def NoP (Q:Post):Prop:=∀c a w,¬Q (.panic c) a w
theorem Ar {P:Program} {fn:Func} {R:Value→World→Prop}:NoP (Ret P fn R):=fun _ _ _ h=>by
 obtain ⟨_,v,he,_⟩:=h;cases he
theorem Ah {K:Act→World→Prop} {Q:Post} (h:NoP Q):NoP (Then K Q):=fun c a w hq=>h c a w hq
theorem NoP.blk {id:Nat} {Q:Post} (h:NoP Q):NoP (InBlk id Q):=fun c a w hq=>h c a w hq

/-- The lexical walk of a quiet head: 'K' is what stands behind it. -/
def Qw (P:Program) (l0:List Oper) (C:World→Prop) (K:Act→Prop) (n:Nat) (l:List Oper) (E:Env):Prop:=∀a,Fits n E a→wpQuiet P l0.toArray C K l a
/-- Any order, from here on. -/
def Aw (P:Program) (l0:List Oper) (Q:Post) (n fuel:Nat) (listed:Array Bool) (E:Env) (w:World):Prop:=∀a,Fits n E a→wpAny P .any l0.toArray Q fuel listed a w

section
variable {P : Program} {Q : Post} {n : Nat} {E : Env} {w : World} {l0 rest : List Oper} {ty : TypeId} {pos : String} {af : Array Edge} {C : World → Prop} {K : Act → Prop}

theorem below_draw (w:World):Below w.heap.size w {w with drawn:=w.drawn+1}:=⟨rfl,rfl,rfl,Nat.le_refl _,fun _ _=>rfl⟩

theorem B5 {id:Nat} {l:List Oper} (hm:P.follows .mixedOrders=true) (hB:Region.lexB .any l.toArray=true) (h:Qw P l (Below w.heap.size w) (fun a' =>∀w',Below w.heap.size w w' →Q .normal a' w') n l E):
  Cw P Q n (.region id l.toArray true) E w:=fun a ha=>wp_region_quiet (C:=Below w.heap.size w) hm hB (below_draw w) (by simpa using h a ha)
theorem Cw.tail {id:Nat} {l:List Oper} (k:Nat) (hm:P.follows .mixedOrders=true) (hB:Region.lexTailB .any l.toArray k=true)
  (h:Qw P l (Below w.heap.size w) (fun a' =>∀w',Below w.heap.size w w' →wpList P l.toArray Q (l.drop k) a' w') n (l.take k) E):Cw P Q n (.region id l.toArray true) E w:=fun a ha=>
 wp_region_quiet_tail (C:=Below w.heap.size w) k hm hB (below_draw w) (h a ha)
theorem B3 (h:∀w',C w' →Pw n E (Q .normal) w'):Qw P l0 C (fun a' =>∀w',C w' →Q .normal a' w') n [] E:=fun a ha=>wpQuiet_nil fun w' hw' =>h w' hw' a ha
theorem Cj {l:List Oper} (h:∀w',C w' →Lw P l0 Q n l E w'):Qw P l0 C (fun a' =>∀w',C w' →wpList P l0.toArray Q l a' w') n [] E:=fun a ha=>wpQuiet_nil fun w' hw' =>h w' hw' a ha
theorem Qw.val {d:Nat} {op:Op} {v:Value} (h:∀w,C w→Ex P n E op ty w v) (hd:Nat.blt d n=true) (k:Qw P l0 C K n rest ((d,v)::E)):Qw P l0 C K n (⟨some d,op,ty,pos,af,none⟩::rest) E:=fun a ha=>by
 refine wpQuiet_step fun K' hK=> ?_
 rw [if_pos (by simp [Region.wanted])]
 refine ⟨v,fun w hw=> ?_,hK _ (k _ (ha.put v hd))⟩
 unfold Oper.quietAt
 rw [h w hw a ha]
 exact ⟨rfl,rfl⟩
theorem B9 {d:Nat} {f:FuncId} {xs:List Operand} {vs:List Value} {ts:Array TypeId} {v:Value} (hx:evs E xs=some vs) (hd:Nat.blt d n=true) (hf:∀w,C w→Fnc P f vs w (fun r w' =>r=v∧C w'))
  (k:Qw P l0 C K n rest ((d,v)::E)):Qw P l0 C K n (⟨some d, .call {callee:= .value (.func f),args:=xs.toArray,argTypes:=ts},ty,pos,af,none⟩::rest) E:=fun a ha=>by
 refine wpQuiet_step fun K' hK=> ?_
 rw [if_pos (by simp [Region.wanted])]
 refine ⟨v,fun w hw=> ?_,hK _ (k _ (ha.put v hd))⟩
 unfold Oper.quietAt
 rw [Xc.mk (hf w hw).1 hx a ha]
 exact ⟨rfl,(hf w hw).2.mono fun e w' ⟨u,he,hu,hc⟩=>by subst he;subst hu;exact ⟨rfl,hc⟩⟩
theorem Qw.callV {d:Nat} {f:FuncId} {c:Operand} {p q:List Value} {xs:List Operand} {vs:List Value} {ts:Array TypeId} {v:Value} (hc:ev E c=some (.func (.func f) p.toArray q.toArray)) (hx:evs E xs=some vs) (hd:Nat.blt d n=true)
  (hf:∀w,C w→Fnc P f (p++vs++q) w (fun r w' =>r=v∧C w'))
  (k:Qw P l0 C K n rest ((d,v)::E)):Qw P l0 C K n (⟨some d, .call {callee:= .value c,args:=xs.toArray,argTypes:=ts},ty,pos,af,none⟩::rest) E:=fun a ha=>by
 refine wpQuiet_step fun K' hK=> ?_
 rw [if_pos (by simp [Region.wanted])]
 refine ⟨v,fun w hw=> ?_,hK _ (k _ (ha.put v hd))⟩
 unfold Oper.quietAt
 rw [Xc.val (hf w hw).1 hc hx a ha]
 exact ⟨rfl,(hf w hw).2.mono fun e w' ⟨u,he,hu,hc⟩=>by subst he;subst hu;exact ⟨rfl,hc⟩⟩
theorem Qw.know {l:List Oper} (d:Nat) {v v' :Value} (hd:get E d=some v) (hv:v=v') (h:Qw P l0 C K n l ((d,v')::E)):Qw P l0 C K n l E:=fun a ha=>h a<|by
 subst hv
 refine ⟨ha.dfr,ha.size,fun i u hu=> ?_⟩
 by_cases hi:d=i
 ·subst hi;rw [get_cons_self] at hu;exact ha.has _ _ (hd.trans hu)
 ·rw [get_cons_ne _ _ hi] at hu;exact ha.has _ _ hu
theorem Cl {l:List Oper} (d:Nat) {g:Bool} (hd:get E d=some (.bool g)) (yes:g=true→Qw P l0 C K n l ((d, .bool true)::E)) (no:g=false→Qw P l0 C K n l ((d, .bool false)::E)):Qw P l0 C K n l E:=by
 cases g with
 |true=>exact Qw.know d hd rfl (yes rfl)
 |false=>exact Qw.know d hd rfl (no rfl)
theorem Qw.take {d:Option Tmp} {op:Op} {j dj:Nat} {g:Bool} (hj:(nth l0 j).bind (·.dst)=some dj) (hg:get E dj=some (.bool g))
  (h:Qw P l0 C K n (⟨d,op,ty,pos,af,none⟩::rest) E):Qw P l0 C K n (⟨d,op,ty,pos,af,some (j,g)⟩::rest) E:=fun a ha=>by
 have h1:=h a ha
 unfold wpQuiet at h1 ⊢
 rw [if_pos (by simp [Region.wanted])] at h1
 rw [if_pos (by simp [Region.wanted,yielded_of ha hj hg])]
 exact h1
theorem Ao {d:Nat} {op:Op} {j dj:Nat} {g g' :Bool} (hj:(nth l0 j).bind (·.dst)=some dj) (hg:get E dj=some (.bool g')) (hne:(g==g')=false) (hd:Nat.blt d n=true)
  (h:Qw P l0 C K n rest ((d,undef)::E)):Qw P l0 C K n (⟨some d,op,ty,pos,af,some (j,g)⟩::rest) E:=fun a ha=>by
 unfold wpQuiet
 rw [if_neg]
 ·exact h _ (ha.put _ hd)
 ·simp only [Region.wanted,yielded_of ha hj hg]
  cases g<;>cases g' <;>simp_all

/-! ### Any order -/
theorem Cw.any {id:Nat} {l:List Oper} (hm:P.follows .mixedOrders=true) (h:∀w',Below w.heap.size w w' →w'.heap.size=w.heap.size→Aw P l Q n l.length (Array.replicate l.length false) E w'):Cw P Q n (.region id l.toArray true) E w:=fun a ha=>
 wp_region_any hm (by simpa using h _ (below_draw w) rfl a ha)
/-- An operation that looks at no world is taken first. -/
theorem Aw.take {i d fuel:Nat} {op:Op} {v:Value} {listed:Array Bool} (hQ:NoP Q) (hi:nth l0 i=some ⟨some d,op,ty,pos,af,none⟩) (hs:Region.noSelect l0.toArray=true) (hf:Region.free .any l0.toArray listed i=true)
  (hr:(Region.ready .any l0.toArray listed).contains i=true) (h:∀w,Ex P n E op ty w v) (hd:Nat.blt d n=true) (k:Aw P l0 Q n fuel (listed.setIfInBounds i true) ((d,v)::E) w):Aw P l0 Q n (fuel+1) listed E w:=fun a ha=>
 wpAny_take (by rw [List.getElem?_toArray,nth_eq];exact hi) hs hf hr (fun c a' w' hq=>absurd hq (hQ _ _ _)) (.inl ⟨by simp [Region.wanted],fun w' =>h w' a ha (some d) pos af none⟩) (k _ (ha.put v hd))
/-- The ready ones, each. -/
theorem Aw.all {fuel:Nat} {listed:Array Bool} (rs:List Nat) (hr:Region.ready .any l0.toArray listed=rs) (hne:rs≠[])
  (h:∀i ∈ rs,∀o,nth l0 i=some o→Pw n E (fun a w=>wpOp P l0.toArray Q i (fun a' w' =>wpAny P .any l0.toArray Q fuel (listed.setIfInBounds i true) a' w') a w) w):Aw P l0 Q n (fuel+1) listed E w:=fun a ha=>
 wpAny_all hr hne fun i hi=>by
  have hlt:i<l0.length:=by
   have:i ∈ Region.ready .any l0.toArray listed:=hr ▸ hi
   obtain ⟨_,o,ho,_⟩:=mem_ready.1 this
   have:=(Array.getElem?_eq_some_iff.1 ho).1
   simpa using this
  exact h i hi l0[i] (by rw [← nth_eq,List.getElem?_eq_getElem hlt]) a ha
theorem C1 {fuel:Nat} {listed:Array Bool} (hr:Region.ready .any l0.toArray listed=[]) (h:Pw n E (Q .normal) w):Aw P l0 Q n fuel listed E w:=fun a ha=>wpAny_done hr (h a ha) fuel
/-- One of the ready ones, by the rule for a list of one operation. -/
theorem Pw.one {i fuel:Nat} {o:Oper} {listed:Array Bool} (ho:nth l0 i=some o) (h:Lw P l0 (Then (fun a' w' =>wpAny P .any l0.toArray Q fuel (listed.setIfInBounds i true) a' w') Q) n [o] E w):
  Pw n E (fun a w=>wpOp P l0.toArray Q i (fun a' w' =>wpAny P .any l0.toArray Q fuel (listed.setIfInBounds i true) a' w') a w) w:=fun a ha=>by
 have h1:=h a ha
 have ho' :l0.toArray[i]? =some o:=by rw [List.getElem?_toArray,nth_eq];exact ho
 unfold wpList at h1
 unfold wpOp
 simp only [ho']
 have hK:wpList P l0.toArray (Then (fun a' w' =>wpAny P .any l0.toArray Q fuel (listed.setIfInBounds i true) a' w') Q) []=fun a' w' =>wpAny P .any l0.toArray Q fuel (listed.setIfInBounds i true) a' w' :=by
  funext a' w';rfl
 rw [hK] at h1
 split at h1
 ·rename_i hw
  rw [if_pos hw]
  refine h1.imp (fun h=> ?_) (fun h=>h)
  unfold Oper.wp at*
  generalize (execOp a.eval o).run P w=r at*
  cases r with
  |ok nx w' =>cases nx<;>exact h
  |halt x w' =>cases x<;>exact h
 ·rename_i hw
  rw [if_neg hw];exact h1
theorem Aw.only {i fuel:Nat} {o:Oper} {listed:Array Bool} (hr:Region.ready .any l0.toArray listed=[i]) (ho:nth l0 i=some o)
  (h:Lw P l0 (Then (fun a' w' =>wpAny P .any l0.toArray Q fuel (listed.setIfInBounds i true) a' w') Q) n [o] E w):Aw P l0 Q n (fuel+1) listed E w:=
 Aw.all [i] hr (by simp) fun j hj o' ho' =>by
  obtain rfl:j=i:=by simpa using hj
  obtain rfl:o' =o:=Option.some.inj (ho'.symm.trans ho)
  exact Pw.one ho h
theorem Aw.two {i j fuel:Nat} {o q:Oper} {listed:Array Bool} (hr:Region.ready .any l0.toArray listed=[i,j]) (ho:nth l0 i=some o) (hq:nth l0 j=some q)
  (h:Lw P l0 (Then (fun a' w' =>wpAny P .any l0.toArray Q fuel (listed.setIfInBounds i true) a' w') Q) n [o] E w)
  (k:Lw P l0 (Then (fun a' w' =>wpAny P .any l0.toArray Q fuel (listed.setIfInBounds j true) a' w') Q) n [q] E w):Aw P l0 Q n (fuel+1) listed E w:=
 Aw.all [i,j] hr (by simp) fun m hm o' ho' =>by
  rcases List.mem_cons.1 hm with rfl|hm
  ·obtain rfl:o' =o:=Option.some.inj (ho'.symm.trans ho)
   exact Pw.one ho h
  ·obtain rfl:m=j:=by simpa using hm
   obtain rfl:o' =q:=Option.some.inj (ho'.symm.trans hq)
   exact Pw.one hq k
theorem Aw.back {fuel:Nat} {listed:Array Bool} {l1:List Oper} (h:Aw P l0 Q n fuel listed E w):Lw P l1 (Then (fun a' w' =>wpAny P .any l0.toArray Q fuel listed a' w') Q) n [] E w:=fun a ha=>wpList_nil (h a ha)

theorem one_map {α:Type} {enc:α→Value} (h:∀x,(enc x).oneCell' =true) (l:List α):(l.map enc).all (·.oneCell')=true:=by simp [h]

/-! ### A list with one mark in the room behind it -/
def Twn {α:Type} (w:World) (base:Nat) (T:TypeId) (enc:α→Value) (mark:Value) (v:Value) (l:List α):Prop:=
 ∃b cap,v= .slice (some ⟨b,0,none⟩) l.length cap∧w.ownsRow base T 1 (.slice (some ⟨b,0,none⟩) (l.length+1) cap) (l.length+1) (l.map enc++[mark])

theorem own_short {b cap k m base:Nat} {T:TypeId} {xs ys:List Value} (h:w.ownsRow base T 1 (.slice (some ⟨b,0,none⟩) (k+m) cap) (k+m) (xs++ys)) (hx:xs.length=k):w.ownsRow base T 1 (.slice (some ⟨b,0,none⟩) k cap) k xs:=by
 obtain ⟨h1,h2⟩:=h
 rcases h2 with ⟨h0,_⟩|⟨g,cap',cur,hv,hb,hg,hnc,hcm,hcs,htake⟩
 ·cases h0
 ·cases hv
  refine ⟨by simpa using hx, .inr ⟨b,cap,cur,rfl,hb,hg,by omega,hcm,hcs, ?_⟩⟩
  have:=congrArg (List.take k) htake
  rw [List.take_take,Nat.min_eq_left (by omega)] at this
  simp only [Nat.mul_one] at this ⊢
  rw [this,← hx,List.take_left]
theorem Twn.sl {α:Type} {base:Nat} {T:TypeId} {enc:α→Value} {mark v:Value} {l:List α} (h:Twn w base T enc mark v l):SlT enc w v l:=by
 obtain ⟨b,cap,rfl,ho⟩:=h
 exact own_sl (own_short ho (by simp))
theorem Twn.bs {α:Type} {w' :World} {base:Nat} {T:TypeId} {enc:α→Value} {mark v:Value} {l:List α} (h:Twn w base T enc mark v l) (hb:Below w.heap.size w w'):Twn w' base T enc mark v l:=by
 obtain ⟨b,cap,rfl,ho⟩:=h
 exact ⟨b,cap,rfl,own_bs ho hb⟩

/-! ### append, slicing -/
variable {x y z : Operand} {v u : Value} {t s e : TypeId} {sz base : Nat}
/-- The block of what append gives: the old one, or a new one. -/
theorem append_block {P:Program} {w w' :World} {base:Nat} {t ty e:TypeId} {i:TypeInfo} {z:Value} {size bytes:Nat} (ht:P.underlying t=some (.slice e)) (hi:P.info? e=some i) (hz:i.zero=some z)
  (hsize:i.size=size) (hby:i.bytes=bytes) (hsz:0<size) {v v' :Value} {n:Nat} {xs:List Value} (hown:w.ownsRow base e size v n xs)
  {a:Addr} {m c:Nat} {news:List Value} (hl:news.length=m*size) (hnews:∀j u,news[j]? =some u→w.cell? (a.add j)=some u) (h1:∀u ∈ news,u.oneCell' =true)
  (h63:n+m≤maxLen) (hbytes:(n+m)*bytes≤140737488355328) (hr' :(Builtin.append_ #[t,t] ty #[v, .slice (some a) m c]).run P w= .ok v' w'):
  v'.ownBlock=v.ownBlock∨v'.ownBlock=some w.heap.size:=by
 subst hsize
 subst hby
 have hsmall:n+m≤9223372036854775807:=by simp only [maxLen] at h63;omega
 rcases hown.2 with ⟨rfl,rfl⟩|⟨g,cap,cur,rfl,hbg,hg,hnc,hcm,hcs,htake⟩
 ·by_cases hm:m=0
  ·subst hm
   obtain rfl:news=[]:=List.eq_nil_of_length_eq_zero (by simpa using hl)
   have hr:(Builtin.append_ #[t,t] ty #[.slice none 0 0, .slice (some a) 0 c]).run P w= .ok (.slice none 0 0) w:=by
    simp [Builtin.append_,run_underlying ht,sizeOf,typeInfo,hi,Builtin.lenOf,Builtin.firstCells,loadCells,loadCellsFrom]
   rw [hr] at hr'
   cases hr'
   exact .inl rfl
  ·have hr:=run_append_nil (P:=P) w t ty e i z ht hi hz a m c news hl hnews (by omega) (by omega) (by have hb:=hbytes;simp only [Nat.zero_add] at hb;omega)
   rw [hr] at hr'
   cases hr'
   exact .inr rfl
 ·by_cases hroom:n+m≤cap
  ·have hfit:n*i.size+news.length≤cur.size:=by rw [hl,hcs,← Nat.add_mul];exact Nat.mul_le_mul_right _ hroom
   have hr:=run_append_room (P:=P) w t ty e i ht hi g n cap cur hg a m c news hl hnews h1 hroom hfit
   rw [hr] at hr'
   cases hr'
   exact .inl rfl
  ·have holds:∀j u,xs[j]? =some u→w.cell? ((⟨g,0,none⟩:Addr).add j)=some u:=hown.cells (g:=g) rfl
   have hr:=run_append_grow (P:=P) w t ty e i z ht hi hz ⟨g,0,none⟩ n cap xs hown.1 holds a m c news hl hnews (by omega) (by omega) (growslice_fits (by omega) hbytes)
   rw [hr] at hr'
   cases hr'
   exact .inr rfl

theorem Xw.append2 {k m:Nat} {xs news:List Value} {bytes:Nat} {zs:List Value} (hu:STy P t e sz) (hi:ITy P e zs bytes) (hzl:zs.length=sz) (hz:0<sz) (hx:ev E x=some v) (hy:ev E y=some u)
  (hown:w.ownsRow base e sz v k xs) (hsrc:Sl w sz u m news) (hone:news.all (·.oneCell')=true) (hlen:(k+m)*bytes≤140737488355328) (hm:k+m≤9223372036854775807) (hbase:base≤w.heap.size):
  Xw P n E (.call {callee:= .builtin .append,args:= #[x,y],argTypes:= #[t,t]}) ty w (fun v' w' =>w'.ownsRow base e sz v' (k+m) (xs++news)∧Below base w w' ∧w.grownBy w' v.ownBlock∧(v'.ownBlock=v.ownBlock∨v'.ownBlock=some w.heap.size)):=fun a ha=>by
 subst hzl
 have hbel:∀w',w.grownBy w' v.ownBlock→Below base w w' :=fun w' hg=>grown_below hg hbase fun k hk=>(own_block hown k hk).1
 obtain ⟨i,h1,h2,h3,zv,h4,h5⟩:=hi.i
 obtain ⟨hl,ao,cap,rfl,hc1,hc2,hc3,hc4⟩:=hsrc
 have hzs:zv.cells.size=zs.length:=by rw [h5];simp
 cases ao with
 |none=>
  have h0:=hc3 rfl
  have hm0:m=0:=by omega
  subst hm0
  obtain rfl:news=[]:=List.eq_nil_of_length_eq_zero (by simpa using hl)
  subst h0
  have hr:=run_append_owned_none (P:=P) w base t ty e i zs.length hu.u h1 v k xs hown
  refine ⟨v,w,fun _ _ _ _=>by simp [execOp,resolve,invoke,builtin,ha.ev hx,ha.ev hy,hr],by simpa using hown,hbel _ (grown_refl _ _),grown_refl _ _, .inl rfl⟩
 |some ad=>
  have hm' :k+m≤maxLen:=by unfold maxLen;omega
  have hone' :∀u ∈ news,u.oneCell' =true:=fun u hu=>List.all_eq_true.1 hone u hu
  obtain ⟨v',w',hr,g1,g2,g3⟩:=run_append_own (P:=P) w base t ty e i zv zs.length bytes hu.u h1 h4 h2 h3 hzs hz v k xs hown ad m cap news hl (hc4 ad rfl) hone' hm' hlen hbase
  exact ⟨v',w',fun _ _ _ _=>by simp [execOp,resolve,invoke,builtin,ha.ev hx,ha.ev hy,hr],g1,hbel _ g2,g2,append_block hu.u h1 h4 h2 h3 hz hown hl (hc4 ad rfl) hone' hm' hlen hr⟩
theorem Cq {k m:Nat} {xs news:List Value} {bytes:Nat} {zs:List Value} (hu:STy P t e sz) (hi:ITy P e zs bytes) (hzl:zs.length=sz) (hz:0<sz) (hx:ev E x=some v) (hy:ev E y=some u)
  (hown:w.ownsRow base e sz v k xs) (hsrc:Sl w sz u m news) (hone:news.all (·.oneCell')=true) (hlen:(k+m)*bytes≤140737488355328) (hm:k+m≤9223372036854775807) (hbase:base≤w.heap.size):
  Xw P n E (.call {callee:= .builtin .append,args:= #[x,y],argTypes:= #[t,t]}) ty w (fun v' w' =>w'.ownsRow base e sz v' (k+m) (xs++news)∧Below base w w' ∧w.grownBy w' v.ownBlock):=fun a ha=>by
 obtain ⟨v',w',h1,h2,h3,h4,_⟩:=Xw.append2 hu hi hzl hz hx hy hown hsrc hone hlen hm hbase a ha
 exact ⟨v',w',h1,h2,h3,h4⟩

/-- Two lists that grow, each for itself. -/
def Apt (v u:Value):Prop:=∀b,v.ownBlock=some b→u.ownBlock≠some b
theorem Apt.symm {v u:Value} (h:Apt v u):Apt u v:=fun b h1 h2=>h b h2 h1
theorem Fnc.q {f:FuncId} {args:List Value} {w1:World} (h:Fnc P f args w1 (fun r w' =>r=v∧Below w1.heap.size w1 w')) (hq:Below w.heap.size w w1):Fnc P f args w1 (fun r w' =>r=v∧Below w.heap.size w w'):=
 h.mono fun _ _ hr=>⟨hr.1,below_tr hq hr.2 (Nat.le_refl _)⟩

/-- The slice value that 'x[i:j]' makes. -/
def cut (v:Value) (sz i j:Nat):Value:=match v with
 | .slice ao _ cap=> .slice (if cap=i then ao else ao.map (·.add (i*sz))) (j - i) (cap - i)
 |_=>undef

theorem Sl.cut {c i j:Nat} {xs:List Value} (h:Sl w sz v c xs) (hij:i≤j) (hj:j≤c):Sl w sz (cut v sz i j) (j - i) ((xs.drop (i*sz)).take ((j - i)*sz)):=by
 obtain ⟨hl,ao,cap,rfl,h1,h2,h3,h4⟩:=h
 refine ⟨?_,_,cap - i,rfl,by omega,by omega,fun hn=> ?_,fun a ha k u hu=> ?_⟩
 ·have e1:j*sz=i*sz+(j - i)*sz:=by rw [← Nat.add_mul];congr 1;omega
  have e2:j*sz≤c*sz:=Nat.mul_le_mul_right _ hj
  rw [List.length_take,List.length_drop,hl];omega
 ·split at hn
  ·omega
  ·have:=h3 (by cases ao<;>simp_all);omega
 ·have hk:k<(j - i)*sz:=by
   rw [List.getElem?_take] at hu
   split at hu
   ·assumption
   ·cases hu
  rw [List.getElem?_take,if_pos hk,List.getElem?_drop] at hu
  split at ha
  ·rename_i hci
   have h0:(j - i)=0:=by omega
   rw [h0] at hk;simp at hk
  ·cases ao with
   |none=>simp at ha
   |some ad=>
    simp only [Option.map_some,Option.some.injEq] at ha
    subst ha
    rw [add_add']
    exact h4 ad rfl _ _ hu

theorem SlT.cut {α:Type} {enc:α→Value} {l:List α} {i j:Nat} (h:SlT enc w v l) (hij:i≤j) (hj:j≤l.length):SlT enc w (Dd.cut v 1 i j) ((l.drop i).take (j - i)):=by
 have:=Sl.cut h hij hj
 have e:((l.drop i).take (j - i)).length=j - i:=by simp;omega
 unfold SlT
 rw [e]
 simpa [List.map_take,List.map_drop] using this
theorem SlT.take {α:Type} {enc:α→Value} {l:List α} {j:Nat} (h:SlT enc w v l) (hj:j≤l.length):SlT enc w (Dd.cut v 1 0 j) (l.take j):=by
 simpa using SlT.cut h (Nat.zero_le j) hj
theorem SlT.drop {α:Type} {enc:α→Value} {l:List α} {i:Nat} (h:SlT enc w v l) (hi:i≤l.length):SlT enc w (Dd.cut v 1 i l.length) (l.drop i):=by
 have:=SlT.cut h hi (Nat.le_refl _)
 rwa [List.take_of_length_le (by simp)] at this

section
variable {k1 k2 : IntKind} {c i j : Nat} {xs : List Value} {y2 : Operand}
theorem Ex.cutHv (hu:STy P t e sz) (hx:ev E x=some v) (hh:ev E y2=some (.int k2 (j:Int))) (h:Shp v c) (hj:j≤c):Ex P n E (.slice t x none (some y2) none) ty w (cut v sz 0 j):=fun a ha _ _ _ _=>by
 obtain ⟨ao,cap,rfl,h1,h2,h3⟩:=h
 have hue:P.underlying t=some (.slice (P.elem t)):=by rw [Program.elem,hu.u]
 have he:P.elem t=e:=by rw [Program.elem,hu.u]
 have hr:=run_slice_h (P:=P) w t ao c cap hue k2 (j:Int) (by omega) (by omega)
 simp only [Int.toNat_natCast,he,hu.s w,Result.andThen_ok] at hr
 simp [execOp,ha.ev hx,ha.ev hh,Instr.sliceAt,run_underlying hu.u,hr,sliced,cut]
theorem Ex.cutH (hu:STy P t e sz) (hx:ev E x=some v) (hh:ev E y2=some (.int k2 (j:Int))) (h:Sl w sz v c xs) (hj:j≤c):Ex P n E (.slice t x none (some y2) none) ty w (cut v sz 0 j):=Ex.cutHv hu hx hh h.shp hj
/-- A cut up to a place within the room. -/
theorem Ex.extH {b cap:Nat} (hu:STy P t e sz) (hx:ev E x=some (.slice (some ⟨b,0,none⟩) c cap)) (hh:ev E y2=some (.int k2 (j:Int))) (hj:j≤cap):Ex P n E (.slice t x none (some y2) none) ty w (.slice (some ⟨b,0,none⟩) j cap):=fun a ha _ _ _ _=>by
 have hue:P.underlying t=some (.slice (P.elem t)):=by rw [Program.elem,hu.u]
 have he:P.elem t=e:=by rw [Program.elem,hu.u]
 have hr:=run_slice_h (P:=P) w t (some ⟨b,0,none⟩) c cap hue k2 (j:Int) (by omega) (by omega)
 simp only [Int.toNat_natCast,he,hu.s w,Result.andThen_ok] at hr
 simp [execOp,ha.ev hx,ha.ev hh,Instr.sliceAt,run_underlying hu.u,hr,sliced,add_lit]
theorem Ex.cutLv (hu:STy P t e sz) (hx:ev E x=some v) (hl:ev E y=some (.int k1 (i:Int))) (h:Shp v c) (hi:i≤c):Ex P n E (.slice t x (some y) none none) ty w (cut v sz i c):=fun a ha _ _ _ _=>by
 obtain ⟨ao,cap,rfl,h1,h2,h3⟩:=h
 have hue:P.underlying t=some (.slice (P.elem t)):=by rw [Program.elem,hu.u]
 have he:P.elem t=e:=by rw [Program.elem,hu.u]
 have hr:=run_slice_l (P:=P) w t ao c cap hue k1 (i:Int) (by omega) (by omega)
 simp only [Int.toNat_natCast,he,hu.s w,Result.andThen_ok] at hr
 simp [execOp,ha.ev hx,ha.ev hl,Instr.sliceAt,run_underlying hu.u,hr,sliced,cut]
theorem Ex.cutL (hu:STy P t e sz) (hx:ev E x=some v) (hl:ev E y=some (.int k1 (i:Int))) (h:Sl w sz v c xs) (hi:i≤c):Ex P n E (.slice t x (some y) none none) ty w (cut v sz i c):=Ex.cutLv hu hx hl h.shp hi
end
end
end Go.Dd

/-! Closed facts on the types of this seat: printed by a program of ours. -/
namespace Go.Proofs.YtmipoeanpnnjoaaGreatDoor
open Go Go.Dd
set_option maxRecDepth 100000

theorem mixed:Tryz.prog.follows .mixedOrders=true:=by kernel_rfl
theorem un_2:Tryz.prog.underlying 2=some (.int .i64):=Tryz.underlying2
theorem us_2:(Tryz.prog.underlying 2).isSome=true:=by rw [un_2];rfl
theorem ag_2 (w:World):(isAgg 2).run Tryz.prog w= .ok false w:=Tryz.isAgg2 w
theorem sz_2 (w:World):(sizeOf 2).run Tryz.prog w= .ok 1 w:=Tryz.sizeOf2 w
theorem it_2:ITy Tryz.prog 2 [.int .i64 0] 8:=⟨⟨_,(show Tryz.prog.info? 2=some Tryz.t2 by kernel_rfl),rfl,rfl,_,rfl,rfl⟩⟩
theorem un_3:Tryz.prog.underlying 3=some (.int .i64):=Tryz.underlying3
theorem us_3:(Tryz.prog.underlying 3).isSome=true:=by rw [un_3];rfl
theorem ag_3 (w:World):(isAgg 3).run Tryz.prog w= .ok false w:=Tryz.isAgg3 w
theorem sz_3 (w:World):(sizeOf 3).run Tryz.prog w= .ok 1 w:=Tryz.sizeOf3 w
theorem it_3:ITy Tryz.prog 3 [.int .i64 0] 8:=⟨⟨_,(show Tryz.prog.info? 3=some Tryz.t3 by kernel_rfl),rfl,rfl,_,rfl,rfl⟩⟩
theorem un_4:Tryz.prog.underlying 4=some (.bool):=Tryz.underlying4
theorem un_5:Tryz.prog.underlying 5=some (.int .u8):=Tryz.underlying5
theorem ag_5 (w:World):(isAgg 5).run Tryz.prog w= .ok false w:=Tryz.isAgg5 w
theorem sz_5 (w:World):(sizeOf 5).run Tryz.prog w= .ok 1 w:=Tryz.sizeOf5 w
theorem it_5:ITy Tryz.prog 5 [.int .u8 0] 1:=⟨⟨_,(show Tryz.prog.info? 5=some Tryz.t5 by kernel_rfl),rfl,rfl,_,rfl,rfl⟩⟩
theorem un_21:Tryz.prog.underlying 21=some (.int .i32):=Tryz.underlying21
theorem us_21:(Tryz.prog.underlying 21).isSome=true:=by rw [un_21];rfl
theorem ag_21 (w:World):(isAgg 21).run Tryz.prog w= .ok false w:=Tryz.isAgg21 w
theorem sz_21 (w:World):(sizeOf 21).run Tryz.prog w= .ok 1 w:=Tryz.sizeOf21 w
theorem it_21:ITy Tryz.prog 21 [.int .i32 0] 4:=⟨⟨_,(show Tryz.prog.info? 21=some Tryz.t21 by kernel_rfl),rfl,rfl,_,rfl,rfl⟩⟩
theorem un_22:Tryz.prog.underlying 22=some (.int .u8):=Tryz.underlying22
theorem us_22:(Tryz.prog.underlying 22).isSome=true:=by rw [un_22];rfl
theorem ag_22 (w:World):(isAgg 22).run Tryz.prog w= .ok false w:=Tryz.isAgg22 w
theorem sz_22 (w:World):(sizeOf 22).run Tryz.prog w= .ok 1 w:=Tryz.sizeOf22 w
theorem st_23:STy Tryz.prog 23 3 1:=⟨Tryz.underlying23,Tryz.sizeOf3⟩
theorem un_23:Tryz.prog.underlying 23=some (.slice 3):=Tryz.underlying23
theorem ag_23 (w:World):(isAgg 23).run Tryz.prog w= .ok false w:=Tryz.isAgg23 w
theorem sz_23 (w:World):(sizeOf 23).run Tryz.prog w= .ok 1 w:=Tryz.sizeOf23 w
theorem it_23:ITy Tryz.prog 23 [.slice none 0 0] 24:=⟨⟨_,(show Tryz.prog.info? 23=some Tryz.t23 by kernel_rfl),rfl,rfl,_,rfl,rfl⟩⟩
theorem ag_25 (w:World):(isAgg 25).run Tryz.prog w= .ok true w:=Tryz.isAgg25 w
theorem sz_25 (w:World):(sizeOf 25).run Tryz.prog w= .ok 5 w:=Tryz.sizeOf25 w
theorem it_25:ITy Tryz.prog 25 [.int .u8 0, .slice none 0 0, .slice none 0 0, .int .i64 0, .int .i64 0] 72:=⟨⟨_,(show Tryz.prog.info? 25=some Tryz.t25 by kernel_rfl),rfl,rfl,_,rfl,rfl⟩⟩
theorem st_26:STy Tryz.prog 26 33 2:=⟨Tryz.underlying26,Tryz.sizeOf33⟩
theorem un_26:Tryz.prog.underlying 26=some (.slice 33):=Tryz.underlying26
theorem ag_26 (w:World):(isAgg 26).run Tryz.prog w= .ok false w:=Tryz.isAgg26 w
theorem sz_26 (w:World):(sizeOf 26).run Tryz.prog w= .ok 1 w:=Tryz.sizeOf26 w
theorem st_31:STy Tryz.prog 31 21 1:=⟨Tryz.underlying31,Tryz.sizeOf21⟩
theorem un_31:Tryz.prog.underlying 31=some (.slice 21):=Tryz.underlying31
theorem ag_31 (w:World):(isAgg 31).run Tryz.prog w= .ok false w:=Tryz.isAgg31 w
theorem sz_31 (w:World):(sizeOf 31).run Tryz.prog w= .ok 1 w:=Tryz.sizeOf31 w
theorem it_31:ITy Tryz.prog 31 [.slice none 0 0] 24:=⟨⟨_,(show Tryz.prog.info? 31=some Tryz.t31 by kernel_rfl),rfl,rfl,_,rfl,rfl⟩⟩
theorem ag_33 (w:World):(isAgg 33).run Tryz.prog w= .ok true w:=Tryz.isAgg33 w
theorem sz_33 (w:World):(sizeOf 33).run Tryz.prog w= .ok 2 w:=Tryz.sizeOf33 w
theorem it_33:ITy Tryz.prog 33 [.slice none 0 0, .slice none 0 0] 48:=⟨⟨_,(show Tryz.prog.info? 33=some Tryz.t33 by kernel_rfl),rfl,rfl,_,rfl,rfl⟩⟩
theorem ag_36 (w:World):(isAgg 36).run Tryz.prog w= .ok false w:=Tryz.isAgg36 w
theorem sz_36 (w:World):(sizeOf 36).run Tryz.prog w= .ok 1 w:=Tryz.sizeOf36 w
theorem st_40:STy Tryz.prog 40 132 3:=⟨Tryz.underlying40,Tryz.sizeOf132⟩
theorem ag_40 (w:World):(isAgg 40).run Tryz.prog w= .ok false w:=Tryz.isAgg40 w
theorem sz_40 (w:World):(sizeOf 40).run Tryz.prog w= .ok 1 w:=Tryz.sizeOf40 w
theorem st_41:STy Tryz.prog 41 135 3:=⟨Tryz.underlying41,Tryz.sizeOf135⟩
theorem ag_41 (w:World):(isAgg 41).run Tryz.prog w= .ok false w:=Tryz.isAgg41 w
theorem sz_41 (w:World):(sizeOf 41).run Tryz.prog w= .ok 1 w:=Tryz.sizeOf41 w
theorem st_42:STy Tryz.prog 42 138 3:=⟨Tryz.underlying42,Tryz.sizeOf138⟩
theorem ag_42 (w:World):(isAgg 42).run Tryz.prog w= .ok false w:=Tryz.isAgg42 w
theorem sz_42 (w:World):(sizeOf 42).run Tryz.prog w= .ok 1 w:=Tryz.sizeOf42 w
theorem st_43:STy Tryz.prog 43 142 3:=⟨Tryz.underlying43,Tryz.sizeOf142⟩
theorem ag_43 (w:World):(isAgg 43).run Tryz.prog w= .ok false w:=Tryz.isAgg43 w
theorem sz_43 (w:World):(sizeOf 43).run Tryz.prog w= .ok 1 w:=Tryz.sizeOf43 w
theorem st_44:STy Tryz.prog 44 147 3:=⟨Tryz.underlying44,Tryz.sizeOf147⟩
theorem ag_44 (w:World):(isAgg 44).run Tryz.prog w= .ok false w:=Tryz.isAgg44 w
theorem sz_44 (w:World):(sizeOf 44).run Tryz.prog w= .ok 1 w:=Tryz.sizeOf44 w
theorem st_45:STy Tryz.prog 45 129 3:=⟨Tryz.underlying45,Tryz.sizeOf129⟩
theorem ag_45 (w:World):(isAgg 45).run Tryz.prog w= .ok false w:=Tryz.isAgg45 w
theorem sz_45 (w:World):(sizeOf 45).run Tryz.prog w= .ok 1 w:=Tryz.sizeOf45 w
theorem st_46:STy Tryz.prog 46 151 3:=⟨Tryz.underlying46,Tryz.sizeOf151⟩
theorem ag_46 (w:World):(isAgg 46).run Tryz.prog w= .ok false w:=Tryz.isAgg46 w
theorem sz_46 (w:World):(sizeOf 46).run Tryz.prog w= .ok 1 w:=Tryz.sizeOf46 w
theorem st_47:STy Tryz.prog 47 155 3:=⟨Tryz.underlying47,Tryz.sizeOf155⟩
theorem ag_47 (w:World):(isAgg 47).run Tryz.prog w= .ok false w:=Tryz.isAgg47 w
theorem sz_47 (w:World):(sizeOf 47).run Tryz.prog w= .ok 1 w:=Tryz.sizeOf47 w
theorem st_48:STy Tryz.prog 48 162 3:=⟨Tryz.underlying48,Tryz.sizeOf162⟩
theorem ag_48 (w:World):(isAgg 48).run Tryz.prog w= .ok false w:=Tryz.isAgg48 w
theorem sz_48 (w:World):(sizeOf 48).run Tryz.prog w= .ok 1 w:=Tryz.sizeOf48 w
theorem st_49:STy Tryz.prog 49 168 3:=⟨Tryz.underlying49,Tryz.sizeOf168⟩
theorem ag_49 (w:World):(isAgg 49).run Tryz.prog w= .ok false w:=Tryz.isAgg49 w
theorem sz_49 (w:World):(sizeOf 49).run Tryz.prog w= .ok 1 w:=Tryz.sizeOf49 w
theorem st_50:STy Tryz.prog 50 174 3:=⟨Tryz.underlying50,Tryz.sizeOf174⟩
theorem ag_50 (w:World):(isAgg 50).run Tryz.prog w= .ok false w:=Tryz.isAgg50 w
theorem sz_50 (w:World):(sizeOf 50).run Tryz.prog w= .ok 1 w:=Tryz.sizeOf50 w
theorem st_51:STy Tryz.prog 51 180 3:=⟨Tryz.underlying51,Tryz.sizeOf180⟩
theorem ag_51 (w:World):(isAgg 51).run Tryz.prog w= .ok false w:=Tryz.isAgg51 w
theorem sz_51 (w:World):(sizeOf 51).run Tryz.prog w= .ok 1 w:=Tryz.sizeOf51 w
theorem st_52:STy Tryz.prog 52 186 3:=⟨Tryz.underlying52,Tryz.sizeOf186⟩
theorem ag_52 (w:World):(isAgg 52).run Tryz.prog w= .ok false w:=Tryz.isAgg52 w
theorem sz_52 (w:World):(sizeOf 52).run Tryz.prog w= .ok 1 w:=Tryz.sizeOf52 w
theorem st_53:STy Tryz.prog 53 191 3:=⟨Tryz.underlying53,Tryz.sizeOf191⟩
theorem ag_53 (w:World):(isAgg 53).run Tryz.prog w= .ok false w:=Tryz.isAgg53 w
theorem sz_53 (w:World):(sizeOf 53).run Tryz.prog w= .ok 1 w:=Tryz.sizeOf53 w
theorem st_54:STy Tryz.prog 54 195 3:=⟨Tryz.underlying54,Tryz.sizeOf195⟩
theorem ag_54 (w:World):(isAgg 54).run Tryz.prog w= .ok false w:=Tryz.isAgg54 w
theorem sz_54 (w:World):(sizeOf 54).run Tryz.prog w= .ok 1 w:=Tryz.sizeOf54 w
theorem it_56:ITy Tryz.prog 56 [.int .i64 0, .slice none 0 0, .slice none 0 0, .slice none 0 0, .slice none 0 0, .slice none 0 0, .slice none 0 0, .slice none 0 0, .slice none 0 0, .slice none 0 0, .slice none 0 0, .slice none 0 0, .slice none 0 0, .slice none 0 0, .slice none 0 0, .slice none 0 0] 368:=⟨⟨_,(show Tryz.prog.info? 56=some Tryz.t56 by kernel_rfl),rfl,rfl,_,rfl,rfl⟩⟩
theorem st_62:STy Tryz.prog 62 25 5:=⟨Tryz.underlying62,Tryz.sizeOf25⟩
theorem ag_62 (w:World):(isAgg 62).run Tryz.prog w= .ok false w:=Tryz.isAgg62 w
theorem sz_62 (w:World):(sizeOf 62).run Tryz.prog w= .ok 1 w:=Tryz.sizeOf62 w
theorem ag_79 (w:World):(isAgg 79).run Tryz.prog w= .ok true w:=Tryz.isAgg79 w
theorem sz_79 (w:World):(sizeOf 79).run Tryz.prog w= .ok 5 w:=Tryz.sizeOf79 w
theorem it_79:ITy Tryz.prog 79 [.int .i64 0, .int .i64 0, .int .i64 0, .int .i64 0, .nilFunc] 40:=⟨⟨_,(show Tryz.prog.info? 79=some Tryz.t79 by kernel_rfl),rfl,rfl,_,rfl,rfl⟩⟩
theorem un_80:Tryz.prog.underlying 80=some (.array 14 79):=Tryz.underlying80
theorem ag_83 (w:World):(isAgg 83).run Tryz.prog w= .ok false w:=Tryz.isAgg83 w
theorem ag_107 (w:World):(isAgg 107).run Tryz.prog w= .ok false w:=Tryz.isAgg107 w
theorem st_125:STy Tryz.prog 125 23 1:=⟨Tryz.underlying125,Tryz.sizeOf23⟩
theorem ag_129 (w:World):(isAgg 129).run Tryz.prog w= .ok true w:=Tryz.isAgg129 w
theorem sz_129 (w:World):(sizeOf 129).run Tryz.prog w= .ok 3 w:=Tryz.sizeOf129 w
theorem it_129:ITy Tryz.prog 129 [.slice none 0 0, .slice none 0 0, .int .i64 0] 56:=⟨⟨_,(show Tryz.prog.info? 129=some Tryz.t129 by kernel_rfl),rfl,rfl,_,rfl,rfl⟩⟩
theorem st_130:STy Tryz.prog 130 5 1:=⟨Tryz.underlying130,Tryz.sizeOf5⟩
theorem ag_130 (w:World):(isAgg 130).run Tryz.prog w= .ok false w:=Tryz.isAgg130 w
theorem sz_130 (w:World):(sizeOf 130).run Tryz.prog w= .ok 1 w:=Tryz.sizeOf130 w
theorem ag_132 (w:World):(isAgg 132).run Tryz.prog w= .ok true w:=Tryz.isAgg132 w
theorem sz_132 (w:World):(sizeOf 132).run Tryz.prog w= .ok 3 w:=Tryz.sizeOf132 w
theorem it_132:ITy Tryz.prog 132 [.slice none 0 0, .slice none 0 0, .int .i64 0] 56:=⟨⟨_,(show Tryz.prog.info? 132=some Tryz.t132 by kernel_rfl),rfl,rfl,_,rfl,rfl⟩⟩
theorem ag_135 (w:World):(isAgg 135).run Tryz.prog w= .ok true w:=Tryz.isAgg135 w
theorem sz_135 (w:World):(sizeOf 135).run Tryz.prog w= .ok 3 w:=Tryz.sizeOf135 w
theorem it_135:ITy Tryz.prog 135 [.slice none 0 0, .slice none 0 0, .int .i64 0] 56:=⟨⟨_,(show Tryz.prog.info? 135=some Tryz.t135 by kernel_rfl),rfl,rfl,_,rfl,rfl⟩⟩
theorem ag_138 (w:World):(isAgg 138).run Tryz.prog w= .ok true w:=Tryz.isAgg138 w
theorem sz_138 (w:World):(sizeOf 138).run Tryz.prog w= .ok 3 w:=Tryz.sizeOf138 w
theorem it_138:ITy Tryz.prog 138 [.slice none 0 0, .slice none 0 0, .int .i64 0] 56:=⟨⟨_,(show Tryz.prog.info? 138=some Tryz.t138 by kernel_rfl),rfl,rfl,_,rfl,rfl⟩⟩
theorem ag_151 (w:World):(isAgg 151).run Tryz.prog w= .ok true w:=Tryz.isAgg151 w
theorem sz_151 (w:World):(sizeOf 151).run Tryz.prog w= .ok 3 w:=Tryz.sizeOf151 w
theorem it_151:ITy Tryz.prog 151 [.slice none 0 0, .slice none 0 0, .int .i64 0] 56:=⟨⟨_,(show Tryz.prog.info? 151=some Tryz.t151 by kernel_rfl),rfl,rfl,_,rfl,rfl⟩⟩
theorem ag_214 (w:World):(isAgg 214).run Tryz.prog w= .ok false w:=Tryz.isAgg214 w
theorem sz_214 (w:World):(sizeOf 214).run Tryz.prog w= .ok 1 w:=Tryz.sizeOf214 w
theorem st_221:STy Tryz.prog 221 2 1:=⟨Tryz.underlying221,Tryz.sizeOf2⟩
theorem ag_223 (w:World):(isAgg 223).run Tryz.prog w= .ok false w:=Tryz.isAgg223 w
theorem sz_223 (w:World):(sizeOf 223).run Tryz.prog w= .ok 1 w:=Tryz.sizeOf223 w
theorem ag_226 (w:World):(isAgg 226).run Tryz.prog w= .ok false w:=Tryz.isAgg226 w
theorem sz_226 (w:World):(sizeOf 226).run Tryz.prog w= .ok 1 w:=Tryz.sizeOf226 w
theorem it_226:ITy Tryz.prog 226 [.nilFunc] 8:=⟨⟨_,(show Tryz.prog.info? 226=some Tryz.t226 by kernel_rfl),rfl,rfl,_,rfl,rfl⟩⟩
theorem it_228:ITy Tryz.prog 228 [.slice none 0 0, .int .i64 0, .int .i64 0] 40:=⟨⟨_,(show Tryz.prog.info? 228=some Tryz.t228 by kernel_rfl),rfl,rfl,_,rfl,rfl⟩⟩
theorem it_233:ITy Tryz.prog 233 [.int .i64 0, .int .i64 0, .int .i64 0] 24:=⟨⟨_,(show Tryz.prog.info? 233=some Tryz.t233 by kernel_rfl),rfl,rfl,_,rfl,rfl⟩⟩
theorem st_235:STy Tryz.prog 235 3 1:=⟨Tryz.underlying235,Tryz.sizeOf3⟩
theorem ag_235 (w:World):(isAgg 235).run Tryz.prog w= .ok false w:=Tryz.isAgg235 w
theorem sz_235 (w:World):(sizeOf 235).run Tryz.prog w= .ok 1 w:=Tryz.sizeOf235 w
theorem ag_239 (w:World):(isAgg 239).run Tryz.prog w= .ok true w:=Tryz.isAgg239 w
theorem sz_239 (w:World):(sizeOf 239).run Tryz.prog w= .ok 2 w:=Tryz.sizeOf239 w
theorem it_239:ITy Tryz.prog 239 [.slice none 0 0, .int .i64 0] 32:=⟨⟨_,(show Tryz.prog.info? 239=some Tryz.t239 by kernel_rfl),rfl,rfl,_,rfl,rfl⟩⟩
end Go.Proofs.YtmipoeanpnnjoaaGreatDoor

/-! The step layer, part 5: what the arguments that come in read as; from a walk to the row. Nothing here names a program. -/
namespace Go.Dd
open Go Go.RowKit

section
variable {H : Type} {enc : TypeId × Value → H} {P : Program} {w : World}

/-- These cells read as some datum of type t, within the form's own reach. -/
def In (enc:TypeId×Value→H) (P:Program) (w:World) (t:TypeId) (cs:List Value):Prop:=
 ∃fuel d ps,DataW.trod enc P w 0 (fun _=>true) true fuel t cs=some (d,ps)∧∀x ∈ d.weights P t,x≤reachBytes

theorem In.int {t:TypeId} {k:IntKind} {cs:List Value} (hu:P.underlying t=some (.int k)) (h:In enc P w t cs):∃m,cs=[.int k m]∧(Lit.int k m).wf=true:=by
 obtain ⟨fuel,d,ps,h,_⟩:=h
 cases fuel with
 |zero=>simp [DataW.trod] at h
 |succ fuel=>
  unfold DataW.trod at h
  rw [hu] at h
  split at h<;>simp_all

theorem mapM_get {α β:Type} {f:α→Option β}:∀{l:List α} {r:List β},l.mapM f=some r→∀(i:Nat) (a:α),l[i]? =some a→∃b,f a=some b∧r[i]? =some b
 |[],r,h,i,a,hi=>by simp at hi
 |x::l,r,h,i,a,hi=>by
  simp only [List.mapM_cons,Option.bind_eq_bind,Option.pure_def] at h
  cases hx:f x with
  |none=>simp [hx] at h
  |some b=>
   cases hl:l.mapM f with
   |none=>simp [hx,hl] at h
   |some r' =>
    simp only [hx,hl,Option.bind_some,Option.some.injEq] at h
    subst h
    cases i with
    |zero=>simp at hi;subst hi;exact ⟨b,hx,by simp⟩
    |succ i=>simpa using mapM_get hl i a (by simpa using hi)
theorem mapM_len {α β:Type} {f:α→Option β}:∀{l:List α} {r:List β},l.mapM f=some r→r.length=l.length
 |[],r,h=>by simp at h;simp [← h]
 |x::l,r,h=>by
  simp only [List.mapM_cons,Option.bind_eq_bind,Option.pure_def] at h
  cases hx:f x with
  |none=>simp [hx] at h
  |some b=>
   cases hl:l.mapM f with
   |none=>simp [hx,hl] at h
   |some r' =>
    simp only [hx,hl,Option.bind_some,Option.some.injEq] at h
    subst h
    simpa using mapM_len hl

theorem cells_get {base n:Nat} {a:Addr} {cs:List Value} (h:w.cells? base a n=some cs):cs.length=n∧∀j u,cs[j]? =some u→w.cell? (a.add j)=some u:=by
 unfold World.cells? at h
 split at h
 ·refine ⟨by simpa using mapM_len h,fun j u hu=> ?_⟩
  have hj:j<n:=by
   have:=mapM_len h
   have hlt:j<cs.length:=by
    rcases Nat.lt_or_ge j cs.length with h|h
    ·exact h
    ·simp [List.getElem?_eq_none h] at hu
   simp at this;omega
  obtain ⟨b,hb,hr⟩:=mapM_get h j j (by simp [hj])
  rw [hr] at hu
  simp only [Option.some.injEq] at hu
  rw [hb,hu]
 ·cases h

theorem weightsAll_mem {e:TypeId}:∀{ds:List (DataW H)} {i:Nat} {d:DataW H},ds[i]? =some d→∀x ∈ d.weights P e,x ∈ DataW.weightsAll P e ds
 |d0::ds,0,d,hd,x,hx=>by
  simp only [List.getElem?_cons_zero,Option.some.injEq] at hd
  subst hd
  simp only [DataW.weightsAll,List.mem_append];exact .inl hx
 |d0::ds,i+1,d,hd,x,hx=>by
  simp only [List.getElem?_cons_succ] at hd
  simp only [DataW.weightsAll,List.mem_append];exact .inr (weightsAll_mem hd x hx)
 |[],_,_,hd,_,_=>by simp at hd

theorem flatten_at {sz:Nat}:∀{css:List (List Value)} (_:∀c ∈ css,c.length=sz) (i:Nat) (c:List Value),css[i]? =some c→(css.flatten.drop (i*sz)).take sz=c
 |c0::css,hl,0,c,hc=>by
  simp only [List.getElem?_cons_zero,Option.some.injEq] at hc
  subst hc
  have:=hl c0 (by simp)
  simp [List.flatten_cons,← this]
 |c0::css,hl,i+1,c,hc=>by
  simp only [List.getElem?_cons_succ] at hc
  have h0:=hl c0 (by simp)
  have ih:=flatten_at (fun c hc=>hl c (by simp [hc])) i c hc
  rw [List.flatten_cons,show (i+1)*sz=c0.length+i*sz by rw [h0,Nat.succ_mul];omega,← List.drop_drop,List.drop_left]
  exact ih
 |[],_,_,_,hc=>by simp at hc

theorem flatten_get {sz:Nat}:∀{css:List (List Value)} (_:∀c ∈ css,c.length=sz) (j:Nat) (u:Value),css.flatten[j]? =some u→∃i c,css[i]? =some c∧c[j - i*sz]? =some u∧i*sz≤j
 |[],_,j,u,h=>by simp at h
 |c0::css,hl,j,u,h=>by
  have h0:=hl c0 (by simp)
  rw [List.flatten_cons,List.getElem?_append] at h
  split at h
  ·exact ⟨0,c0,by simp,by simpa using h,by simp⟩
  ·obtain ⟨i,c,h1,h2,h3⟩:=flatten_get (fun c hc=>hl c (by simp [hc])) (j - c0.length) u h
   refine ⟨i+1,c,by simpa using h1, ?_,by rw [Nat.succ_mul];omega⟩
   rw [← h2];congr 1;rw [Nat.succ_mul];omega

/-- A slice that came in: its elements' cells, each reading as a datum. -/
theorem In.slice {t e:TypeId} {sz:Nat} {cs:List Value} (hu:P.underlying t=some (.slice e)) (hsz:P.cellsOf e=sz) (h:In enc P w t cs):
  ∃v n xs,cs=[v]∧Sl w sz v n xs∧n*P.bytesOf e≤reachBytes∧∀i,i<n→In enc P w e ((xs.drop (i*sz)).take sz):=by
 obtain ⟨fuel,d,ps,h,hw⟩:=h
 cases fuel with
 |zero=>simp [DataW.trod] at h
 |succ fuel=>
  unfold DataW.trod at h
  rw [hu] at h
  split at h<;>try (simp_all;done)
  ·exact ⟨_,0,[],rfl,Sl.nil w sz,by simp,fun i hi=>by omega⟩
  ·rename_i e' a len cap heq
   simp only [Option.some.injEq,TypeDesc.slice.injEq] at heq
   subst heq
   simp only at h
   split at h
   ·rename_i hc
    obtain ⟨_,hlc,hcm⟩:=hc
    cases hel:(List.range len).mapM (fun i=>(w.cells? 0 (a.add (i*P.cellsOf e)) (P.cellsOf e)).bind (DataW.trod enc P w 0 (fun _=>true) true fuel e)) with
    |none=>simp [hel] at h
    |some elems=>
     rw [hel] at h
     simp only [Option.bind_some,Option.map_eq_some_iff] at h
     obtain ⟨rest,hrest,h⟩:=h
     simp only [Prod.mk.injEq] at h
     obtain ⟨h,_⟩:=h
     subst h
     rw [hsz] at hel
     have hlen:elems.length=len:=by simpa using mapM_len hel
     have hcells:∀i,i<len→∃c,w.cells? 0 (a.add (i*sz)) sz=some c∧∃b,DataW.trod enc P w 0 (fun _=>true) true fuel e c=some b∧elems[i]? =some b:=by
      intro i hi
      obtain ⟨b,hb,hr⟩:=mapM_get hel i i (by simp [hi])
      cases hcc:w.cells? 0 (a.add (i*sz)) sz with
      |none=>simp [hcc] at hb
      |some c=>rw [hcc] at hb;exact ⟨c,rfl,b,hb,hr⟩
     have hex:∃css:List (List Value),css.length=len∧∀i c,css[i]? =some c→w.cells? 0 (a.add (i*sz)) sz=some c:=by
      refine ⟨(List.range len).map (fun i=>(w.cells? 0 (a.add (i*sz)) sz).getD []),by simp,fun i c hc=> ?_⟩
      have hi:i<len:=by
       rcases Nat.lt_or_ge i len with h|h
       ·exact h
       ·rw [List.getElem?_eq_none (by simpa using h)] at hc;cases hc
      obtain ⟨c',hc',_⟩:=hcells i hi
      simp [hi,hc'] at hc
      rw [hc',hc]
     obtain ⟨css,hcl,hcs⟩:=hex
     have hcsz:∀c ∈ css,c.length=sz:=fun c hc=>by
      obtain ⟨i,hi⟩:=List.mem_iff_getElem?.1 hc
      exact (cells_get (hcs i c hi)).1
     have hfl:∀(l:List (List Value)),(∀c ∈ l,c.length=sz)→l.flatten.length=l.length*sz:=by
      intro l
      induction l with
      |nil=>intro _;simp
      |cons c l ih=>intro h;rw [List.flatten_cons,List.length_append,ih (fun c hc=>h c (by simp [hc])),h c (by simp),List.length_cons,Nat.succ_mul];omega
     refine ⟨_,len,css.flatten,rfl,⟨by rw [hfl css hcsz,hcl],some a,cap,rfl,hlc,hcm,(fun h=>by cases h),fun a' ha j u hju=> ?_⟩, ?_,fun i hi=> ?_⟩
     ·cases ha
      obtain ⟨i,c,h1,h2,h3⟩:=flatten_get hcsz j u hju
      have:=(cells_get (hcs i c h1)).2 _ _ h2
      rw [add_add'] at this
      rwa [show i*sz+(j - i*sz)=j by omega] at this
     ·have:=hw ((elems.length+rest.length)*P.bytesOf e) (by simp [DataW.weights,hu])
      rw [hlen] at this
      exact Nat.le_trans (Nat.mul_le_mul_right _ (Nat.le_add_right _ _)) this
     ·obtain ⟨c,hc,b,hb,hr⟩:=hcells i hi
      have hci:css[i]? =some c:=by
       have hlt:i<css.length:=by omega
       have h1:=hcs i css[i] (List.getElem?_eq_getElem hlt)
       rw [hc] at h1
       rw [List.getElem?_eq_getElem hlt]
       exact h1.symm
      rw [flatten_at hcsz i c hci]
      refine ⟨fuel,b.1,b.2,by simpa using hb,fun x hx=>hw x ?_⟩
      simp only [DataW.weights,hu,List.mem_cons,List.mem_append]
      right;left
      exact weightsAll_mem (i:=i) (d:=b.1) (by simp [hr]) x hx
   ·cases h

theorem In.struct {t:TypeId} {fs:Array Field} {cs:List Value} (hu:P.underlying t=some (.struct fs)) (h:In enc P w t cs):
  cs.length=P.cellsOf t∧∀(i:Nat) (f:Field),fs[i]? =some f→In enc P w f.type ((cs.drop f.offset).take (P.cellsOf f.type)):=by
 obtain ⟨fuel,d,ps,h,hw⟩:=h
 cases fuel with
 |zero=>simp [DataW.trod] at h
 |succ fuel=>
  unfold DataW.trod at h
  rw [hu] at h
  split at h<;>try (simp_all;done)
  rename_i fs' cs' heq
  simp only [Option.some.injEq,TypeDesc.struct.injEq] at heq
  subst heq
  split at h
  ·rename_i hl
   simp only [Option.map_eq_some_iff] at h
   obtain ⟨xs,hxs,h⟩:=h
   simp only [Prod.mk.injEq] at h
   obtain ⟨h,_⟩:=h
   subst h
   refine ⟨hl,fun i f hf=> ?_⟩
   obtain ⟨b,hb,hr⟩:=mapM_get hxs i f (by simpa using hf)
   refine ⟨fuel,b.1,b.2,by simpa using hb,fun x hx=>hw x ?_⟩
   simp only [DataW.weights,hu]
   exact DataW.weights_mem_each (j:=i) (t:=f.type) (d:=b.1) (by simp [hf]) (by simp [hr]) x hx
  ·cases h

/-! ### The kinds of element that occur -/
theorem wf_u8 {m:Int} (h:(Lit.int .u8 m).wf=true):Value.int .u8 m=b8 (BitVec.ofInt 8 m):=by
 simp [Lit.wf,IntKind.min,IntKind.max,IntKind.signed,IntKind.bits] at h
 have:((BitVec.ofInt 8 m).toNat:Int)=m:=by rw [BitVec.toNat_ofInt];omega
 unfold b8;rw [this]
theorem wf_i32 {m:Int} (h:(Lit.int .i32 m).wf=true):Value.int .i32 m=i32 (BitVec.ofInt 32 m):=by
 simp [Lit.wf,IntKind.min,IntKind.max,IntKind.signed,IntKind.bits] at h
 have:(BitVec.ofInt 32 m).toInt=m:=by rw [BitVec.toInt_ofInt,Int.bmod_def];omega
 unfold i32;rw [this]
theorem wf_i64 {m:Int} (h:(Lit.int .i64 m).wf=true): -9223372036854775808≤m∧m≤9223372036854775807:=by
 simp [Lit.wf,IntKind.min,IntKind.max,IntKind.signed,IntKind.bits] at h
 omega

theorem In.num {α:Type} {e:TypeId} {k:IntKind} (f:Int→α) (g:α→Value) (hf:∀m,(Lit.int k m).wf=true→Value.int k m=g (f m)) (hu:P.underlying e=some (.int k)) {cs:List Value} (h:In enc P w e cs):∃a,cs=[g a]:=by
 obtain ⟨m,rfl,hm⟩:=h.int hu
 exact ⟨f m,by rw [hf m hm]⟩

/-- A slice of elements of one cell, each of some kind. -/
theorem In.slT {α:Type} {t e:TypeId} {g:α→Value} {cs:List Value} (hu:P.underlying t=some (.slice e)) (hsz:P.cellsOf e=1) (hg:∀cs,In enc P w e cs→∃a,cs=[g a]) (h:In enc P w t cs):
  ∃v l,cs=[v]∧SlT g w v l∧l.length*P.bytesOf e≤reachBytes:=by
 obtain ⟨v,n,xs,rfl,hs,hb,hin⟩:=h.slice hu hsz
 have hall:∀i,i<n→∃a,xs[i]? =some (g a):=by
  intro i hi
  obtain ⟨a,ha⟩:=hg _ (hin i hi)
  refine ⟨a, ?_⟩
  have:=congrArg (fun l=>l[0]?) ha
  simpa [List.getElem?_take,List.getElem?_drop] using this
 have hlen:xs.length=n:=by have:=hs.len;omega
 have hex:∀(ys:List Value),(∀i,i<ys.length→∃a,ys[i]? =some (g a))→∃l:List α,ys=l.map g:=by
  intro ys
  induction ys with
  |nil=>intro _;exact ⟨[],rfl⟩
  |cons y ys ih=>
   intro h
   obtain ⟨a,ha⟩:=h 0 (by simp)
   obtain ⟨l,rfl⟩:=ih (fun i hi=>by simpa using h (i+1) (by simpa using hi))
   simp only [List.getElem?_cons_zero,Option.some.injEq] at ha
   exact ⟨a::l,by simp [ha]⟩
 obtain ⟨l,rfl⟩:=hex xs (by rw [hlen];exact hall)
 have hln:l.length=n:=by simpa using hlen
 subst hln
 exact ⟨v,l,rfl,hs,hb⟩

/-- The arguments' openers speak of In. -/
theorem in_of {ts:List TypeId} {ds:List (DataW H)} {j:Nat} {t:TypeId} {v:Value} {d:DataW H} {ps:List MemPlace} (hz:(DataW.weightsEach P ts ds).all (·≤reachBytes)=true) (ht:ts[j]? =some t) (hd:ds[j]? =some d)
  (h:DataW.Trod enc P w 0 (fun _=>true) true t v d ps):In enc P w t v.cells.toList:=by
 obtain ⟨fuel,h⟩:=h
 exact ⟨fuel,d,ps,h,fun x hx=>by simpa using List.all_eq_true.1 hz x (DataW.weights_mem_each ht hd x hx)⟩
open Go.WideShapes in
theorem arg_struct {base:Nat} {t:TypeId} {fs:Array Field} {v:Value} (hu:P.underlying t=some (.struct fs)) (ho:Value.okWide P w .any base t v) (h:In enc P w t v.cells.toList):∃cs:List Value,v= .agg cs.toArray∧In enc P w t cs:=by
 obtain ⟨cs,rfl,_⟩:=okWide_struct hu ho
 exact ⟨cs.toList,by simp,by simpa [Value.cells] using h⟩
/-- A law's walk, as the row wants it. -/
theorem law_calls {f:FuncId} {args:Array Value} (h:Fnc P f args.toList w (fun r w' =>r= .bool true∧Below w.heap.size w w')):
  Calls P f args w fun e w' =>e= .returned (.bool true)∧Below w.heap.size w w' :=by
 have:=h.2
 rw [Array.toArray_toList] at this
 exact this.mono fun e w' ⟨v,he,hv,hb⟩=>⟨by rw [he,hv],hb⟩
end
end Go.Dd

/-! The step layer, part 6: struct values, elements of several cells, nil slices, clips. Nothing here names a program. -/
namespace Go.Dd
open Go Go.RowKit

section
variable {P : Program} {n : Nat} {E : Env} {w : World} {ty t e : TypeId} {x y z : Operand} {v u : Value} {sz : Nat}

/-- The parts of a struct's value. -/
def pev (E:Env):List (Nat×Operand)→Option (List (Nat×Value))
 |[]=>some []
 |(i,x)::l=>match ev E x,pev E l with
  |some v,some vs=>some ((i,v)::vs)
  |_,_=>none
theorem Fits.pev {a:Act} (h:Fits n E a):∀{l:List (Nat×Operand)} {vs:List (Nat×Value)},pev E l=some vs→l.map (fun p=>(p.1,a.eval p.2))=vs
 |[],vs,hp=>by simp only [Dd.pev,Option.some.injEq] at hp;subst hp;rfl
 |(i,x)::l,vs,hp=>by
  simp only [Dd.pev] at hp
  split at hp
  ·rename_i v vs' h1 h2
   simp only [Option.some.injEq] at hp
   subst hp
   rw [List.map_cons,h.pev h2,h.ev h1]
  ·cases hp
theorem Bn {ps:List (Nat×Operand)} {vs:List (Nat×Value)} {cs:List Value} (hp:pev E ps=some vs) (h:P.built t vs=some cs.toArray):Ex P n E (.build t ps.toArray) ty w (.agg cs.toArray):=fun a ha _ _ _ _=>by
 have hmap:ps.toArray.map (fun (i,x)=>(i,a.eval x))=vs.toArray:=by rw [List.map_toArray,← ha.pev hp]
 have hr:=run_build (P:=P) w t vs.toArray cs.toArray (by simpa using h)
 simp only [execOp,hmap,Sem.run_bind,hr,Result.andThen_ok]
 rfl

/-- A literal of elements of several cells. -/
theorem Xw.litA {ps:List (Nat×Operand)} {vs:List (Nat×Value)} {cs zs:List Value} {bytes k:Nat} (hu:STy P t e sz) (hi:ITy P e zs bytes) (hp:pev E ps=some vs) (hsz:0<sz) (hk:0<k) (hsm:k*sz≤16777216)
  (hf:Instr.fill (fun i=>some (i*sz,sz)) ((Array.range (k*sz)).map (zs.toArray[· % zs.toArray.size]!)) vs=some cs.toArray) (hcs:cs.length=k*sz):
  Xw P n E (.buildSlice t k ps.toArray) ty w (fun v w' =>w'.ownsRow w.heap.size e sz v k cs∧v= .slice (some ⟨w.heap.size,0,none⟩) k k∧Below w.heap.size w w' ∧w'.heap.size=w.heap.size+1):=fun a ha=>by
 obtain ⟨i,h1,h2,h3,zv,h4,h5⟩:=hi.i
 have hmap:ps.toArray.map (fun (i,x)=>(i,a.eval x))=vs.toArray:=by rw [List.map_toArray,← ha.pev hp]
 have hsm' :¬(k*sz>2 ^ 24):=by omega
 have hkle:k*1≤k*sz:=Nat.mul_le_mul_left k hsz
 have hz:(zeroValue e).run P w= .ok zv w:=by simp [zeroValue,typeInfo,h1,h4]
 have hne:¬(k*sz=0):=by omega
 refine ⟨.slice (some ⟨w.heap.size,0,none⟩) k k,w.alloc (.cells cs.toArray e),fun _ _ _ _=> ?_,⟨hcs, .inr ⟨w.heap.size,k,cs.toArray,rfl,Nat.le_refl _,heap_alloc_new w _,Nat.le_refl _,by unfold maxLen;omega,by simpa using hcs, ?_⟩⟩,rfl,below_new w _,by simp⟩
 ·simp only [execOp,Instr.buildSlice,Sem.run_bind,run_underlying hu.u,Result.andThen_ok,hu.s w,Sem.run_ite,if_neg hsm',Sem.run_pure,hmap,if_neg hne,hz,h5,hf]
  simp [newRow]
 ·rw [List.take_of_length_le (by simp [hcs])]

/-- Is a slice nil? -/
theorem run_equalIn_slice (d:Nat) (ao:Option Addr) (c cap:Nat) (ht:P.underlying t=some (.slice e)):(Op.equalIn (d+1) t (.slice ao c cap) (.slice none 0 0)).run P w= .ok ao.isNone w:=by
 cases ao<;>simp [Op.equalIn,run_underlying ht]
theorem Ex.nilS {t1 t2:TypeId} {ao:Option Addr} {c cap:Nat} (ht:P.underlying t1=some (.slice e)) (hx:ev E x=some (.slice ao c cap)) (hy:ev E y=some (.slice none 0 0)):Ex P n E (.binOp .eql t1 x y t2) ty w (.bool ao.isNone):=fun a ha _ _ _ _=>by
 have hg:eqGuard .eql t1 x y (.slice ao c cap) (.slice none 0 0)=pure ():=rfl
 have hb:binOp .eql t1 (.slice ao c cap) (.slice none 0 0)=(do pure (.bool (← Op.equal t1 (.slice ao c cap) (.slice none 0 0)))):=rfl
 have hr:=run_equalIn_slice (P:=P) (w:=w) 9999 ao c cap ht
 simp [execOp,ha.ev hx,ha.ev hy,hg,hb,Op.equal,Op.maxDepth,hr]

/-- The slice value that 'x[:len(x):len(x)]' makes. -/
def clip (v:Value):Value:=match v with
 | .slice ao k _=> .slice ao k k
 |_=>undef
theorem clip_block (v:Value) (h:∃ao k c,v= .slice ao k c):(clip v).ownBlock=v.ownBlock:=by
 obtain ⟨ao,k,c,rfl⟩:=h
 cases ao<;>rfl
theorem Ex.clip {c:Nat} {y2:Operand} {k1 k2:IntKind} (hu:STy P t e sz) (hx:ev E x=some v) (hy:ev E y=some (.int k1 (c:Int))) (hz:ev E y2=some (.int k2 (c:Int))) (h:Shp v c):Ex P n E (.slice t x none (some y) (some y2)) ty w (clip v):=fun a ha _ _ _ _=>by
 obtain ⟨ao,cap,rfl,h1,h2,h3⟩:=h
 have hue:P.underlying t=some (.slice (P.elem t)):=by rw [Program.elem,hu.u]
 have he:P.elem t=e:=by rw [Program.elem,hu.u]
 have hr:=run_slice_hm (P:=P) w t ao c cap hue k1 k2 (c:Int) (c:Int) (by omega) (by omega) (by omega)
 simp only [Int.toNat_natCast,he,hu.s w,Result.andThen_ok] at hr
 have e0:(if c=0 then ao else ao.map (·.add (0*sz)))=ao:=by
  split
  ·rfl
  ·cases ao<;>simp [Addr.add]
 simp [execOp,ha.ev hx,ha.ev hy,ha.ev hz,Instr.sliceAt,run_underlying hu.u,hr,sliced,Dd.clip]
 cases ao<;>simp [Addr.add]

theorem Cc {c k o:Nat} {xs cs:List Value} (hag:(isAgg e).run P w= .ok true w) (hs:(sizeOf e).run P w= .ok k w) (hx:ev E x=some (elemPtr v o)) (h:Sl w sz v c xs) (hk:cs.length=k) (hk0:0<k) (hcs:∀i,i<k→∃q,cs[i]? =some q∧xs[o+i]? =some q):Ex P n E (.load e x) ty w (.agg cs.toArray):=fun a ha _ _ _ _=>by
  subst hk
  obtain ⟨_,ao,cap,rfl,h1,h2,h3,h4⟩:=h
  cases ao with
  |none=>
    have:=h3 rfl
    obtain ⟨q,_,h6⟩:=hcs 0 hk0
    have hlt:=(List.getElem?_eq_some_iff.1 h6).1
    have : xs.length = 0 := by subst this; obtain rfl : c = 0 := by omega
                               simp_all
    omega
  |some ad=>
    have hl:=run_loadCells_list (P:=P) w (ad.add o) cs (fun j u hu=>by
      have hj:j<cs.length:=(List.getElem?_eq_some_iff.1 hu).1
      obtain ⟨q,h5,h6⟩:=hcs j hj
      rw [h5] at hu
      cases hu
      rw [add_add']
      exact h4 ad rfl _ _ h6)
    simp [execOp,ha.ev hx,elemPtr,Instr.loadAt,Instr.sureAddr,loadVar,hag,hs,hl]

theorem Ch {o f q:Nat} {fs:Array Field} {fd:Field} (hu:P.underlying t=some (.struct fs)) (hf:fs[f]? =some fd) (hq:(sizeOf fd.type).run P w= .ok (q+1) w) (hx:ev E x=some (elemPtr v o)) (hv:∃ad c k,v= .slice (some ad) c k):
  Ex P n E (.fieldAddr t x f) ty w (elemPtr v (o+fd.offset)):=fun a ha _ _ _ _=>by
 obtain ⟨ad,c,k,rfl⟩:=hv
 simp [execOp,ha.ev hx,elemPtr,Instr.fieldAt,Instr.sureAddr,fieldPlace,run_underlying hu,hf,hq,add_add']

theorem results_cellT {fn:Func} {p q:Tmp} {t0:TypeId} (h:fn.results= #[.cell p t0, .tmp q]) (tmps:Array Value) (w:World) (g:Nat) (t1:TypeId) (cs:Array Value) (fr:Nat×Nat) (d:TypeDesc)
  (hp:tmps.getD p undef= .pointer (some ⟨g,0,none⟩)) (hg:w.heap[g]? =some (.cells cs t1 fr))
  (hu:P.underlying t0=some d) (hd:(match d with| .struct _| .array _ _=>true|_=>false)=true) (hi:(P.info? t0).map (·.size)=some cs.size):
  (results fn tmps).run P w= .ok (.tuple #[.agg cs,tmps.getD q undef]) w:=by
 have hp' :tmps[p]?.getD undef= .pointer (some ⟨g,0,none⟩):=by simpa using hp
 simp [results,h,hp',asAddr,run_loadVar_row w g t1 t0 cs fr d hg hu hd hi]
theorem Bf {fn:Func} {R:Value→World→Prop} {p q b k:Nat} {T:TypeId} {cs:List Value} {d:TypeDesc} (hr:fn.results= #[.cell p e, .tmp q]) (hp:get E p=some (.pointer (some ⟨b,0,none⟩))) (hq:get E q=some u) (hb:Blk w b T cs)
  (hu:P.underlying e=some d) (hd:(match d with| .struct _| .array _ _=>true|_=>false)=true) (hi:(P.info? e).map (·.size)=some k) (hk:cs.length=k) (h:R (.tuple #[.agg cs.toArray,u]) w):Pw n E (Ret P fn R .ret) w:=fun a ha=>by
 subst hk
 have:=results_cellT hr a.tmps w b T cs.toArray (0,0) d (by simp [Array.getD_eq_getD_getElem?,ha.has _ _ hp]) hb hu hd (by simpa using hi)
 rw [show a.tmps.getD q undef=u by simp [Array.getD_eq_getD_getElem?,ha.has _ _ hq]] at this
 exact bodyPost_ret this ha.dfr ⟨_,rfl,h⟩

/-! ### Code that comes to its end, with a frame that is told -/
end
end Go.Dd

/-! The step layer, part 7: a new block and what is put into it, in one step; things of one's own that are written. Nothing here names a program. -/
namespace Go.Dd
open Go Go.RowKit

section
variable {P : Program} {Q : Post} {n : Nat} {E : Env} {w : World} {l0 rest : List Oper} {ty ty2 e : TypeId} {pos pos2 : String} {af af2 : Array Edge} {x y : Operand} {v u : Value}

/-- 'new', and a struct's or an array's value put there. -/
theorem Cb {d k bytes:Nat} {cs zs:List Value} (hi:ITy P e zs bytes) (hs:(P.info? e).map (·.size)=some k) (hk:cs.length=k) (hz:zs.length=k) (hd:Nat.blt d n=true) (hy:∀v,ev ((d,v)::E) y=some (.agg cs.toArray)) (hone:cs.all (·.oneCell')=true)
  (h:∀A w',A=w.heap.size→Blk w' A e cs→Below w.heap.size w w' →w'.heap.size=w.heap.size+1→Lw P l0 Q n rest ((d, .pointer (some ⟨A,0,none⟩))::E) w'):
  Lw P l0 Q n (⟨some d, .alloc e,ty,pos,af,none⟩::⟨none, .store e (.tmp d) y,ty2,pos2,af2,none⟩::rest) E w:=by
 refine Bl (Xw.new hi) hd fun v w1 ⟨hv,hb,hn,hs1⟩=> ?_
 subst hv
 refine Ay (Bp (cs:=cs) hs hk (get_cons_self _ _ _) (hy _) hone hb hz) fun w2 ⟨b2,hg,hs2⟩=> ?_
 exact h _ w2 rfl b2 (hn.grown hg (below_size hn) (by rintro _ ⟨⟩;exact Nat.le_refl _)) (by omega)
/-- The same for a value of one cell. -/
theorem Lw.boxed1 {d bytes:Nat} {z:Value} (hi:ITy P e [z] bytes) (hs:∀w,(sizeOf e).run P w= .ok 1 w) (hd:Nat.blt d n=true) (hy:∀v,ev ((d,v)::E) y=some u) (hone:u.oneCell' =true)
  (h:∀A w',A=w.heap.size→Blk w' A e [u]→Below w.heap.size w w' →w'.heap.size=w.heap.size+1→Lw P l0 Q n rest ((d, .pointer (some ⟨A,0,none⟩))::E) w'):
  Lw P l0 Q n (⟨some d, .alloc e,ty,pos,af,none⟩::⟨none, .store e (.tmp d) y,ty2,pos2,af2,none⟩::rest) E w:=by
 refine Bl (Xw.new hi) hd fun v w1 ⟨hv,hb,hn,hs1⟩=> ?_
 subst hv
 refine Ay (Co (u:=u) (hs _) (get_cons_self _ _ _) (hy _) hone hb (by simp)) fun w2 ⟨b2,hg,hs2⟩=> ?_
 exact h _ w2 rfl b2 (hn.grown hg (below_size hn) (by rintro _ ⟨⟩;exact Nat.le_refl _)) (by omega)
/-- 'new' alone. -/
theorem B8 {d bytes:Nat} {zs:List Value} (hi:ITy P e zs bytes) (hd:Nat.blt d n=true)
  (h:∀A w',A=w.heap.size→Blk w' A e zs→Below w.heap.size w w' →w'.heap.size=w.heap.size+1→Lw P l0 Q n rest ((d, .pointer (some ⟨A,0,none⟩))::E) w'):
  Lw P l0 Q n (⟨some d, .alloc e,ty,pos,af,none⟩::rest) E w:=by
 refine Bl (Xw.new hi) hd fun v w1 ⟨hv,hb,hn,hs1⟩=> ?_
 subst hv
 exact h _ w1 rfl hb hn hs1
/-- A parameter in a block of its own. -/
theorem Bv {d:Nat} {cs:List Value} (hx:ev E x=some v) (hc:v.cells=cs.toArray) (hd:Nat.blt d n=true)
  (h:∀A w',A=w.heap.size→Blk w' A e cs→Below w.heap.size w w' →w'.heap.size=w.heap.size+1→Lw P l0 Q n rest ((d, .pointer (some ⟨A,0,none⟩))::E) w'):
  Lw P l0 Q n (⟨some d, .box e x,ty,pos,af,none⟩::rest) E w:=by
 refine Bl (Xw.box hx hc) hd fun v w1 ⟨hv,hb,hn,hs1⟩=> ?_
 subst hv
 exact h _ w1 rfl hb hn hs1
end

theorem own_slT {α:Type} {w:World} {B:Nat} {e:TypeId} {k:Nat} {v:Value} {enc:α→Value} {l:List α} (h:w.ownsRow B e 1 v k (l.map enc)):SlT enc w v l:=by
 have:k=l.length:=by have:=h.1;simpa using this.symm
 subst this
 exact own_sl h
theorem own_mono {w:World} {B B' :Nat} {e:TypeId} {sz k:Nat} {v:Value} {xs:List Value} (h:w.ownsRow B e sz v k xs) (hb:B' ≤B):w.ownsRow B' e sz v k xs:=
 ⟨h.1,by
  rcases h.2 with h|⟨g,cap,cur,h0,h1,h2⟩
  ·exact .inl h
  ·exact .inr ⟨g,cap,cur,h0,Nat.le_trans hb h1,h2⟩⟩
theorem grown_more {a b c:World} {r q:Option Nat} (h:a.grownBy b r) (k:b.grownBy c q) (hq:∀n,q=some n→a.heap.size≤n):a.grownBy c r:=
 ⟨k.os.trans h.os,k.tape.trans h.tape,k.output.trans h.output,Nat.le_trans h.size k.size,fun i hi hr=>(k.block i (Nat.lt_of_lt_of_le hi h.size) (fun e=>by have:=hq i e.symm;omega)).trans (h.block i hi hr)⟩
/-- A slice stays where only other blocks were written; of an empty one nothing is asked. -/
theorem Sl.stay {w w' :World} {sz:Nat} {v:Value} {n:Nat} {xs:List Value} (h:Sl w sz v n xs) (k:∀b,v.ownBlock=some b→xs≠[]→w'.heap[b]? =w.heap[b]?):Sl w' sz v n xs:=by
 obtain ⟨h1,ao,cap,rfl,h2,h3,h4,h5⟩:=h
 refine ⟨h1,ao,cap,rfl,h2,h3,h4,h5.keep fun a ha hne=> ?_⟩
 subst ha
 exact k _ rfl hne
theorem Sl.blk {w:World} {sz:Nat} {v:Value} {n:Nat} {xs:List Value} (h:Sl w sz v n xs) (hne:xs≠[]):∀b,v.ownBlock=some b→b<w.heap.size:=by
 obtain ⟨h1,ao,cap,rfl,h2,h3,h4,h5⟩:=h
 intro b hb
 cases ao with
 |none=>cases hb
 |some a=>
  have:=Cells.lt h5 hne
  simp only [Value.ownBlock,Option.some.injEq] at hb
  omega

theorem own_heap {w w' :World} {base:Nat} {e:TypeId} {sz:Nat} {v:Value} {n:Nat} {xs:List Value} (h:w.ownsRow base e sz v n xs) (k:∀b,v.ownBlock=some b→w'.heap[b]? =w.heap[b]?):w'.ownsRow base e sz v n xs:=by
 obtain ⟨h1,h2⟩:=h
 rcases h2 with h2|⟨b,cap,cur,rfl,hb,hg,h3⟩
 ·exact ⟨h1, .inl h2⟩
 ·exact ⟨h1, .inr ⟨b,cap,cur,rfl,hb,(k b rfl).trans hg,h3⟩⟩
/-- A list of one's own, or one whose room was cut off. -/
def KRow (w:World) (base:Nat) (e:TypeId) (sz:Nat) (v:Value) (n:Nat) (xs:List Value):Prop:=
 w.ownsRow base e sz v n xs∨∃g cur,v= .slice (some ⟨g,0,none⟩) n n∧base≤g∧Blk w g e cur∧n*sz≤cur.length∧n≤maxLen∧xs=cur.take (n*sz)
namespace KRow
variable {w w' : World} {base : Nat} {e : TypeId} {sz : Nat} {v : Value} {n : Nat} {xs : List Value}
theorem len (h:KRow w base e sz v n xs):xs.length=n*sz:=by
 rcases h with h|⟨g,cur,_,_,_,h1,_,rfl⟩
 ·exact h.1
 ·rw [List.length_take];omega
theorem sl (h:KRow w base e sz v n xs):Sl w sz v n xs:=by
 have hl:=h.len
 rcases h with h|⟨g,cur,rfl,_,hb,h1,h2,rfl⟩
 ·exact own_sl h
 ·refine ⟨hl,some ⟨g,0,none⟩,n,rfl,Nat.le_refl _,h2,(fun h=>by cases h),fun a ha j u hu=> ?_⟩
  cases ha
  rw [add_lit,Nat.zero_add,hb.cell]
  rw [List.getElem?_take] at hu
  split at hu
  ·exact hu
  ·cases hu
theorem lt (h:KRow w base e sz v n xs):∀b,v.ownBlock=some b→base≤b∧b<w.heap.size:=by
 rcases h with h|⟨g,cur,rfl,h0,hb,_⟩
 ·exact own_block h
 ·intro b e;cases e;exact ⟨h0,blk_lt hb⟩
theorem heap (h:KRow w base e sz v n xs) (k:∀b,v.ownBlock=some b→w'.heap[b]? =w.heap[b]?):KRow w' base e sz v n xs:=by
 rcases h with h|⟨g,cur,rfl,h0,hb,h1⟩
 ·exact .inl (own_heap h k)
 ·exact .inr ⟨g,cur,rfl,h0,hb.keep (k g rfl),h1⟩
theorem bs (h:KRow w base e sz v n xs) (hb:Below w.heap.size w w'):KRow w' base e sz v n xs:=h.heap fun b e=>hb.block b (h.lt b e).2
theorem by' (h:KRow w base e sz v n xs) {r:Option Nat} (hg:w.grownBy w' r) (hne:v.ownBlock=none∨v.ownBlock≠r):KRow w' base e sz v n xs:=
  h.heap fun b e => hg.block b (h.lt b e).2 (by rcases hne with h | h; · rw [h] at e; cases e
                                                · rw [← e];exact h)
theorem mono (h:KRow w base e sz v n xs) {B:Nat} (hB:B≤base):KRow w B e sz v n xs:=by
 rcases h with ⟨h1,h2⟩|⟨g,cur,rfl,h0,h1⟩
 ·refine .inl ⟨h1, ?_⟩
  rcases h2 with h|⟨g,cap,cur,h0,h1,h2⟩
  ·exact .inl h
  ·exact .inr ⟨g,cap,cur,h0,Nat.le_trans hB h1,h2⟩
 ·exact .inr ⟨g,cur,rfl,Nat.le_trans hB h0,h1⟩
theorem clip (h:w.ownsRow base e sz v n xs):KRow w base e sz (Dd.clip v) n xs:=by
 obtain ⟨h1,h2⟩:=h
 rcases h2 with ⟨rfl,rfl⟩|⟨g,cap,cur,rfl,hb,hg,hnc,hcm,hcs,ht⟩
 ·exact .inl ⟨h1, .inl ⟨rfl,rfl⟩⟩
 ·refine .inr ⟨g,cur.toList,rfl,hb,hg, ?_,Nat.le_trans hnc hcm,ht.symm⟩
  rw [Array.length_toList,hcs]
  exact Nat.mul_le_mul_right _ hnc
theorem slT {α:Type} {enc:α→Value} {l:List α} (h:KRow w base e 1 v n (l.map enc)):SlT enc w v l:=by
 have:n=l.length:=by have:=h.len;simpa using this.symm
 subst this
 exact h.sl
end KRow
/-- A list of one's own, between two bounds. -/
structure Lst {α:Type} (enc:α→Value) (w:World) (E:TypeId) (lo hi:Nat) (v:Value) (l:List α):Prop where
 own:w.ownsRow lo E 1 v l.length (l.map enc)
 blk:∀b,v.ownBlock=some b→lo≤b∧b<hi
namespace Lst
variable {α : Type} {enc : α → Value} {w w' : World} {E : TypeId} {lo hi : Nat} {v : Value} {l : List α}
theorem sl (h:Lst enc w E lo hi v l):SlT enc w v l:=own_slT h.own
theorem bs (h:Lst enc w E lo hi v l) (hb:Below w.heap.size w w'):Lst enc w' E lo hi v l:=⟨own_bs h.own hb,h.blk⟩
theorem keep (h:Lst enc w E lo hi v l) {r:Option Nat} (hg:w.grownBy w' r) (hr:∀b,r=some b→b<lo∨hi≤b):Lst enc w' E lo hi v l:=
 ⟨h.own.kept hg (by
  cases hv:v.ownBlock with
  |none=>exact .inl rfl
  |some b=>exact .inr fun e=>by have:=hr b e.symm;have:=h.blk b hv;omega),h.blk⟩
theorem set (h:Lst enc w E lo hi v l) {i:Nat} {a:α} (ho:w'.ownsRow lo E 1 v l.length ((l.map enc).set i (enc a))):Lst enc w' E lo hi v (l.set i a):=
 ⟨by rw [List.length_set,List.map_set];exact ho,h.blk⟩
/-- What lies below stays below. -/
theorem below (h:Lst enc w E lo hi v l) {w0:World} (hB:Below lo w0 w) (hlo:lo≤w0.heap.size) (hg:w.grownBy w' v.ownBlock):Below lo w0 w' :=hB.grown hg (Nat.le_trans hlo hB.size) (fun b hb=>(h.blk b hb).1)
end Lst

/-- A tensor of one's own, boxed, between two bounds. -/
structure Mine (w:World) (T I E:TypeId) (lo hi A:Nat) (x y:Value) (s:List Int) (l:List (BitVec 32)):Prop where
 box:Blk w A T [x,y]
 row:KRow w lo I 1 x s.length (s.map (Value.int .i64))
 lst:Lst i32 w E lo hi y l
 bA:lo≤A∧A<hi
 bx:∀b,x.ownBlock=some b→lo≤b∧b<hi∧b≠A
 yA:y.ownBlock≠some A
 yx:∀b,y.ownBlock=some b→x.ownBlock≠some b
namespace Mine
variable {w w' : World} {T I E : TypeId} {lo hi A : Nat} {x y : Value} {s : List Int} {l : List (BitVec 32)}
theorem bs (h:Mine w T I E lo hi A x y s l) (hb:Below w.heap.size w w'):Mine w' T I E lo hi A x y s l:=⟨h.box.bs hb,h.row.bs hb,h.lst.bs hb,h.bA,h.bx,h.yA,h.yx⟩
theorem keep (h:Mine w T I E lo hi A x y s l) {r:Option Nat} (hg:w.grownBy w' r) (hr:∀b,r=some b→b<lo∨hi≤b):Mine w' T I E lo hi A x y s l:=
  ⟨h.box.by hg (fun e=>by have:=hr A e.symm;have:=h.bA;omega),
   h.row.heap fun b hb=>hg.block b (h.row.lt b hb).2 fun e=>by
    have:=hr b e.symm
    have:=h.bx b hb
    omega,
   h.lst.keep hg hr,h.bA,h.bx,h.yA,h.yx⟩
theorem set (h:Mine w T I E lo hi A x y s l) {i:Nat} {a:BitVec 32} (hg:w.grownBy w' y.ownBlock) (ho:w'.ownsRow lo E 1 y l.length ((l.map i32).set i (i32 a))):Mine w' T I E lo hi A x y s (l.set i a):=
  ⟨h.box.by hg (fun e=>h.yA e.symm),
   h.row.heap fun b hb=>hg.block b (h.row.lt b hb).2 fun e=>h.yx b e.symm hb,
   h.lst.set ho,h.bA,h.bx,h.yA,h.yx⟩
theorem sh (h:Mine w T I E lo hi A x y s l):SlT (Value.int .i64) w x s:=h.row.slT
theorem sly (h:Mine w T I E lo hi A x y s l):SlT i32 w y l:=h.lst.sl
theorem below (h:Mine w T I E lo hi A x y s l) {w0:World} (hB:Below lo w0 w) (hlo:lo≤w0.heap.size) (hg:w.grownBy w' y.ownBlock):Below lo w0 w' :=h.lst.below hB hlo hg
/-- A store into its numbers. -/
theorem st (h:Mine w T I E lo hi A x y s l) {P:Program} {n:Nat} {Ev:Env} {e ty:TypeId} {p q:Operand} {j:Nat} {a:BitVec 32} (hag:(sizeOf e).run P w= .ok 1 w) (hp:ev Ev p=some (elemPtr y j)) (hq:ev Ev q=some (i32 a)) (hj:j<l.length):
  Xu P n Ev (.store e p q) ty w (fun w' =>Mine w' T I E lo hi A x y s (l.set j a)∧w.grownBy w' y.ownBlock∧w'.heap.size=w.heap.size):=fun ac hac=>by
 obtain ⟨w',h1,h2,h3,h4⟩:=Cv (P:=P) (ty:=ty) hag hp hq rfl h.lst.own (by simpa using hj) ac hac
 exact ⟨w',h1,h.set h3 h2,h3,h4⟩
end Mine

/-! ### A list that is turned number by number -/
section
variable {α : Type} {f l : List α} {i : Nat}
theorem td_len (hf:f.length=l.length):(f.take i++l.drop i).length=l.length:=by simp;omega
theorem td_get [Inhabited α] (hf:f.length=l.length) (hi:i<l.length):(f.take i++l.drop i).getD i default=l.getD i default:=by
 have h1:(f.take i).length=i:=by simp;omega
 rw [List.getD_eq_getElem?_getD,List.getElem?_append_right (by omega),h1,Nat.sub_self,List.drop_eq_getElem_cons hi]
 simp [hi]
theorem td_set [Inhabited α] (hf:f.length=l.length) (hi:i<l.length):(f.take i++l.drop i).set i (f.getD i default)=f.take (i+1)++l.drop (i+1):=by
 have h1:(f.take i).length=i:=by simp;omega
 have h2:i<f.length:=by omega
 rw [List.set_append_right _ _ (by omega),h1,Nat.sub_self,List.drop_eq_getElem_cons hi,List.set_cons_zero,List.take_succ_eq_append_getElem h2,List.append_assoc]
 simp [h2]
theorem set_same [Inhabited α] {a:α} (hi:i<l.length) (h:l.getD i default=a):l.set i a=l:=by
 subst h
 apply List.ext_getElem (by simp)
 intro j h1 h2
 rw [List.getElem_set]
 split
 ·rename_i e;subst e;simp [hi]
 ·rfl
theorem td_zero:f.take 0++l.drop 0=l:=by simp
theorem td_all (hf:f.length=l.length):f.take l.length++l.drop l.length=f:=by rw [← hf,List.take_length,hf,List.drop_length,List.append_nil]
end

/-! ### A guard that was itself passed over -/
section
variable {P : Program} {Q : Post} {n : Nat} {E : Env} {w : World} {l0 rest : List Oper} {ty : TypeId} {pos : String} {af : Array Edge} {C : World → Prop} {K : Act → Prop}
theorem yielded_no {a:Act} (ha:Fits n E a) {j dj:Nat} (hj:(nth l0 j).bind (·.dst)=some dj) (hg:get E dj=some undef):yielded l0.toArray a.tmps j=none:=by
 unfold yielded
 rw [List.getElem?_toArray,nth_eq,hj]
 simp [ha.has _ _ hg,undef]
theorem Lw.passN {d:Nat} {op:Op} {j dj:Nat} {g:Bool} (hj:(nth l0 j).bind (·.dst)=some dj) (hg:get E dj=some undef) (hd:Nat.blt d n=true)
  (h:Lw P l0 Q n rest ((d,undef)::E) w):Lw P l0 Q n (⟨some d,op,ty,pos,af,some (j,g)⟩::rest) E w:=fun a ha=>by
 unfold wpList
 rw [if_neg]
 ·exact h _ (ha.put _ hd)
 ·simp [Region.wanted,yielded_no ha hj hg]
end
end Go.Dd

/-! Plain law: sums that wrap round; products of rows with columns. Nothing here names a program. -/
namespace Go.Dd

abbrev B32:=BitVec 32

/-- The sum of the first n. -/
def sm:Nat→(Nat→B32)→B32
 |0,_=>0#32
 |n+1,f=>sm n f+f n
theorem sm_congr {f g:Nat→B32}:∀{n:Nat},(∀i,i<n→f i=g i)→sm n f=sm n g
 |0,_=>rfl
 |n+1,h=>by rw [sm,sm,sm_congr fun i hi=>h i (by omega),h n (by omega)]
theorem sm_zero {f:Nat→B32}:∀{n:Nat},(∀i,i<n→f i=0#32)→sm n f=0#32
 |0,_=>rfl
 |n+1,h=>by rw [sm,sm_zero fun i hi=>h i (by omega),h n (by omega)];rfl
theorem sm_add (f g:Nat→B32):∀n:Nat,sm n (fun i=>f i+g i)=sm n f+sm n g
 |0=>rfl
 |n+1=>by
  rw [sm,sm,sm,sm_add f g n]
  rw [BitVec.add_assoc,BitVec.add_assoc,← BitVec.add_assoc (sm n g),BitVec.add_comm (sm n g) (f n),BitVec.add_assoc]
theorem sm_one {f:Nat→B32} {k:Nat}:∀{n:Nat},(∀i,i<n→i≠k→f i=0#32)→sm n f=if k<n then f k else 0#32
 |0,_=>rfl
 |n+1,h=>by
  rw [sm,sm_one (k:=k) fun i hi hne=>h i (by omega) hne]
  by_cases hk:k<n
  ·rw [if_pos hk,if_pos (by omega),h n (by omega) (by omega)];simp
  ·rw [if_neg hk]
   by_cases hn:k=n
   ·subst hn;rw [if_pos (by omega)];simp
   ·rw [if_neg (by omega),h n (by omega) (fun e=>hn e.symm)];rfl
theorem sm_app (f:Nat→B32) (m:Nat):∀n:Nat,sm (m+n) f=sm m f+sm n (fun i=>f (m+i))
 |0=>by simp [sm]
 |n+1=>by rw [← Nat.add_assoc,sm,sm,sm_app f m n,BitVec.add_assoc]

/-- Rows of k numbers with columns of as many. -/
def prd (m k n:Nat) (a b:List B32):List B32:=(List.range (m*n)).map fun i=>sm k fun p=>a.getD (i / n*k+p) default*b.getD (p*n+i % n) default
theorem prd_length (m k n:Nat) (a b:List B32):(prd m k n a b).length=m*n:=by simp [prd]
theorem prd_at {m k n i j:Nat} (a b:List B32) (hi:i<m) (hj:j<n):(prd m k n a b).getD (i*n+j) default=sm k fun p=>a.getD (i*k+p) default*b.getD (p*n+j) default:=by
 have h:i*n+j<m*n:=by
  have:=Nat.mul_le_mul_right n (show i+1≤m by omega)
  rw [Nat.succ_mul] at this
  omega
 have hn:0<n:=by omega
 have e1:(i*n+j) / n=i:=by rw [Nat.mul_comm,Nat.mul_add_div hn,Nat.div_eq_of_lt hj];omega
 have e2:(i*n+j) % n=j:=by rw [Nat.mul_comm,Nat.mul_add_mod,Nat.mod_eq_of_lt hj]
 simp only [prd,List.getD_eq_getElem?_getD,List.getElem?_map,List.getElem?_range h,Option.map_some,Option.getD_some,e1,e2]
theorem at_rc {m n i:Nat} (h:i<m*n):i / n<m∧i % n<n∧i / n*n+i % n=i:=by
 have hn:0<n:=by
  rcases Nat.eq_zero_or_pos n with h0|h0
  ·subst h0;simp at h
  ·exact h0
 exact ⟨(Nat.div_lt_iff_lt_mul hn).2 h,Nat.mod_lt _ hn,by have:=Nat.div_add_mod i n;rw [Nat.mul_comm] at this;exact this⟩
/-- Sums of tensors, number by number. -/
def ad (n:Nat) (a b:List B32):List B32:=(List.range n).map fun i=>a.getD i default+b.getD i default
theorem rc_lt {m n i j:Nat} (hi:i<m) (hj:j<n):i*n+j<m*n:=by
 have:=Nat.mul_le_mul_right n (show i+1≤m by omega)
 rw [Nat.succ_mul] at this
 omega
end Go.Dd

/-! Plain law on shapes: nothing here names a program. -/
namespace Go.Dd.Shapes

def prod:List Int→Int
 |[]=>1
 |x::s=>x*prod s
/-- The product, as long as each is a direction and it is not too great. -/
def tim (n:Int):List Int→Int
 |[]=>n
 |x::l=>if x<1∨64<x then 0 else if 4096<n*x then 0 else tim (n*x) l
def size (s:List Int):Int:=if s.length<1∨4<s.length then 0 else tim 1 s
def good (s:List Int):Prop:=∀x ∈ s,1≤x∧x≤64
def ok (s:List Int):Bool:=decide (0<size s)
def inn:List Int→List Int→Bool
 |[],[]=>true
 |x::s,a::t=>decide (0≤a) && decide (a<x) && inn s t
 |_,_=>false
def idx:List Int→List Int→Int
 |_::s,a::t=>a*prod s+idx s t
 |_,_=>0
def place:List Int→Int→List Int
 |[],_=>[]
 |x::s,i=>(i / prod s % x)::place s i
/-- What Index tells. -/
def index (s t:List Int):Int×Int:=if ok s && inn s t then (idx s t,0) else (0,1)

/-- What At tells. -/
def atl (s:List Int) (i:Int):List Int:=if 0≤i∧i<size s then place s i else []
def ate (s:List Int) (i:Int):Int:=if 0≤i∧i<size s then 0 else 1

theorem good_cons {x:Int} {s:List Int}:good (x::s)↔(1≤x∧x≤64)∧good s:=by simp [good]
theorem good_append {s t:List Int}:good (s++t)↔good s∧good t:=by
 simp only [good,List.mem_append]
 exact ⟨fun h=>⟨fun x hx=>h x (.inl hx),fun x hx=>h x (.inr hx)⟩,fun h x hx=>hx.elim (h.1 x) (h.2 x)⟩
theorem good_drop {s:List Int} (h:good s) (k:Nat):good (s.drop k):=fun x hx=>h x (List.mem_of_mem_drop hx)
theorem prod_append (s t:List Int):prod (s++t)=prod s*prod t:=by
 induction s with
 |nil=>simp [prod]
 |cons x s ih=>simp [prod,ih,Int.mul_assoc]
theorem prod_pos:∀{s:List Int},good s→1≤prod s
 |[],_=>by simp [prod]
 |x::s,h=>by
  have h1:=(good_cons.1 h).1
  have h2:=prod_pos (good_cons.1 h).2
  have:=Int.mul_le_mul h1.1 h2 (by omega) (by omega)
  simpa [prod] using this
theorem tim_eq:∀(s:List Int) (n:Int),1≤n→n≤4096→(good s∧n*prod s≤4096∧tim n s=n*prod s)∨(¬(good s∧n*prod s≤4096)∧tim n s=0)
 |[],n,h1,h2=> .inl ⟨by simp [good],by simpa [prod] using h2,by simp [tim,prod]⟩
 |x::s,n,h1,h2=>by
  by_cases hx:x<1∨64<x
  ·exact .inr ⟨fun h=>by have:=(good_cons.1 h.1).1;omega,by simp [tim,hx]⟩
  ·have hx1:1≤x:=by omega
   have hnx:1≤n*x:=by have:=Int.mul_le_mul h1 hx1 (by omega) (by omega);simpa using this
   by_cases h4:4096<n*x
   ·refine .inr ⟨fun h=> ?_,by simp [tim,hx,h4]⟩
    have h5:=prod_pos (good_cons.1 h.1).2
    have h6:=Int.mul_le_mul (Int.le_refl (n*x)) h5 (by omega) (by omega)
    have h7:=h.2
    simp only [prod,← Int.mul_assoc] at h7
    omega
   ·have ht:tim n (x::s)=tim (n*x) s:=by simp [tim,hx,h4]
    have e:n*prod (x::s)=n*x*prod s:=by simp [prod,Int.mul_assoc]
    rw [ht,e]
    rcases tim_eq s (n*x) hnx (by omega) with ⟨g,l,t⟩|⟨g,t⟩
    ·exact .inl ⟨good_cons.2 ⟨by omega,g⟩,l,t⟩
    ·exact .inr ⟨fun h=>g ⟨(good_cons.1 h.1).2,h.2⟩,t⟩
theorem tim_pos (s:List Int):0≤tim 1 s∧tim 1 s≤4096:=by
 rcases tim_eq s 1 (by omega) (by omega) with ⟨g,l,t⟩|⟨g,t⟩
 ·have:=prod_pos g;omega
 ·omega
theorem size_le (s:List Int):0≤size s∧size s≤4096:=by
 unfold size
 split
 ·omega
 ·exact tim_pos s
theorem ok_iff (s:List Int):ok s=true↔(1≤s.length∧s.length≤4)∧good s∧prod s≤4096:=by
 unfold ok size
 rw [decide_eq_true_iff]
 split
 ·omega
 ·rcases tim_eq s 1 (by omega) (by omega) with ⟨g,l,t⟩|⟨g,t⟩
  ·have:=prod_pos g
   simp only [Int.one_mul] at l t
   rw [t];exact ⟨fun _=>⟨by omega,g,l⟩,fun _=>by omega⟩
  ·simp only [Int.one_mul] at g
   rw [t];exact ⟨fun h=>by omega,fun h=>absurd h.2 g⟩
theorem size_ok {s:List Int} (h:ok s=true):size s=prod s:=by
 have h1:=(ok_iff s).1 h
 unfold size
 rw [if_neg (by omega)]
 rcases tim_eq s 1 (by omega) (by omega) with ⟨g,l,t⟩|⟨g,t⟩
 ·simpa using t
 ·exact absurd ⟨h1.2.1,by simpa using h1.2.2⟩ g
theorem size_no {s:List Int} (h:ok s=false):size s=0:=by
 have:=size_le s
 unfold ok at h
 have:=of_decide_eq_false h
 omega
theorem ok_prod {s:List Int} (h:ok s=true) (k:Nat):1≤prod (s.drop k)∧prod (s.drop k)≤4096:=by
 obtain ⟨_,g,l⟩:=(ok_iff s).1 h
 have h1:=prod_pos (good_drop g k)
 refine ⟨h1, ?_⟩
 have h2:prod s=prod (s.take k)*prod (s.drop k):=by rw [← prod_append,List.take_append_drop]
 have h3:=prod_pos (s:=s.take k) fun x hx=>g x (List.mem_of_mem_take hx)
 have:=Int.mul_le_mul h3 (Int.le_refl (prod (s.drop k))) (by omega) (by omega)
 omega
theorem prod_drop {s:List Int} {k:Nat} (h:k<s.length):prod (s.drop k)=s.getD k default*prod (s.drop (k+1)):=by
 rw [List.drop_eq_getElem_cons h];simp [prod,h]

theorem inn_length:∀{s t:List Int},inn s t=true→t.length=s.length
 |[],[],_=>rfl
 |x::s,a::t,h=>by simp only [inn,Bool.and_eq_true] at h;simp [inn_length h.2]
 |[],_::_,h=>by simp [inn] at h
 |_::_,[],h=>by simp [inn] at h
theorem inn_at:∀{s t:List Int} {k:Nat},inn s t=true→k<s.length→0≤t.getD k default∧t.getD k default<s.getD k default
 |_::_,_::_,0,h,_=>by simp only [inn,Bool.and_eq_true,decide_eq_true_eq] at h;simpa using h.1
 |_::s,_::t,k+1,h,hk=>by
  simp only [inn,Bool.and_eq_true,decide_eq_true_eq] at h
  simpa using inn_at (s:=s) (t:=t) (k:=k) h.2 (by simpa using hk)
 |[],_,_,_,hk=>by simp at hk
 |_::_,[],_,h,_=>by simp [inn] at h
theorem inn_drop {s t:List Int} {k:Nat} (h1:k<s.length) (h2:t.length=s.length):inn (s.drop k) (t.drop k)=(decide (0≤t.getD k default) && decide (t.getD k default<s.getD k default) && inn (s.drop (k+1)) (t.drop (k+1))):=by
 have h3:k<t.length:=by omega
 rw [List.drop_eq_getElem_cons h1,List.drop_eq_getElem_cons h3]
 simp [inn,h1,h3]
theorem idx_drop {s t:List Int} {k:Nat} (h1:k<s.length) (h2:t.length=s.length):idx (s.drop k) (t.drop k)=t.getD k default*prod (s.drop (k+1))+idx (s.drop (k+1)) (t.drop (k+1)):=by
 have h3:k<t.length:=by omega
 rw [List.drop_eq_getElem_cons h1,List.drop_eq_getElem_cons h3]
 simp [idx,h3]
theorem idx_lt:∀{s t:List Int},good s→inn s t=true→0≤idx s t∧idx s t<prod s
 |[],[],_,_=>by simp [idx,prod]
 |x::s,a::t,g,h=>by
  simp only [inn,Bool.and_eq_true,decide_eq_true_eq] at h
  have ih:=idx_lt (good_cons.1 g).2 h.2
  have hp:=prod_pos (good_cons.1 g).2
  have h1:0≤a*prod s:=Int.mul_nonneg h.1.1 (by omega)
  have h2:(a+1)*prod s≤x*prod s:=Int.mul_le_mul_of_nonneg_right (by omega) (by omega)
  rw [Int.add_mul] at h2
  simp only [idx,prod]
  omega
 |[],_::_,_,h=>by simp [inn] at h
 |_::_,[],_,h=>by simp [inn] at h
theorem place_length (s:List Int) (i:Int):(place s i).length=s.length:=by
 induction s with
 |nil=>rfl
 |cons x s ih=>simp [place,ih]
theorem place_at {i:Int}:∀{s:List Int} {k:Nat},k<s.length→(place s i).getD k default=i / prod (s.drop (k+1)) % s.getD k default
 |x::s,0,_=>by simp [place]
 |x::s,k+1,h=>by
  have:=place_at (i:=i) (s:=s) (k:=k) (by simpa using h)
  simpa [place] using this
theorem place_in {i:Int} (hi:0≤i):∀{s:List Int},good s→inn s (place s i)=true
 |[],_=>rfl
 |x::s,g=>by
  have h1:=(good_cons.1 g).1
  simp only [place,inn,place_in hi (good_cons.1 g).2,Bool.and_true,Bool.and_eq_true,decide_eq_true_eq]
  exact ⟨Int.emod_nonneg _ (by omega),Int.emod_lt_of_pos _ (by omega)⟩
theorem emod_mul (i p x:Int) (hi:0≤i) (hp:0≤p) (hx:0≤x):i / p % x*p+i % p=i % (x*p):=by
 obtain ⟨i,rfl⟩:=Int.eq_ofNat_of_zero_le hi
 obtain ⟨p,rfl⟩:=Int.eq_ofNat_of_zero_le hp
 obtain ⟨x,rfl⟩:=Int.eq_ofNat_of_zero_le hx
 have h:=Nat.mod_mul (x:=i) (a:=p) (b:=x)
 have:i / p % x*p+i % p=i % (x*p):=by rw [Nat.mul_comm x p,h,Nat.mul_comm p];omega
 exact_mod_cast this
theorem idx_place {i:Int} (hi:0≤i):∀{s:List Int},good s→idx s (place s i)=i % prod s
 |[],_=>by simp [idx,prod]
 |x::s,g=>by
  have hp:=prod_pos (good_cons.1 g).2
  have h1:=(good_cons.1 g).1
  simp only [place,idx,idx_place hi (good_cons.1 g).2,prod]
  exact emod_mul _ _ _ hi (by omega) (by omega)
end Go.Dd.Shapes

/-! The step layer, part 8: small integers, shifts. Nothing here names a program. -/
namespace Go.Dd
open Go Go.RowKit

/-! ### Small integers -/
section
variable {P : Program} {n : Nat} {E : Env} {w : World} {ty t s : TypeId} {x y : Operand}
end
end Go.Dd

/-! The step layer, part 10: a piece of a region that draws its order, walked by itself; its ways meet again. Nothing here names a program. -/
namespace Go.Dd
open Go Go.RowKit

/-- The same, with all but S as if listed. -/
def others (S:List Nat) (L:Array Bool):Array Bool:=((List.range L.size).map fun i=>L.getD i true|| !S.contains i).toArray
def plus:List Nat→Array Bool→Array Bool
 |[],L=>L
 |i::S,L=>plus S (L.setIfInBounds i true)

theorem others_size (S:List Nat) (L:Array Bool):(others S L).size=L.size:=by simp [others]
theorem others_get {S:List Nat} {L:Array Bool} {i:Nat} (d:Bool) (h:i<L.size):(others S L).getD i d=(L.getD i true|| !S.contains i):=by
 simp [others,h]
theorem plus_size:∀(S:List Nat) (L:Array Bool),(plus S L).size=L.size
 |[],_=>rfl
 |i::S,L=>by simp [plus,plus_size S]
theorem set_get (L:Array Bool) (i j:Nat) (d:Bool) (h:j<L.size):(L.setIfInBounds i true).getD j d=(L.getD j d||i==j):=by
 by_cases hij:i=j
 ·subst hij;simp [h]
 ·simp [Array.getElem?_setIfInBounds_ne hij,hij]
theorem plus_get {d:Bool}:∀(S:List Nat) (L:Array Bool) (j:Nat),j<L.size→(plus S L).getD j d=(L.getD j d||S.contains j)
 |[],L,j,_=>by simp [plus]
 |i::S,L,j,h=>by
  rw [plus,plus_get S _ j (by simpa using h),set_get L i j d h,List.contains_cons,Bool.or_assoc]
  have e:(i==j)=(j==i):=by rw [Bool.eq_iff_iff];simp only [beq_iff_eq];exact eq_comm
  rw [e]
theorem bools_ext {A B:Array Bool} (hs:A.size=B.size) (h:∀i,i<A.size→A.getD i true=B.getD i true):A=B:=by
 apply Array.ext hs
 intro i h1 h2
 have:=h i h1
 simpa [h1,h2] using this

section
variable {P : Program} {ops : Array Oper} {Q : Post} {T : Act → World → Prop}

theorem wpOp_then {i:Nat} {a:Act} {w:World} {K K' :Act→World→Prop} (h:wpOp P ops (Then T Q) i K a w) (hk:∀a w,K a w→K' a w):wpOp P ops Q i K' a w:=by
 refine wpOp_mono hk ?_
 unfold wpOp at*
 split
 ·rename_i ho;simp only [ho] at h;exact h
 ·rename_i o ho
  simp only [ho] at h
  split
  ·rename_i hw
   simp only [hw,if_true] at h
   refine h.imp (fun h=> ?_) (fun h=>h)
   unfold Oper.wp at*
   generalize (execOp a.eval o).run P w=r at*
   cases r with
   |ok nx w' =>cases nx<;>exact h
   |halt x w' =>cases x<;>exact h
  ·rename_i hw;simp only [hw] at h;exact h

def depsIn (ops:Array Oper) (S:List Nat) (L:Array Bool) (i:Nat):Bool:=match ops[i]? with
 |some o=>o.after.all fun e=> !Region.binds .any e||((L.getD e.on false||S.contains e.on) && decide (e.on<i))
 |none=>false
def heldBack (ops:Array Oper) (S:List Nat) (L:Array Bool) (t:Nat):Bool:=match ops[t]? with
 |some o=>o.after.any fun e=>Region.binds .any e && (!L.getD e.on false && !S.contains e.on)
 |none=>true
def segB (ops:Array Oper) (S:List Nat) (b:Nat) (L:Array Bool):Bool:=
 decide (L.size=ops.size) && decide S.Nodup && S.all (fun i=>decide (i<ops.size) && !L.getD i true && depsIn ops S L i && (List.range ops.size).any fun j=>decide (i<j) && (S.contains j||j==b) && Region.waitsFor .any ops j i) &&
 !S.contains b && (List.range ops.size).all fun t=>L.getD t true||S.contains t||t==b||heldBack ops S L t

structure SegInv (ops:Array Oper) (S:List Nat) (L0 L:Array Bool):Prop where
 size:L.size=ops.size
 ge:∀i,L0.getD i false=true→L.getD i false=true
 only:∀i,L.getD i false=true→L0.getD i false=true∨S.contains i=true
 closed:∀j o,S.contains j=true→ops[j]? =some o→L.getD j false=true→∀e ∈ o.after,Region.binds .any e=true→L.getD e.on false=true

theorem notyet {L:Array Bool} {i:Nat} (hi:i<L.size):L.getD i true=L.getD i false:=by simp [hi]

theorem seg_main {S:List Nat} {b:Nat} {L0:Array Bool} {g:Nat} (hB:segB ops S b L0=true) (k:∀a w,T a w→wpAny P .any ops Q g (plus S L0) a w):
  ∀(f:Nat) (L:Array Bool) (a:Act) (w:World),SegInv ops S L0 L→(S.filter fun i=> !L.getD i true).length=f→
   wpAny P .any ops (Then T Q) f (others S L) a w→wpAny P .any ops Q (f+g) L a w:=by
 simp only [segB,Bool.and_eq_true,decide_eq_true_eq,List.all_eq_true,List.mem_range,List.any_eq_true,Bool.or_eq_true,Bool.not_eq_true'] at hB
 obtain ⟨⟨⟨⟨hsz,hnd⟩,hS⟩,hbS⟩,hrest⟩:=hB
 intro f
 induction f with
 |zero=>
  intro L a w inv hc h
  have hall:∀i ∈ S,L.getD i true=true:=fun i hi=>by
   have h0:=List.eq_nil_of_length_eq_zero hc
   rw [List.filter_eq_nil_iff] at h0
   simpa using h0 i hi
  have:L=plus S L0:=by
   refine bools_ext (by rw [plus_size,inv.size,hsz]) fun i hi=> ?_
   have hi0:i<L0.size:=by rw [hsz,← inv.size];exact hi
   rw [plus_get _ _ _ hi0,notyet hi,notyet hi0]
   cases h0:L.getD i false with
   |true=>
    rcases inv.only i h0 with h1|h1
    ·rw [h1];rfl
    ·rw [h1,Bool.or_true]
   |false=>
    cases h1:L0.getD i false with
    |true=>rw [inv.ge i h1] at h0;cases h0
    |false=>
     cases h2:S.contains i with
     |false=>rfl
     |true=>
      have:=hall i (by simpa using h2)
      rw [notyet hi,h0] at this
      cases this
  rw [Nat.zero_add,this]
  exact k a w h.2
 |succ f ih=>
  intro L a w inv hc h
  -- the ready ones are the same
  have hmem:∀i,i ∈ Region.ready .any ops L↔i ∈ Region.ready .any ops (others S L):=by
   intro i
   rw [mem_ready,mem_ready]
   constructor
   ·rintro ⟨h1,o,ho,h2⟩
    have hi:i<ops.size:=(Array.getElem?_eq_some_iff.1 ho).1
    have hiL:i<L.size:=by rw [inv.size];exact hi
    have hiS:S.contains i=true:=by
     refine Classical.byContradiction fun hn=> ?_
     have hn:S.contains i=false:=by simpa using hn
     rcases hrest i hi with ((h3|h3)|h3)|h3
     ·have h4:L0.getD i false=true:=by rw [← notyet (by omega)];exact h3
      have:=inv.ge i h4
      rw [← notyet hiL,h1] at this;cases this
     ·rw [hn] at h3;cases h3
     ·-- the barrier waits
      have h3:i=b:=by simpa using h3
      have key:∀d j,ops.size - j=d→S.contains j=true→L.getD j true=false→False:=by
       intro d
       induction d using Nat.strongRecOn with
       |_ d ihd=>
        intro j hd hj hun
        obtain ⟨⟨⟨hjs,_⟩,_⟩,t,ht,⟨hjt,htS⟩,hw⟩:=hS j (by simpa using hj)
        obtain ⟨ot,hot,e,he,hbn,hon⟩:=Region.waitsFor_spec hw
        rcases htS with htS|htb
        ·cases hl:L.getD t true with
         |false=>exact ihd (ops.size - t) (by omega) t rfl htS hl
         |true=>
          have htL:t<L.size:=by rw [inv.size];exact ht
          have h5:=inv.closed t ot htS hot (by rw [← notyet htL];exact hl) e he hbn
          rw [hon,← notyet (by rw [inv.size];exact hjs),hun] at h5
          cases h5
        ·have htb:t=b:=by simpa using htb
         have:ot=o:=by rw [htb,← h3] at hot;exact Option.some.inj (hot.symm.trans ho)
         subst this
         have h5:=h2 e he hbn
         rw [hon,← notyet (by rw [inv.size];exact hjs),hun] at h5
         cases h5
      have hex:∃j ∈ S,L.getD j true=false:=by
       have hne:(S.filter fun i=> !L.getD i true)≠[]:=fun h0=>by rw [h0] at hc;cases hc
       obtain ⟨j,hj⟩:=List.exists_mem_of_ne_nil _ hne
       rw [List.mem_filter] at hj
       exact ⟨j,hj.1,by simpa using hj.2⟩
      obtain ⟨j,hj,hun⟩:=hex
      exact key _ j rfl (by simpa using hj) hun
     ·simp only [heldBack,ho] at h3
      obtain ⟨e,he,hb⟩:=Array.any_eq_true'.1 h3
      simp only [Bool.and_eq_true,Bool.not_eq_true'] at hb
      have h4:=h2 e he hb.1
      rcases inv.only _ h4 with h5|h5
      ·rw [hb.2.1] at h5;cases h5
      ·rw [hb.2.2] at h5;cases h5
    refine ⟨by rw [others_get _ hiL,h1,hiS];rfl,o,ho,fun e he hb=> ?_⟩
    have h4:=h2 e he hb
    have heL:e.on<L.size:=by
     rcases Nat.lt_or_ge e.on L.size with h|h
     ·exact h
     ·simp [Array.getElem?_eq_none h] at h4
    rw [others_get _ heL,notyet heL,h4];rfl
   ·rintro ⟨h1,o,ho,h2⟩
    have hi:i<ops.size:=(Array.getElem?_eq_some_iff.1 ho).1
    have hiL:i<L.size:=by rw [inv.size];exact hi
    rw [others_get _ hiL,Bool.or_eq_false_iff] at h1
    have hiS:S.contains i=true:=by simpa using h1.2
    refine ⟨h1.1,o,ho,fun e he hb=> ?_⟩
    have h4:=h2 e he hb
    have heL:e.on<L.size:=by
     rcases Nat.lt_or_ge e.on L.size with h|h
     ·exact h
     ·simp [Array.getElem?_eq_none (show (others S L).size≤e.on by rw [others_size];exact h)] at h4
    rw [others_get _ heL,notyet heL,Bool.or_eq_true] at h4
    rcases h4 with h4|h4
    ·exact h4
    ·have hd:=(hS i (by simpa using hiS)).1.2
     simp only [depsIn,ho] at hd
     have h5:=Array.all_eq_true_iff_forall_mem.1 hd e he
     simp only [hb,Bool.not_true,Bool.false_or,Bool.and_eq_true,Bool.or_eq_true] at h5
     rcases h5.1 with h6|h6
     ·exact inv.ge _ h6
     ·rw [h6] at h4;cases h4
  have hlist:Region.ready .any ops L=Region.ready .any ops (others S L):=by
   unfold Region.ready
   refine List.filter_congr fun i hi=> ?_
   have h1:=hmem i
   unfold Region.ready at h1
   rw [List.mem_filter,List.mem_filter] at h1
   have h2:=List.mem_range.1 hi
   simp only [hi,true_and] at h1
   exact Bool.eq_iff_iff.2 h1
  -- one of them is there
  have hne:Region.ready .any ops L≠[]:=by
   have hex:∃j ∈ S,L.getD j true=false:=by
    have hne:(S.filter fun i=> !L.getD i true)≠[]:=fun h0=>by rw [h0] at hc;cases hc
    obtain ⟨j,hj⟩:=List.exists_mem_of_ne_nil _ hne
    rw [List.mem_filter] at hj
    exact ⟨j,hj.1,by simpa using hj.2⟩
   have key:∀j,j ∈ S→L.getD j true=false→∃i,i ∈ Region.ready .any ops L:=by
    intro j
    induction j using Nat.strongRecOn with
    |_ j ihj=>
     intro hj hun
     obtain ⟨⟨⟨hjs,_⟩,hd⟩,_⟩:=hS j hj
     cases ho:ops[j]? with
     |none=>simp [depsIn,ho] at hd
     |some o=>
      simp only [depsIn,ho] at hd
      by_cases hall:∀e ∈ o.after,Region.binds .any e=true→L.getD e.on false=true
      ·exact ⟨j,mem_ready.2 ⟨hun,o,ho,hall⟩⟩
      ·simp only [Classical.not_forall] at hall
       obtain ⟨e,he,hb,hnl⟩:=hall
       have h5:=Array.all_eq_true_iff_forall_mem.1 hd e he
       simp only [hb,Bool.not_true,Bool.false_or,Bool.and_eq_true,Bool.or_eq_true,decide_eq_true_eq] at h5
       rcases h5.1 with h6|h6
       ·exact absurd (inv.ge _ h6) hnl
       ·have heL:e.on<L.size:=by rw [inv.size];omega
        exact ihj e.on h5.2 (by simpa using h6) (by rw [notyet heL];simpa using hnl)
   obtain ⟨j,hj,hun⟩:=hex
   obtain ⟨i,hi⟩:=key j hj hun
   intro h0;rw [h0] at hi;cases hi
  rw [show f+1+g=(f+g)+1 by omega]
  refine ⟨fun h0=>absurd h0 hne,fun i hi=> ?_⟩
  have hi2:=(hmem i).1 hi
  refine wpOp_then (h.2 i hi2) fun a' w' h' => ?_
  obtain ⟨hun,o,ho,hdeps⟩:=mem_ready.1 hi
  have his:i<ops.size:=(Array.getElem?_eq_some_iff.1 ho).1
  have hiL:i<L.size:=by rw [inv.size];exact his
  have hiS:S.contains i=true:=by
   have:=(mem_ready.1 hi2).1
   rw [others_get _ hiL,Bool.or_eq_false_iff] at this
   simpa using this.2
  have hoth:others S (L.setIfInBounds i true)=(others S L).setIfInBounds i true:=by
   refine bools_ext (by simp [others_size]) fun j hj=> ?_
   have hjL:j<L.size:=by simpa [others_size] using hj
   rw [others_get _ (by simpa using hjL),set_get L i j true hjL,set_get (others S L) i j true (by rw [others_size];exact hjL),others_get _ hjL,Bool.or_assoc,Bool.or_assoc,Bool.or_comm (i==j)]
  refine ih (L.setIfInBounds i true) a' w' ⟨by simpa using inv.size,fun j hj=>getD_set_true (inv.ge j hj),fun j hj=> ?_,fun j oj hjS hoj hj e he hb=> ?_⟩ ?_ (by rw [hoth];exact h')
  ·by_cases hij:i=j
   ·subst hij;exact .inr hiS
   ·rw [getD_set_ne false hij] at hj;exact inv.only j hj
  ·by_cases hij:i=j
   ·subst hij
    have:oj=o:=Option.some.inj (hoj.symm.trans ho)
    subst this
    exact getD_set_true (hdeps e he hb)
   ·rw [getD_set_ne false hij] at hj
    exact getD_set_true (inv.closed j oj hjS hoj hj e he hb)
  ·have hmemS:i ∈ S:=by simpa using hiS
   have hsz' :∀j ∈ S,j<L.size:=fun j hj=>by rw [inv.size];exact (hS j hj).1.1.1
   clear h h' hlist hmem hne hi hi2 k ih hS hrest
   have gen:∀(S:List Nat),S.Nodup→i ∈ S→(∀j ∈ S,j<L.size)→(S.filter fun j=> !(L.setIfInBounds i true).getD j true).length+1=(S.filter fun j=> !L.getD j true).length:=by
    intro S
    induction S with
    |nil=>intro _ h;cases h
    |cons x S ihS=>
     intro hnd hi hlt
     rw [List.nodup_cons] at hnd
     have hx:=hlt x (by simp)
     by_cases hxi:x=i
     ·subst hxi
      have h1:∀j ∈ S,(!(L.setIfInBounds x true).getD j true)= !L.getD j true:=fun j hj=>by
       rw [getD_set_ne true (by rintro rfl;exact hnd.1 hj)]
      have h2:(!(L.setIfInBounds x true).getD x true)=false:=by rw [set_get _ _ _ _ hx];simp
      rw [List.filter_cons,List.filter_cons,h2,List.filter_congr h1]
      have h3:(!L.getD x true)=true:=by rw [hun];rfl
      rw [h3]
      simp
     ·have hi' :i ∈ S:=by
       rcases List.mem_cons.1 hi with h|h
       ·exact absurd h.symm hxi
       ·exact h
      have h1:=ihS hnd.2 hi' fun j hj=>hlt j (by simp [hj])
      rw [List.filter_cons,List.filter_cons,getD_set_ne true (Ne.symm hxi)]
      cases hl:L.getD x true with
      |true=>simp only [Bool.not_true,Bool.false_eq_true,if_false];exact h1
      |false=>simp only [Bool.not_false,if_true,List.length_cons];omega
   have:=gen S hnd hmemS hsz'
   omega
end

section
variable {P : Program} {Q : Post} {n : Nat} {E : Env} {w : World} {l0 : List Oper}
/-- A piece of a region by itself: S, behind which all waits for b. -/
theorem Aw.seg {St:Type} {f g:Nat} {L0:Array Bool} (S:List Nat) (b:Nat) (Ei:St→Env) (I:St→World→Prop) (hB:segB l0.toArray S b L0=true) (hf:S.length+g=f)
  (h:Aw P l0 (Then (fun a' w' =>∃s,Fits n (Ei s) a' ∧I s w') Q) n S.length (others S L0) E w)
  (k:∀s w',I s w' →Aw P l0 Q n g (plus S L0) (Ei s) w'):Aw P l0 Q n f L0 E w:=fun a ha=>by
 subst hf
 have hB' :=hB
 simp only [segB,Bool.and_eq_true,decide_eq_true_eq,List.all_eq_true] at hB'
 obtain ⟨⟨⟨⟨hsz,_⟩,hS⟩,_⟩,_⟩:=hB'
 refine seg_main hB (fun a' w' ⟨s,hf,hi⟩=>k s w' hi a' hf) S.length L0 a w ⟨hsz,fun _ h=>h,fun _ h=> .inl h,fun j o hj ho hl=> ?_⟩ ?_ (h a ha)
 ·have hj' :=hS j (by simpa using hj)
  have h1:L0.getD j true=false:=by simpa using hj'.1.1.2
  rw [notyet (by rw [hsz];exact (Array.getElem?_eq_some_iff.1 ho).1),hl] at h1
  cases h1
 ·congr 1
  rw [List.filter_eq_self]
  intro i hi
  exact (hS i hi).1.1.2
theorem Pw.seg {St:Type} {Ei:St→Env} {I:St→World→Prop} (s:St) (hE:Sub E (Ei s)) (hI:I s w):Pw n E (fun a' w' =>∃s,Fits n (Ei s) a' ∧I s w') w:=fun _ ha=>⟨s,ha.sub hE,hI⟩
end

/-! ### In a class of worlds: what only looks is taken first -/
section
variable {P : Program} {ops : Array Oper} {Q : Post} {C : World → Prop}
def wpAnyC (P:Program) (ops:Array Oper) (Q:Post) (C:World→Prop):Nat→Array Bool→Act→World→Prop
 |0,listed,a,w=>Region.ready .any ops listed=[]∧Q .normal a w
 |fuel+1,listed,a,w=>
  (Region.ready .any ops listed=[]→Q .normal a w)∧
  ∀i ∈ Region.ready .any ops listed,wpOp P ops Q i (fun a' w' =>C w' ∧wpAnyC P ops Q C fuel (listed.setIfInBounds i true) a' w') a w
theorem wpAny_of_C:∀(fuel:Nat) (listed:Array Bool) (a:Act) (w:World),wpAnyC P ops Q C fuel listed a w→wpAny P .any ops Q fuel listed a w
 |0,_,_,_,h=>h
 |fuel+1,_,_,_,h=>⟨h.1,fun i hi=>wpOp_mono (fun _ _ h' =>wpAny_of_C fuel _ _ _ h'.2) (h.2 i hi)⟩

def YieldsC (P:Program) (ops:Array Oper) (C:World→Prop) (o:Oper) (v:Value) (a:Act):Prop:=
 (Region.wanted o (yielded ops a.tmps)=true∧∀w,C w→(execOp a.eval o).run P w= .ok (.value v) w)∨
 (Region.wanted o (yielded ops a.tmps)=false∧v=undef)
theorem YieldsC.of_same {o:Oper} {v:Value} {a a' :Act} (hy:YieldsC P ops C o v a) (he:execOp a'.eval o=execOp a.eval o)
  (hw:Region.wanted o (yielded ops a'.tmps)=Region.wanted o (yielded ops a.tmps)):YieldsC P ops C o v a' :=by
 unfold YieldsC at*
 rw [he,hw]
 exact hy
theorem YieldsC.wpOp {i:Nat} {o:Oper} {v:Value} {a:Act} (hi:ops[i]? =some o) (hy:YieldsC P ops C o v a)
  {K:Act→World→Prop} {w:World} (hC:C w) (h:K (a.put o.dst v) w):wpOp P ops Q i K a w:=by
 unfold Go.wpOp
 simp only [hi]
 rcases hy with ⟨hw,hv⟩|⟨hw,rfl⟩
 ·simp only [hw,if_true,Oper.wp,hv w hC,Oper.upon];exact .inl h
 ·simp only [hw,Bool.false_eq_true,if_false];exact h
theorem wpOp_putC {j:Nat} {oi oj:Oper} {v:Value} (hj:ops[j]? =some oj) (hap:oi.apart ops oj=true)
  (hsi:∀cs b,oi.op≠ .select cs b) (hsj:∀cs b,oj.op≠ .select cs b)
  (hQ:∀c a w,Q (.panic c) (a.put oi.dst v) w→Q (.panic c) a w) {K:Act→World→Prop} {a:Act} {w:World}
  (hy:YieldsC P ops C oi v a) (h:wpOp P ops Q j K (a.put oi.dst v) w):
  wpOp P ops Q j (fun a' w' =>YieldsC P ops C oi v a' ∧K (a'.put oi.dst v) w') a w:=by
 obtain ⟨h1,h2,h3⟩:=Oper.apart_spec hap
 have keep:∀(a:Act),YieldsC P ops C oi v a→∀u,YieldsC P ops C oi v (a.put oj.dst u):=fun a hy u=>
  hy.of_same (execOp_put oi hsi a oj.dst u h3) (wanted_put oi a oj.dst u h3)
 have keepD:∀d,YieldsC P ops C oi v {a with defers:=d::a.defers}:=fun d=>hy.of_same rfl rfl
 unfold wpOp at*
 simp only [hj] at*
 rw [wanted_put oj a oi.dst v h1] at h
 split
 ·rename_i hw
  simp only [hw,if_true] at h
  rcases h with h|⟨hasks,hlets⟩
  case inr=>exact .inr ⟨by unfold Oper.asks at*;rw [execOp_put oj hsj a oi.dst v h1] at hasks;exact hasks,hlets⟩
  refine .inl ?_
  unfold Oper.wp at*
  rw [execOp_put oj hsj a oi.dst v h1] at h
  generalize (execOp a.eval oj).run P w=r at*
  cases r with
  |ok n w' =>
   cases n<;>simp only [Oper.upon] at h ⊢
   case value u=>exact ⟨keep a hy u,by rw [← Act.put_comm a v u h2];exact h⟩
   case skip=>exact ⟨keep a hy _,by rw [← Act.put_comm a v undef h2];exact h⟩
   case defer d=>
    refine ⟨keep _ (keepD d) _, ?_⟩
    rw [← Act.put_comm _ v undef h2,← Act.put_defers]
    exact h
   case enter f args=>
    refine Calls.mono h fun e w'' he=> ?_
    cases e with
    |returned u=>exact ⟨keep a hy u,by rw [← Act.put_comm a v u h2];exact he⟩
    |panicked c=>exact hQ _ _ _ he
    |outgrown=>exact he
   case row row args=>exact Rows.mono h fun u w'' he=>⟨keep a hy u,by rw [← Act.put_comm a v u h2];exact he⟩
  |halt x w' =>
   cases x<;>simp only [Oper.upon] at h ⊢
   case panic u=>exact hQ _ _ _ h
 ·rename_i hw
  simp only [hw] at h
  exact ⟨keep a hy _,by rw [← Act.put_comm a v undef h2];exact h⟩
theorem wpAnyC_first {i:Nat} {oi:Oper} {v:Value} (hi:ops[i]? =some oi) (hsel:∀(j:Nat) (o:Oper) cs b,ops[j]? =some o→o.op≠ .select cs b)
  (hQ:∀c a w,Q (.panic c) (a.put oi.dst v) w→Q (.panic c) a w):
  ∀(fuel:Nat) (listed:Array Bool) (a:Act) (w:World),C w→
   (∀j oj,ops[j]? =some oj→j≠i→listed.getD j true=false→(∀e ∈ oj.after,Region.binds .any e=true→e.on≠i)→oi.apart ops oj=true)→
   i ∈ Region.ready .any ops listed→YieldsC P ops C oi v a→
   wpAnyC P ops Q C fuel (listed.setIfInBounds i true) (a.put oi.dst v) w→wpAnyC P ops Q C (fuel+1) listed a w:=by
 intro fuel
 induction fuel with
 |zero=>
  intro listed a w hC _ hr hy H
  refine ⟨fun h=>(by rw [h] at hr;cases hr),fun j hj=> ?_⟩
  by_cases hji:j=i
  ·subst hji;exact hy.wpOp hi hC ⟨hC,H⟩
  ·have:=ready_mono hj hji
   rw [H.1] at this
   cases this
 |succ fuel ih=>
  intro listed a w hC hfree hr hy H
  refine ⟨fun h=>(by rw [h] at hr;cases hr),fun j hj=> ?_⟩
  by_cases hji:j=i
  ·subst hji;exact hy.wpOp hi hC ⟨hC,H⟩
  ·have h1:=H.2 j (ready_mono hj hji)
   obtain ⟨hjun,oj,hoj,hall⟩:=mem_ready.1 hj
   have hnot:∀e ∈ oj.after,Region.binds .any e=true→e.on≠i:=fun e he hb heq=>by
    have h1:=hall e he hb
    have h0:=(mem_ready.1 hr).1
    rw [heq] at h1
    rcases Nat.lt_or_ge i listed.size with h' |h'
    ·simp [h'] at h0 h1;rw [h0] at h1;cases h1
    ·simp [Array.getElem?_eq_none h'] at h1
   have h2:=wpOp_putC hoj (hfree j oj hoj hji hjun hnot) (fun cs b=>hsel i oi cs b hi) (fun cs b=>hsel j oj cs b hoj) hQ hy h1
   have hfree' :∀k ok,ops[k]? =some ok→k≠i→(listed.setIfInBounds j true).getD k true=false→
     (∀e ∈ ok.after,Region.binds .any e=true→e.on≠i)→oi.apart ops ok=true:=fun k ok hk hki hun hno=>by
    refine hfree k ok hk hki ?_ hno
    by_cases hjk:j=k
    ·subst hjk;exact hjun
    ·rw [getD_set_ne true hjk] at hun;exact hun
   refine wpOp_mono (fun a' w' h3=>⟨h3.2.1,ih (listed.setIfInBounds j true) a' w' h3.2.1 hfree' (ready_mono hr (Ne.symm hji)) h3.1 ?_⟩) h2
   rw [Array.setIfInBounds_comm _ _ hji]
   exact h3.2.2
end

section
variable {P : Program} {Q : Post} {n : Nat} {E : Env} {w : World} {l0 : List Oper} {ty : TypeId} {pos : String} {af : Array Edge} {C : World → Prop}
/-- Any order, all worlds of a class. -/
def AwC (P:Program) (l0:List Oper) (Q:Post) (C:World→Prop) (n fuel:Nat) (listed:Array Bool) (E:Env) (w:World):Prop:=C w∧∀a,Fits n E a→wpAnyC P l0.toArray Q C fuel listed a w
theorem Cs {fuel:Nat} {listed:Array Bool} (C:World→Prop) (h:C w→AwC P l0 Q C n fuel listed E w) (hC:C w):Aw P l0 Q n fuel listed E w:=fun a ha=>wpAny_of_C _ _ _ _ ((h hC).2 a ha)
theorem AwC.take {i d fuel:Nat} {op:Op} {v:Value} {listed:Array Bool} (hQ:NoP Q) (hi:nth l0 i=some ⟨some d,op,ty,pos,af,none⟩) (hs:Region.noSelect l0.toArray=true) (hf:Region.free .any l0.toArray listed i=true)
  (hr:(Region.ready .any l0.toArray listed).contains i=true) (h:∀w,C w→Ex P n E op ty w v) (hd:Nat.blt d n=true) (k:AwC P l0 Q C n fuel (listed.setIfInBounds i true) ((d,v)::E) w):AwC P l0 Q C n (fuel+1) listed E w:=⟨k.1,fun a ha=>
 wpAnyC_first (by rw [List.getElem?_toArray,nth_eq];exact hi) (Region.noSelect_spec hs) (fun c a' w' hq=>absurd hq (hQ _ _ _)) fuel listed a w k.1 (Region.free_spec (by rw [List.getElem?_toArray,nth_eq];exact hi) hf) (by simpa using hr)
  (.inl ⟨by simp [Region.wanted],fun w' hw' =>h w' hw' a ha (some d) pos af none⟩) (k.2 _ (ha.put v hd))⟩
theorem Ck {fuel:Nat} {listed:Array Bool} (hC:C w) (hr:Region.ready .any l0.toArray listed=[]) (h:Pw n E (Q .normal) w):AwC P l0 Q C n fuel listed E w:=⟨hC,fun a ha=>by
 cases fuel with
 |zero=>exact ⟨hr,h a ha⟩
 |succ f=>exact ⟨fun _=>h a ha,by rw [hr];simp⟩⟩
theorem AwC.all {fuel:Nat} {listed:Array Bool} (hC:C w) (rs:List Nat) (hr:Region.ready .any l0.toArray listed=rs) (hne:rs≠[])
  (h:∀i ∈ rs,∀o,nth l0 i=some o→Lw P l0 (Then (fun a' w' =>C w' ∧wpAnyC P l0.toArray Q C fuel (listed.setIfInBounds i true) a' w') Q) n [o] E w):AwC P l0 Q C n (fuel+1) listed E w:=⟨hC,fun a ha=>
 ⟨fun h0=>absurd (hr ▸ h0) hne,fun i hi=>by
  have hi' :i ∈ rs:=hr ▸ hi
  obtain ⟨_,o,ho,_⟩:=mem_ready.1 hi
  have ho' :nth l0 i=some o:=by rw [← nth_eq,← List.getElem?_toArray];exact ho
  have h1:=h i hi' o ho' a ha
  unfold wpList at h1
  unfold wpOp
  simp only [ho]
  have hK:wpList P l0.toArray (Then (fun a' w' =>C w' ∧wpAnyC P l0.toArray Q C fuel (listed.setIfInBounds i true) a' w') Q) []=fun a' w' =>C w' ∧wpAnyC P l0.toArray Q C fuel (listed.setIfInBounds i true) a' w' :=by
   funext a' w';rfl
  rw [hK] at h1
  split at h1
  ·rename_i hw
   rw [if_pos hw]
   refine h1.imp (fun h=> ?_) (fun h=>h)
   unfold Oper.wp at*
   generalize (execOp a.eval o).run P w=r at*
   cases r with
   |ok nx w' =>cases nx<;>exact h
   |halt x w' =>cases x<;>exact h
  ·rename_i hw
   rw [if_neg hw];exact h1⟩⟩
theorem AwC.only {i fuel:Nat} {o:Oper} {listed:Array Bool} (hC:C w) (hr:Region.ready .any l0.toArray listed=[i]) (ho:nth l0 i=some o)
  (h:Lw P l0 (Then (fun a' w' =>C w' ∧wpAnyC P l0.toArray Q C fuel (listed.setIfInBounds i true) a' w') Q) n [o] E w):AwC P l0 Q C n (fuel+1) listed E w:=
 AwC.all hC [i] hr (by simp) fun j hj o' ho' =>by
  obtain rfl:j=i:=by simpa using hj
  obtain rfl:o' =o:=Option.some.inj (ho'.symm.trans ho)
  exact h
theorem AwC.two {i j fuel:Nat} {o q:Oper} {listed:Array Bool} (hC:C w) (hr:Region.ready .any l0.toArray listed=[i,j]) (ho:nth l0 i=some o) (hq:nth l0 j=some q)
  (h:Lw P l0 (Then (fun a' w' =>C w' ∧wpAnyC P l0.toArray Q C fuel (listed.setIfInBounds i true) a' w') Q) n [o] E w)
  (k:Lw P l0 (Then (fun a' w' =>C w' ∧wpAnyC P l0.toArray Q C fuel (listed.setIfInBounds j true) a' w') Q) n [q] E w):AwC P l0 Q C n (fuel+1) listed E w:=
 AwC.all hC [i,j] hr (by simp) fun m hm o' ho' =>by
  rcases List.mem_cons.1 hm with rfl|hm
  ·obtain rfl:o' =o:=Option.some.inj (ho'.symm.trans ho)
   exact h
  ·obtain rfl:m=j:=by simpa using hm
   obtain rfl:o' =q:=Option.some.inj (ho'.symm.trans hq)
   exact k
theorem AwC.back {fuel:Nat} {listed:Array Bool} {l1:List Oper} (h:AwC P l0 Q C n fuel listed E w):Lw P l1 (Then (fun a' w' =>C w' ∧wpAnyC P l0.toArray Q C fuel listed a' w') Q) n [] E w:=fun a ha=>wpList_nil ⟨h.1,h.2 a ha⟩
end

/-! ### Code that comes to its end, with a frame that is told, by a state -/
section
variable {P : Program} {n : Nat} {E : Env} {w : World}
def MidS {St:Type} (n:Nat) (Ei:St→Env) (I:St→World→Prop):Post:=fun x a w=>x= .normal∧∃s,Fits n (Ei s) a∧I s w
theorem Cw.midS {St:Type} {c:Code} (Ei:St→Env) (I:St→World→Prop) {K:Act→World→Prop} {Q:Post} (h:Cw P (MidS n Ei I) n c E w) (k:∀s w',I s w' →Pw n (Ei s) K w'):Cw P (Then K Q) n c E w:=fun a ha=>
 Code.wp_mono (fun x a' w' hm=>by
  obtain ⟨rfl,s,hf,hi⟩:=hm
  exact k s w' hi a' hf) (h a ha)
theorem Pw.midS {St:Type} {Ei:St→Env} {I:St→World→Prop} (s:St) (hs:Sub E (Ei s)) (hi:I s w):Pw n E (MidS n Ei I .normal) w:=fun _ ha=>⟨rfl,s,ha.sub hs,hi⟩
end
end Go.Dd

/-! The step layer, part 9: what was changed, as a set of blocks; lists that are kept in a book. Nothing here names a program. -/
namespace Go.Dd
open Go Go.RowKit

/-- Of the blocks that were there, only these were changed. -/
structure Chg (S:Nat→Prop) (w w' :World):Prop where
 os:w'.os=w.os
 tape:w'.tape=w.tape
 output:w'.output=w.output
 size:w.heap.size≤w'.heap.size
 block:∀k,k<w.heap.size→¬S k→w'.heap[k]? =w.heap[k]?
namespace Chg
variable {S T : Nat → Prop} {a b c : World}
theorem refl (S:Nat→Prop) (w:World):Chg S w w:=⟨rfl,rfl,rfl,Nat.le_refl _,fun _ _ _=>rfl⟩
theorem trans (h:Chg S a b) (k:Chg S b c):Chg S a c:=
 ⟨k.os.trans h.os,k.tape.trans h.tape,k.output.trans h.output,Nat.le_trans h.size k.size,fun i hi hs=>(k.block i (Nat.lt_of_lt_of_le hi h.size) hs).trans (h.block i hi hs)⟩
theorem mono (h:Chg S a b) (hs:∀k,S k→T k):Chg T a b:=⟨h.os,h.tape,h.output,h.size,fun k hk hn=>h.block k hk fun e=>hn (hs k e)⟩
theorem below (h:Chg S a b) (k:Below b.heap.size b c):Chg S a c:=
 ⟨k.os.trans h.os,k.tape.trans h.tape,k.output.trans h.output,Nat.le_trans h.size k.size,fun i hi hs=>(k.block i (Nat.lt_of_lt_of_le hi h.size)).trans (h.block i hi hs)⟩
theorem grown (h:Chg S a b) {r:Option Nat} (k:b.grownBy c r) (hr:∀n,r=some n→S n∨a.heap.size≤n):Chg S a c:=
 ⟨k.os.trans h.os,k.tape.trans h.tape,k.output.trans h.output,Nat.le_trans h.size k.size,fun i hi hs=>(k.block i (Nat.lt_of_lt_of_le hi h.size) (fun e=>by
  rcases hr i e.symm with h1|h1
  ·exact hs h1
  ·omega)).trans (h.block i hi hs)⟩
theorem of_below (h:Below a.heap.size a b):Chg S a b:=(Chg.refl S a).below h
theorem to_below {B:Nat} (h:Chg S a b) (hS:∀k,S k→B≤k) (hB:B≤a.heap.size):Below B a b:=
 ⟨h.os,h.tape,h.output,h.size,fun k hk=>h.block k (by omega) fun e=>by have:=hS k e;omega⟩
end Chg
theorem Blk.chg {S:Nat→Prop} {w w' :World} {b:Nat} {T:TypeId} {cs:List Value} (h:Blk w b T cs) (g:Chg S w w') (hb:¬S b):Blk w' b T cs:=h.keep (g.block b (blk_lt h) hb)
theorem own_chg {S:Nat→Prop} {w w' :World} {base:Nat} {e:TypeId} {sz:Nat} {v:Value} {n:Nat} {xs:List Value} (h:w.ownsRow base e sz v n xs) (g:Chg S w w') (hv:∀b,v.ownBlock=some b→¬S b):w'.ownsRow base e sz v n xs:=by
 obtain ⟨h1,h2⟩:=h
 rcases h2 with h2|⟨b,cap,cur,rfl,hb,hg,h3⟩
 ·exact ⟨h1, .inl h2⟩
 ·exact ⟨h1, .inr ⟨b,cap,cur,rfl,hb,(g.block b (Array.getElem?_eq_some_iff.1 hg).1 (hv b rfl)).trans hg,h3⟩⟩
theorem KRow.chg {S:Nat→Prop} {w w' :World} {base:Nat} {e:TypeId} {sz:Nat} {v:Value} {n:Nat} {xs:List Value} (h:KRow w base e sz v n xs) (g:Chg S w w') (hv:∀b,v.ownBlock=some b→¬S b):KRow w' base e sz v n xs:=
 h.heap fun b e=>g.block b (h.lt b e).2 (hv b e)
theorem Sl.chg {S:Nat→Prop} {w w' :World} {sz:Nat} {v:Value} {n:Nat} {xs:List Value} (h:Sl w sz v n xs) (g:Chg S w w') (hv:∀b,v.ownBlock=some b→b<w.heap.size→¬S b):Sl w' sz v n xs:=
 h.keep fun b hb e=>g.block b hb (hv b e hb)

theorem int_one (k:IntKind) (m:Int):(Value.int k m).oneCell' =true:=rfl
/-- A list that a book keeps: its value, how many elements, what it reads, its number; the longer one. -/
structure Hd where
 v:Value
 k:Nat
 xs:List Value
 n:Int
 g:Value
def Hd.cells (h:Hd):List Value:=[h.v,h.g, .int .i64 h.n]
def hcells:List Hd→List Value
 |[]=>[]
 |h::hs=>h.v::h.g:: .int .i64 h.n::hcells hs
theorem hcells_len:∀hs:List Hd,(hcells hs).length=hs.length*3
 |[]=>rfl
 |h::hs=>by simp [hcells,hcells_len hs];omega
theorem hcells_app:∀(a b:List Hd),hcells (a++b)=hcells a++hcells b
 |[],_=>rfl
 |h::a,b=>by simp [hcells,hcells_app a b]
theorem hcells_at:∀{hs:List Hd} {j:Nat} (h:j<hs.length),(hcells hs)[j*3]? =some hs[j].v∧(hcells hs)[j*3+1]? =some hs[j].g∧(hcells hs)[j*3+2]? =some (.int .i64 hs[j].n)
 |t::ts,0,_=>by simp [hcells]
 |t::ts,j+1,h=>by
  have:=hcells_at (hs:=ts) (j:=j) (by simpa using h)
  rw [Nat.succ_mul]
  simpa [hcells] using this
theorem hcells_set:∀{hs:List Hd} {j:Nat} (h:j<hs.length) (g:Value),(hcells hs).set (j*3+1) g=hcells (hs.set j {hs[j] with g:=g})
 |t::ts,0,_,g=>by simp [hcells]
 |t::ts,j+1,h,g=>by
  have:=hcells_set (hs:=ts) (j:=j) (by simpa using h) g
  rw [Nat.succ_mul,show j*3+3+1=(j*3+1)+3 by omega]
  simp [hcells,this]
theorem hcells_three {hs:List Hd} {j:Nat} (h:j<hs.length):∀i,i<3→∃q,hs[j].cells[i]? =some q∧(hcells hs)[j*3+i]? =some q:=fun i hi=>by
 obtain ⟨h1,h2,h3⟩:=hcells_at h
 rcases (show i=0∨i=1∨i=2 by omega) with rfl|rfl|rfl
 ·exact ⟨_,rfl,h1⟩
 ·exact ⟨_,rfl,h2⟩
 ·exact ⟨_,rfl,h3⟩

/-- The blocks of some kept lists. -/
def blks (hs:List Hd):Nat→Prop:=fun b=>∃h ∈ hs,h.v.ownBlock=some b
/-- Kept lists of one kind: their numbers; no two share memory. -/
structure KOk (hs:List Hd):Prop where
 num:∀h ∈ hs,0≤h.n∧h.n≤4000000
 few:∀h ∈ hs,h.k≤16777216
 apart:hs.Pairwise fun a b=>Apt a.v b.v
 new:∀h ∈ hs,h.g= .slice none 0 0
/-- Kept lists of one kind: each in memory of its own. -/
structure Kept (w:World) (base:Nat) (E:TypeId) (sz:Nat) (hs:List Hd):Prop extends KOk hs where
 own:∀h ∈ hs,KRow w base E sz h.v h.k h.xs
theorem Kept.nil (w:World) (base:Nat) (E:TypeId) (sz:Nat):Kept w base E sz []:=⟨⟨by simp,by simp,List.Pairwise.nil,by simp⟩,by simp⟩
theorem Kept.blk {w:World} {base:Nat} {E:TypeId} {sz:Nat} {hs:List Hd} (h:Kept w base E sz hs) {b:Nat} (hb:blks hs b):base≤b∧b<w.heap.size:=by
 obtain ⟨x,hx,e⟩:=hb
 exact (h.own x hx).lt b e
theorem Kept.chg {w w' :World} {base:Nat} {E:TypeId} {sz:Nat} {hs:List Hd} {S:Nat→Prop} (h:Kept w base E sz hs) (g:Chg S w w') (hS:∀b,blks hs b→¬S b):Kept w' base E sz hs:=
 ⟨h.toKOk,fun x hx=>(h.own x hx).chg g fun b e=>hS b ⟨x,hx,e⟩⟩
theorem apart_ne {hs:List Hd} (h:hs.Pairwise fun a b=>Apt a.v b.v) {i j:Nat} (hi:i<hs.length) (hj:j<hs.length) (hne:i≠j):Apt hs[i].v hs[j].v:=by
 rcases Nat.lt_or_gt_of_ne hne with hlt|hgt
 ·exact List.pairwise_iff_getElem.1 h i j hi hj hlt
 ·exact (List.pairwise_iff_getElem.1 h j i hj hi hgt).symm

/-- As many marks as a list has numbers. -/
def marks (mk:Int→Value) (k:Nat) (n:Int):List Value:=List.replicate k (mk n)
theorem marks_get {mk:Int→Value} {k:Nat} {n:Int} {i:Nat} (h:i<k):(marks mk k n)[i]? =some (mk n):=by simp [marks,h]
theorem marks_step {mk:Int→Value} {k:Nat} {n:Int} {xs:List Value} {i:Nat} (hx:xs.length=k) (hi:i<k):(marks mk i n++xs.drop i).set i (mk n)=marks mk (i+1) n++xs.drop (i+1):=by
 have h1:(marks mk i n).length=i:=by simp [marks]
 have hil:i<xs.length:=by omega
 rw [List.set_append_right _ _ (by omega),h1,Nat.sub_self,List.drop_eq_getElem_cons hil,List.set_cons_zero,marks,marks,List.replicate_succ',List.append_assoc]
 rfl
theorem marks_len {mk:Int→Value} {k:Nat} {n:Int} {xs:List Value} {i:Nat} (hx:xs.length=k) (hi:i≤k):(marks mk i n++xs.drop i).length=k:=by simp [marks,hx];omega
theorem marks_more {mk:Int→Value} {k:Nat} {n:Int}:marks mk k n++[mk n]=marks mk (k+1) n:=by simp [marks,List.replicate_succ']

/-- Filled: each kept list is full of its mark. -/
def Full (w:World) (base:Nat) (E:TypeId) (mk:Int→Value) (hs:List Hd):Prop:=∀h ∈ hs,KRow w base E 1 h.v h.k (marks mk h.k h.n)
theorem Full.chg {w w' :World} {base:Nat} {E:TypeId} {mk:Int→Value} {hs:List Hd} {S:Nat→Prop} (h:Full w base E mk hs) (g:Chg S w w') (hS:∀b,blks hs b→¬S b):Full w' base E mk hs:=
 fun x hx=>(h x hx).chg g fun b e=>hS b ⟨x,hx,e⟩
theorem Full.blk {w:World} {base:Nat} {E:TypeId} {mk:Int→Value} {hs:List Hd} (h:Full w base E mk hs) {b:Nat} (hb:blks hs b):base≤b∧b<w.heap.size:=by
 obtain ⟨x,hx,e⟩:=hb
 exact (h x hx).lt b e
/-- Grown: each with its longer one, forty marks more. -/
structure Tall (w:World) (mk:Int→Value) (h:Hd):Prop where
 l:Sl w 1 h.v h.k (marks mk h.k h.n)
 g:Sl w 1 h.g (h.k+40) (marks mk (h.k+40) h.n)
theorem Tall.chg {w w' :World} {mk:Int→Value} {h:Hd} {S:Nat→Prop} (t:Tall w mk h) (g:Chg S w w') (h1:∀b,h.v.ownBlock=some b→b<w.heap.size→¬S b) (h2:∀b,h.g.ownBlock=some b→b<w.heap.size→¬S b):Tall w' mk h:=⟨t.l.chg g h1,t.g.chg g h2⟩

/-- The same lists, each with a longer one. -/
structure Grown (w:World) (hs ts:List Hd):Prop where
 len:ts.length=hs.length
 all:∀j (h:j<hs.length) (h' :j<ts.length),ts[j].v=hs[j].v∧ts[j].k=hs[j].k∧ts[j].n=hs[j].n∧∀b,ts[j].g.ownBlock=some b→hs[j].v.ownBlock=some b∨w.heap.size≤b
theorem Grown.refl (w:World) {hs:List Hd} (h:∀t ∈ hs,t.g= .slice none 0 0):Grown w hs hs:=
 ⟨rfl,fun j hj _=>⟨rfl,rfl,rfl,fun b e=>by rw [h _ (List.getElem_mem hj)] at e;cases e⟩⟩
theorem Grown.set {w:World} {hs ts:List Hd} {i:Nat} {g:Value} (h:Grown w hs ts) (hi:i<hs.length) (hit:i<ts.length) (hg:∀b,g.ownBlock=some b→hs[i].v.ownBlock=some b∨w.heap.size≤b):Grown w hs (ts.set i {ts[i] with g:=g}):=by
 refine ⟨by rw [List.length_set];exact h.len,fun j hj hj' => ?_⟩
 rw [List.getElem_set]
 split
 ·rename_i e
  subst e
  obtain ⟨h1,h2,h3,_⟩:=h.all i hi hit
  exact ⟨h1,h2,h3,hg⟩
 ·exact h.all j hj (by simpa using hj')
theorem Grown.nums {w:World} {hs ts:List Hd} (h:Grown w hs ts) (hk:KOk hs):∀t ∈ ts,(0≤t.n∧t.n≤4000000)∧t.k≤16777216:=fun t ht=>by
 obtain ⟨j,hj,rfl⟩:=List.mem_iff_getElem.1 ht
 have hj' :j<hs.length:=by rw [← h.len];exact hj
 obtain ⟨_,h2,h3,_⟩:=h.all j hj' hj
 rw [h2,h3]
 exact ⟨hk.num _ (List.getElem_mem hj'),hk.few _ (List.getElem_mem hj')⟩
theorem Grown.tall {w0 w1 w2:World} {hs ts:List Hd} {mk:Int→Value} {S:Nat→Prop} (h:Grown w0 hs ts) (ht:∀t ∈ ts,Tall w1 mk t) (c:Chg S w1 w2) (h1:∀b,blks hs b→¬S b) (h2:∀b,w0.heap.size≤b→¬S b):∀t ∈ ts,Tall w2 mk t:=fun t hm=>by
 obtain ⟨j,hj,rfl⟩:=List.mem_iff_getElem.1 hm
 have hj' :j<hs.length:=by rw [← h.len];exact hj
 obtain ⟨e1,_,_,e4⟩:=h.all j hj' hj
 refine (ht _ hm).chg c (fun b e _=>h1 b ⟨_,List.getElem_mem hj',by rw [← e1];exact e⟩) fun b e _=> ?_
 rcases e4 b e with h3|h3
 ·exact h1 b ⟨_,List.getElem_mem hj',h3⟩
 ·exact h2 b h3
theorem Tall.bs {w w' :World} {mk:Int→Value} {h:Hd} (t:Tall w mk h) (g:Below w.heap.size w w'):Tall w' mk h:=⟨t.l.bs g,t.g.bs g⟩
theorem own_some {w:World} {base:Nat} {E:TypeId} {sz n:Nat} {v:Value} {xs:List Value} (h:w.ownsRow base E sz v n xs) (hn:0<n):∃ad c k,v= .slice (some ad) c k:=by
 rcases h.2 with ⟨_,h0⟩|⟨b,cap,cur,rfl,_⟩
 ·omega
 ·exact ⟨_,_,_,rfl⟩
/-- What append leaves of the list that it went on from. -/
theorem grow_keeps {w0 w5 w6:World} {base:Nat} {E:TypeId} {v g g' :Value} {k m:Nat} {xs ys:List Value} (r0:KRow w0 base E 1 v k xs) (r6:KRow w6 base E 1 g' m ys) (hg:w5.grownBy w6 g.ownBlock)
  (hcase:g'.ownBlock=g.ownBlock∨((∀b,g'.ownBlock=some b→w5.heap.size≤b)∧Below w5.heap.size w5 w6)) (l5:Sl w5 1 v k xs) (_hm:k≤m) (hys:ys.take k=xs):Sl w6 1 v k xs:=by
 rcases hcase with e|⟨_,hb⟩
 ·obtain ⟨hl,ao,cap,rfl,h1,h2,h3,h4⟩:=l5
  cases ao with
  |none=>exact ⟨hl,none,cap,rfl,h1,h2,h3,fun a ha=>by cases ha⟩
  |some ad=>
   have had:ad=⟨ad.block,0,none⟩:=by
    rcases r0 with r0|⟨g0,cur,h0,_⟩
    ·rcases r0.2 with ⟨h0,_⟩|⟨b,cap',cur,h0,_⟩
     ·cases h0
     ·cases h0;rfl
    ·cases h0;rfl
   by_cases hgo:g.ownBlock=some ad.block
   ·rw [hgo] at e
    obtain ⟨_,ao,cap',hv',_,_,_,hc⟩:=r6.sl
    have hao:ao=some ad:=by
     rcases r6 with r6|⟨g0,cur,h0,_⟩
     ·rcases r6.2 with ⟨h0,_⟩|⟨b',cap2,_,h0,_⟩
      ·rw [h0] at e;cases e
      ·rw [h0] at hv' e
       cases hv'
       simp only [Value.ownBlock,Option.some.injEq] at e
       rw [had,e]
     ·rw [h0] at hv' e
      cases hv'
      simp only [Value.ownBlock,Option.some.injEq] at e
      rw [had,e]
    refine ⟨hl,some ad,cap,rfl,h1,h2,h3,fun a ha j u hu=>hc a (by rw [hao];exact ha) j u ?_⟩
    rw [← hys,List.getElem?_take] at hu
    split at hu
    ·exact hu
    ·cases hu
   ·exact Sl.by ⟨hl,some ad,cap,rfl,h1,h2,h3,h4⟩ hg (.inr fun h=>hgo h.symm)
 ·exact l5.bs hb

section
variable {P : Program} {n : Nat} {E : Env} {w : World} {ty t e : TypeId} {x y : Operand} {v u : Value} {sz base : Nat}
theorem append_fresh {w w' :World} {base:Nat} {t ty e:TypeId} {i:TypeInfo} {z:Value} {size bytes:Nat} (ht:P.underlying t=some (.slice e)) (hi:P.info? e=some i) (hz:i.zero=some z)
  (hsize:i.size=size) (hby:i.bytes=bytes) (hsz:0<size) {v v' :Value} {n:Nat} {xs:List Value} (hown:w.ownsRow base e size v n xs)
  {a:Addr} {m c:Nat} {news:List Value} (hl:news.length=m*size) (hnews:∀j u,news[j]? =some u→w.cell? (a.add j)=some u) (h1:∀u ∈ news,u.oneCell' =true)
  (h63:n+m≤maxLen) (hbytes:(n+m)*bytes≤140737488355328) (hr' :(Builtin.append_ #[t,t] ty #[v, .slice (some a) m c]).run P w= .ok v' w'):
  v'.ownBlock=v.ownBlock∨((∀b,v'.ownBlock=some b→w.heap.size≤b)∧Below w.heap.size w w'):=by
 subst hsize
 subst hby
 have hsmall:n+m≤9223372036854775807:=by simp only [maxLen] at h63;omega
 rcases hown.2 with ⟨rfl,rfl⟩|⟨g,cap,cur,rfl,hbg,hg,hnc,hcm,hcs,htake⟩
 ·by_cases hm:m=0
  ·subst hm
   obtain rfl:news=[]:=List.eq_nil_of_length_eq_zero (by simpa using hl)
   have hr:(Builtin.append_ #[t,t] ty #[.slice none 0 0, .slice (some a) 0 c]).run P w= .ok (.slice none 0 0) w:=by
    simp [Builtin.append_,run_underlying ht,sizeOf,typeInfo,hi,Builtin.lenOf,Builtin.firstCells,loadCells,loadCellsFrom]
   rw [hr] at hr'
   cases hr'
   exact .inl rfl
  ·have hr:=run_append_nil (P:=P) w t ty e i z ht hi hz a m c news hl hnews (by omega) (by omega) (by have hb:=hbytes;simp only [Nat.zero_add] at hb;omega)
   rw [hr] at hr'
   cases hr'
   exact .inr ⟨(fun b e=>by cases e;exact Nat.le_refl _),⟨rfl,rfl,rfl,by simp,fun k hk=>heap_alloc_old w.drew _ hk⟩⟩
 ·by_cases hroom:n+m≤cap
  ·have hfit:n*i.size+news.length≤cur.size:=by rw [hl,hcs,← Nat.add_mul];exact Nat.mul_le_mul_right _ hroom
   have hr:=run_append_room (P:=P) w t ty e i ht hi g n cap cur hg a m c news hl hnews h1 hroom hfit
   rw [hr] at hr'
   cases hr'
   exact .inl rfl
  ·have holds:∀j u,xs[j]? =some u→w.cell? ((⟨g,0,none⟩:Addr).add j)=some u:=hown.cells (g:=g) rfl
   have hr:=run_append_grow (P:=P) w t ty e i z ht hi hz ⟨g,0,none⟩ n cap xs hown.1 holds a m c news hl hnews (by omega) (by omega) (growslice_fits (by omega) hbytes)
   rw [hr] at hr'
   cases hr'
   exact .inr ⟨(fun b e=>by cases e;exact Nat.le_refl _),⟨rfl,rfl,rfl,by simp,fun k hk=>heap_alloc_old w.drew _ hk⟩⟩
theorem C4 {k m:Nat} {xs news:List Value} {bytes:Nat} {zs:List Value} (hu:STy P t e sz) (hi:ITy P e zs bytes) (hzl:zs.length=sz) (hz:0<sz) (hx:ev E x=some v) (hy:ev E y=some u)
  (hown:w.ownsRow base e sz v k xs) (hsrc:Sl w sz u m news) (hone:news.all (·.oneCell')=true) (hlen:(k+m)*bytes≤140737488355328) (hm:k+m≤9223372036854775807) (hbase:base≤w.heap.size):
  Xw P n E (.call {callee:= .builtin .append,args:= #[x,y],argTypes:= #[t,t]}) ty w (fun v' w' =>w'.ownsRow base e sz v' (k+m) (xs++news)∧w.grownBy w' v.ownBlock∧(v'.ownBlock=v.ownBlock∨((∀b,v'.ownBlock=some b→w.heap.size≤b)∧Below w.heap.size w w'))):=fun a ha=>by
 subst hzl
 obtain ⟨i,h1,h2,h3,zv,h4,h5⟩:=hi.i
 obtain ⟨hl,ao,cap,rfl,hc1,hc2,hc3,hc4⟩:=hsrc
 have hzs:zv.cells.size=zs.length:=by rw [h5];simp
 cases ao with
 |none=>
  have h0:=hc3 rfl
  have hm0:m=0:=by omega
  subst hm0
  obtain rfl:news=[]:=List.eq_nil_of_length_eq_zero (by simpa using hl)
  subst h0
  have hr:=run_append_owned_none (P:=P) w base t ty e i zs.length hu.u h1 v k xs hown
  refine ⟨v,w,fun _ _ _ _=>by simp [execOp,resolve,invoke,builtin,ha.ev hx,ha.ev hy,hr],by simpa using hown,grown_refl _ _, .inl rfl⟩
 |some ad=>
  have hm' :k+m≤maxLen:=by unfold maxLen;omega
  have hone' :∀u ∈ news,u.oneCell' =true:=fun u hu=>List.all_eq_true.1 hone u hu
  obtain ⟨v',w',hr,g1,g2,g3⟩:=run_append_own (P:=P) w base t ty e i zv zs.length bytes hu.u h1 h4 h2 h3 hzs hz v k xs hown ad m cap news hl (hc4 ad rfl) hone' hm' hlen hbase
  exact ⟨v',w',fun _ _ _ _=>by simp [execOp,resolve,invoke,builtin,ha.ev hx,ha.ev hy,hr],g1,g2,append_fresh hu.u h1 h4 h2 h3 hz hown hl (hc4 ad rfl) hone' hm' hlen hr⟩
/-- The same for a list whose room may have been cut off. -/
theorem Xw.appendK {k m:Nat} {xs news:List Value} {bytes:Nat} {zs:List Value} (hu:STy P t e sz) (hi:ITy P e zs bytes) (hzl:zs.length=sz) (hz:0<sz) (hx:ev E x=some v) (hy:ev E y=some u)
  (hown:KRow w base e sz v k xs) (hsrc:Sl w sz u m news) (hone:news.all (·.oneCell')=true) (hlen:(k+m)*bytes≤140737488355328) (hm:k+m≤9223372036854775807) (hbase:base≤w.heap.size) (hm1:1≤m):
  Xw P n E (.call {callee:= .builtin .append,args:= #[x,y],argTypes:= #[t,t]}) ty w (fun v' w' =>w'.ownsRow base e sz v' (k+m) (xs++news)∧w.grownBy w' v.ownBlock∧(v'.ownBlock=v.ownBlock∨((∀b,v'.ownBlock=some b→w.heap.size≤b)∧Below w.heap.size w w'))):=fun a ha=>by
 have hsl:=hown.sl
 rcases hown with hown|⟨g,cur,rfl,h0,hb,h1,h2,h3⟩
 ·exact C4 hu hi hzl hz hx hy hown hsrc hone hlen hm hbase a ha
 ·subst hzl
  obtain ⟨i,i1,i2,i3,zv,i4,i5⟩:=hi.i
  obtain ⟨hl,ao,cap,rfl,hc1,hc2,hc3,hc4⟩:=hsrc
  have hzs:zv.cells.size=zs.length:=by rw [i5];simp
  cases ao with
  |none=>have:=hc3 rfl;omega
  |some ad=>
   obtain ⟨_,ao',cap',hv',_,_,_,hcl⟩:=hsl
   cases hv'
   obtain ⟨v',w',hr,r1,r2⟩:=run_append_arg_grows (P:=P) w t ty e i zv zs.length bytes hu.u i1 i4 i2 i3 hzs hz ⟨g,0,none⟩ k k xs (by rw [h3,List.length_take];omega) (hcl _ rfl) ad m cap news hl (hc4 ad rfl) (by omega) (by unfold maxLen;omega) hlen
   have hbel:Below w.heap.size w w' :=⟨r2.os,r2.tape,r2.output,r2.size,fun k hk=>r2.block k hk (by simp)⟩
   exact ⟨v',w',fun _ _ _ _=>by simp [execOp,resolve,invoke,builtin,ha.ev hx,ha.ev hy,hr],own_mono r1 hbase,below_grown hbel _, .inr ⟨fun b e=>(own_block r1 b e).1,hbel⟩⟩
theorem Xu.stK {c j:Nat} {T:TypeId} {xs:List Value} (hag:(sizeOf e).run P w= .ok 1 w) (hx:ev E x=some (elemPtr v j)) (hy:ev E y=some u) (hone:u.oneCell' =true) (h:KRow w base T sz v c xs) (hj:j<xs.length):
  Xu P n E (.store e x y) ty w (fun w' =>KRow w' base T sz v c (xs.set j u)∧w.grownBy w' v.ownBlock∧w'.heap.size=w.heap.size):=fun a ha=>by
 rcases h with h|⟨g,cur,rfl,h0,hb,h1,h2,rfl⟩
 ·obtain ⟨w',q1,q2,q3,q4⟩:=Cv hag hx hy hone h hj a ha
  exact ⟨w',q1, .inl q2,q3,q4⟩
 ·have hx' :ev E x=some (.pointer (some ⟨g,j,none⟩)):=by simpa [elemPtr,add_lit] using hx
  rw [List.length_take] at hj
  obtain ⟨w',q1,q2,q3,q4⟩:=Co (P:=P) (ty:=ty) hag hx' hy hone hb (by omega) a ha
  exact ⟨w',q1, .inr ⟨g,_,rfl,h0,q2,by simpa using h1,h2,by rw [List.take_set]⟩,q3,q4⟩
end
end Go.Dd

/-! The plain law of the sums: a register of 32 bits, fed byte by byte. No program in sight. -/
namespace Go.Dd.Crc

/-! ### Lists -/
end Go.Dd.Crc

/-! The step layer, part 13: numbers as bytes; copy; room made ahead. Nothing here names a program. -/
namespace Go.Dd
open Go Go.RowKit

/-! ### Plain -/
def le4 (a b c d:BitVec 8):BitVec 32:=a.setWidth 32|||b.setWidth 32<<<8|||c.setWidth 32<<<16|||d.setWidth 32<<<24
/-- Lists with their values, one behind the other. -/
theorem cat_step {α:Type} {ps:List (Value×List α)} {i:Nat} (h:i<ps.length):((ps.take (i+1)).map (·.2)).flatten=((ps.take i).map (·.2)).flatten++(ps.getD i default).2:=by
 rw [List.take_succ_eq_append_getElem h,List.map_append,List.flatten_append]
 congr 1
 simp [h]
theorem cat_le {α:Type} {ps:List (Value×List α)} (i:Nat):((ps.take i).map (·.2)).flatten.length≤(ps.map (·.2)).flatten.length:=by
 have h:ps.map (·.2)=(ps.take i).map (·.2)++(ps.drop i).map (·.2):=by rw [← List.map_append,List.take_append_drop]
 rw [h,List.flatten_append,List.length_append]
 omega
theorem getD_mem {α:Type} [Inhabited α] {l:List α} {i:Nat} (h:i<l.length):l.getD i default ∈ l:=by
 simp [h]
theorem rep_flat {α:Type} {enc:α→Value} {z:α}:∀(n:Nat),(List.replicate n [enc z]).flatten=(List.replicate n z).map enc
 |0=>rfl
 |n+1=>by rw [List.replicate_succ,List.replicate_succ,List.flatten_cons,rep_flat n];rfl
theorem cut_own {v:Value} {sz i j b:Nat} (h:(cut v sz i j).ownBlock=some b):v.ownBlock=some b:=by
 unfold cut at h
 split at h
 ·rename_i ao k cap
  cases ao with
  |none=>split at h<;>cases h
  |some a=>
   split at h
   ·exact h
   ·simp only [Value.ownBlock,Option.map_some,Option.some.injEq,add_block] at h ⊢
    exact h
 ·cases h

/-! ### Operations -/
section
variable {P : Program} {Q : Post} {n : Nat} {E : Env} {w : World} {l0 rest : List Oper} {ty : TypeId} {pos : String} {af : Array Edge}
variable {x y z : Operand} {v u : Value} {t s e : TypeId} {sz : Nat} {p q : BitVec 32}
theorem Ex.capNil (hu:STy P t e sz) (hx:ev E x=some (.slice none 0 0)):Ex P n E (.call {callee:= .builtin .cap,args:= #[x],argTypes:= #[t]}) ty w (.int .i64 0):=Ex.capS hu hx
/-- 'append' of so many noughts, onto nothing. -/
theorem Xw.grow0 {k bytes:Nat} {kq kn:IntKind} {tn:TypeId} {zs:List Value} (hu:STy P t e sz) (hi:ITy P e zs bytes) (hzl:zs.length=sz) (hz:0<sz) (htn:P.underlying tn=some (.int kn)) (hx:ev E x=some (.slice none 0 0)) (hy:ev E y=some (.int kq (k:Int))) (h0:0<k) (hb:k*bytes≤140737488355328) (hm:k≤4611686018427387904):
  Xw P n E (.call {callee:= .builtin .append,args:= #[x,y],argTypes:= #[t,tn]}) ty w (fun v w' =>∃cap xs,v= .slice (some ⟨w.heap.size,0,none⟩) k cap∧w'.ownsRow w.heap.size e sz v k xs∧Below w.heap.size w w'):=fun a ha=>by
 subst hzl
 obtain ⟨i,h1,h2,h3,zv,h4,h5⟩:=hi.i
 subst h3
 have hrun:=Lib.run_append_nil_zeros (P:=P) w t tn ty e i zv kq kn hu.u htn h1 h4 k h0 (by omega) (by omega) (by omega)
 have hcap:=grownCap_ge w k 0 e
 have hcm:=grownCap_le_maxLen w k 0 e (by unfold maxLen;omega)
 have hzs:zv.cells.size=zs.length:=by rw [h5];simp
 have hsz1:∀m,(Builtin.zeroCells zv.cells m).size=m*zs.length:=fun m=>by simp [Builtin.zeroCells,hzs]
 refine ⟨_,_,fun _ _ _ _=>by simp [execOp,resolve,invoke,builtin,ha.ev hx,ha.ev hy,hrun],grownCap w k 0 e,((Builtin.zeroCells zv.cells k++Builtin.zeroCells zv.cells (grownCap w k 0 e - k)).toList.take (k*zs.length)),rfl,⟨?_, .inr ⟨w.heap.size,_,_,rfl,Nat.le_refl _,heap_alloc_new w.drew _,hcap,hcm, ?_,rfl⟩⟩, ?_⟩
 ·simp only [List.length_take,Array.length_toList,Array.size_append,hsz1];omega
 ·simp only [Array.size_append,hsz1];rw [← Nat.add_mul];congr 1;omega
 ·exact ⟨rfl,rfl,rfl,by simp,fun k hk=>heap_alloc_old w.drew _ hk⟩
end
end Go.Dd
