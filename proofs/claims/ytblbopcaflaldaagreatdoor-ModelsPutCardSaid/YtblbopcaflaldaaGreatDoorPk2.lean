/- Texts of this proof, one behind the other: Rng, Box, Grow, Win, Book, Bkn, Open, Str, Ret, Rec, Win2, Pl, ShapesCode, TensorsCode, GraphCode, Twins, TensorsLaw, FindCode, GraphKind, IntLists, GraphShape, ProductsCode, WinCode, GraphNode. -/
import Derived.Test.YtblbopcaflaldaaGreatDoorPk1
import Derived.RangeFuncNested
import Derived.RangeFuncLeaves
import Derived.TacticsIn
import Derived.OrdersIn
import Derived.ProofKit
import Derived.OpenShut
import Derived.SizedLaws
import Derived.Laws.IdiomStrings
import Derived.Laws.BytesArg
import Derived.OwnWalk
import Derived.Defers
import Derived.Recover
import Derived.WideLaws
import Derived.Laws.Entries

namespace Go.Dd
open Go Go.RowKit
open List hiding get
def rnd (ro:Option Nat):Fence:={Fence.wide with round:=ro}
theorem Jk {ro:Option Nat} {n:Nat} {P:Program} {f:FuncId} {args:Array Value} {w:World} {R:Ending→World→Prop}:CallsIn (rnd ro) n P f args w R↔Calls P f args w R:=
 (callsIn_wide (n:=n) (P:=P) (f:=f) (args:=args) (w:=w) (R:=R))
theorem NS {ro:Option Nat} {n:Nat} {P:Program} {row:String} {args:Array Value} {w:World} {R:Value→World→Prop} (h:Rows P row args w R):RowsIn (rnd ro) n P row args w R:=
 fun c cs _=>let ⟨v,a,r,s⟩:=h c cs;⟨v,a,r,(stepsIn_wide (P:=P)).2 s⟩
def Ib (D:List Deferred) (Q:BZ):BZ:=fun e a w=>match e with
 | .outgrown=>False
 |e=>Q e {a with defers:=a.defers++D} w
theorem LC {D:List Deferred} {Q:BZ}:¬LetsOut (Ib D Q):=fun ⟨_,_,h⟩=>h
theorem GY (a:Act) (D:List Deferred) (d:Option Tmp) (v:Value):({a with defers:=a.defers++D}:Act).put d v={a.put d v with defers:=(a.put d v).defers++D}:=by
 cases d<;>rfl
theorem K2 (a:Act) (D:List Deferred):({a with defers:=D}:Act).eval=a.eval:=by
 funext x;cases x<;>rfl
def HA (o:Oper):Bool:=match o.op with
 | .defer _=>true
 |_=>false
def GZ (l:List Oper):Bool:=l.all fun o=> !HA o
theorem Oq {o:Oper} (h:HA o=false):∀c,o.op≠ .defer c:=fun c e=>by simp [HA,e] at h
theorem KU {ro:Option Nat} {o:Oper} (h:HA o=false) (ρ:Operand→Value):o.semAt ro ρ=execOp ρ o:=by
 cases ro with
 |none=>exact Oper.semAt_none ρ o
 |some l=>exact Oper.semAt_some l ρ o (Oq h)
section
variable {P : Program} {Q : BZ} {ro : Option Nat} {D : List Deferred} {m : Nat}
theorem R3 {t:BZ} {o:Oper} {a:Act} {w:World} {K b:Act→World→Prop} (q:∀c a w,t (.panic c) a w→Q (.panic c) a w) (u:HA o=false) (k:∀a w,K a w→b {a with defers:=a.defers++D} w) (h:o.wp P a w K (Ib D t)):
  o.wpIn (rnd ro) m P {a with defers:=a.defers++D} w b Q:=by
 refine ⟨fun _ _=>trivial, ?_⟩
 rw [show (rnd ro).round=ro from rfl,KU u,K2]
 unfold Oper.wp at h
 generalize (execOp a.eval o).run P w=r at h
 cases r with
 |ok nx w' =>
  cases nx with
  |value v=>show b _ _;rw [GY];exact k _ _ h
  |skip=>show b _ _;rw [GY];exact k _ _ h
  |«defer» d=>
   have j:K (({a with defers:=d::a.defers}:Act).put o.dst undef) w' :=h
   have s:=k _ _ j
   show b (({tmps:=a.tmps,defers:=d::(a.defers++D)}:Act).put o.dst undef) w'
   rw [← GY] at s
   exact s
  |enter f args=>
   refine ⟨fun h=>by simp [rnd,Fence.wide] at h,Jk.2 ?_⟩
   have j:Calls P f args w' _:=h
   refine j.mono fun e p i=> ?_
   cases e with
   |returned v=>show b _ _;rw [GY];exact k _ _ i
   |panicked chain=>exact q _ _ _ i
   |outgrown=>exact absurd i LC
  |row row args=>
   refine ⟨fun h=>by simp [rnd,Fence.wide] at h,NS ?_⟩
   have j:Rows P row args w' _:=h
   refine j.mono fun v p i=> ?_
   show b _ _;rw [GY];exact k _ _ i
  |_=>exact h.elim
 |halt x w' =>
  cases x with
  |panic v=>exact q _ _ _ h
  |_=>exact h.elim
theorem Kf {ops:Array Oper} {K:Act→World→Prop} {l2:List Oper} (d:∀(a:Act) (w:World),K {a with defers:=a.defers++D} w→wpListIn (rnd ro) m P ops Q l2 {a with defers:=a.defers++D} w):
  ∀(l:List Oper) (a:Act) (w:World),GZ l=true→wpList P ops (Ib D (CQ K Q)) l a w→wpListIn (rnd ro) m P ops Q (l++l2) {a with defers:=a.defers++D} w
 |[],a,w,_,h=>d a w h
 |o::l,a,w,hd,h=>by
  simp only [GZ,all_cons,Bool.and_eq_true,Bool.not_eq_true'] at hd
  have c:∀a w,wpList P ops (Ib D (CQ K Q)) l a w→wpListIn (rnd ro) m P ops Q (l++l2) {a with defers:=a.defers++D} w:=fun a w h=>Kf d l a w hd.2 h
  unfold wpList at h
  show wpListIn (rnd ro) m P ops Q (o::(l++l2)) {a with defers:=a.defers++D} w
  unfold wpListIn
  split at h
  ·rename_i b
   rw [if_pos b]
   rcases h with h|⟨_,h⟩
   ·exact R3 (fun _ _ _ h=>h) hd.1 c h
   ·exact absurd h LC
  ·rename_i b
   rw [if_neg b]
   refine ⟨fun _ _=>trivial, ?_⟩
   rw [GY]
   exact c _ _ h
theorem Pf {ops:Array Oper} (f:GZ ops.toList=true):∀(l:List Nat) (a:Act) (w:World),wpOps P ops (Ib D Q) l a w→wpOpsIn (rnd ro) m P ops Q l {a with defers:=a.defers++D} w
 |[],a,w,h=>h
 |i::l,a,w,h=>by
  have d:=Pf f l
  unfold wpOps at h
  unfold wpOpsIn
  cases ho:ops[i]? with
  |none=>simp only [ho] at h ⊢;exact d _ _ h
  |some o=>
   simp only [ho] at h ⊢
   have e:HA o=false:=by
    have k:=List.all_eq_true.1 f o (by obtain ⟨c,j⟩:=Array.getElem?_eq_some_iff.1 ho;rw [← j];exact Array.getElem_mem_toList c)
    simpa using k
   split at h
   ·rename_i b
    rw [if_pos b]
    rcases h with h|⟨_,h⟩
    ·exact R3 (fun _ _ _ h=>h) e d h
    ·exact absurd h LC
   ·rename_i b
    rw [if_neg b]
    refine ⟨fun _ _=>trivial, ?_⟩
    rw [GY]
    exact d _ _ h
end
structure CO (D:List Deferred) (n:Nat) (E:CR) (a:Act):Prop where
 dfr:a.defers=D
 size:a.tmps.size=n
 has:∀i v,get E i=some v→a.tmps[i]? =some v
theorem CO.fits {D:List Deferred} {n:Nat} {E:CR} {a:Act} (h:CO D n E a):CE n E {a with defers:=[]}:=⟨rfl,h.size,h.has⟩
theorem CO.back {D:List Deferred} {n:Nat} {E:CR} {a:Act} (h:CO D n E a):({({a with defers:=[]}:Act) with defers:=({a with defers:=[]}:Act).defers++D}:Act)=a:=by
 cases a;simp only [nil_append];rw [← h.dfr]
theorem CE.g {n:Nat} {E:CR} {a:Act} (h:CE n E a) (D:List Deferred):CO D n E {a with defers:=a.defers++D}:=⟨by simp [h.dfr],h.size,h.has⟩
theorem CE.g0 {n:Nat} {E:CR} {a:Act} (h:CE n E a):CO [] n E a:=⟨h.dfr,h.size,h.has⟩
theorem CO.ev {D:List Deferred} {n:Nat} {E:CR} {a:Act} (h:CO D n E a) {x:Operand} {v:Value} (b:Dd.ev E x=some v):a.eval x=v:=by
 have:=h.fits.ev b
 rwa [K2] at this
theorem CO.evs {D:List Deferred} {n:Nat} {E:CR} {a:Act} (h:CO D n E a) {l:List Operand} {vs:List Value} (b:Dd.evs E l=some vs):l.map a.eval=vs:=by
 have:=h.fits.evs b
 rwa [K2] at this
theorem CO.put {D:List Deferred} {n:Nat} {E:CR} {a:Act} (h:CO D n E a) {d:Nat} (v:Value) (b:Nat.blt d n=true):CO D n ((d,v)::E) (a.put (some d) v):=
 ⟨h.dfr,(h.fits.put v b).size,(h.fits.put v b).has⟩
theorem CO.sub {D:List Deferred} {n:Nat} {E F:CR} {a:Act} (h:CO D n E a) (hs:Q5 E F):CO D n F a:=⟨h.dfr,h.size,fun i v b=>h.has i v (hs.get i v b)⟩
def Cg (ro:Option Nat) (D:List Deferred) (P:Program) (Q:BZ) (n:Nat) (c:Code) (E:CR) (w:World):Prop:=∀a,CO D n E a→c.wpIn (rnd ro) 9 P Q a w
def Pg (D:List Deferred) (n:Nat) (E:CR) (R:Act→World→Prop) (w:World):Prop:=∀a,CO D n E a→R a w
def Lg (ro:Option Nat) (D:List Deferred) (P:Program) (l0:List Oper) (Q:BZ) (n:Nat) (l:List Oper) (E:CR) (w:World):Prop:=∀a,CO D n E a→wpListIn (rnd ro) 9 P l0.toArray Q l a w
section
variable {P : Program} {Q : BZ} {n : Nat} {E : CR} {w : World} {ro : Option Nat} {D : List Deferred}
theorem Ee {x y:Code} (h:Cg ro D P (CQ (fun a w=>y.wpIn (rnd ro) 9 P Q a w) Q) n x E w):Cg ro D P Q n (.seq x y) E w:=fun a b=>wpIn_seq (by have:=h a b;rwa [Jx] at this)
theorem Cg.block {b:Nat} {c:Code} (h:Cg ro D P (HM b Q) n c E w):Cg ro D P Q n (.block b c) E w:=fun a d=>wpIn_block (by have:=h a d;rwa [MV] at this)
theorem Cg.skip (h:Pg D n E (Q .normal) w):Cg ro D P Q n .skip E w:=fun a b=>wpIn_skip (h a b)
theorem Cg.exit {b:Nat} (h:Pg D n E (Q (.exit b)) w):Cg ro D P Q n (.exit b) E w:=fun a c=>wpIn_exit (h a c)
theorem Cg.ret (h:Pg D n E (Q .ret) w):Cg ro D P Q n .ret E w:=fun a b=>wpIn_ret (h a b)
theorem Cg.cond {c:Operand} {x y:Code} {t:Bool} (f:ev E c=some (.bool t)) (e:t=true→Cg ro D P Q n x E w) (d:t=false→Cg ro D P Q n y E w):Cg ro D P Q n (.cond c x y) E w:=
 fun a b=>wpIn_cond_split (b.ev f) (fun h=>e h a b) (fun h=>d h a b)
theorem Cg.condB {c:Operand} {x y:Code} {t:Bool} (f:ev E c=some (.bool t)) (b:Bool) (e:t=b) (h:Cg ro D P Q n (if b then x else y) E w):Cg ro D P Q n (.cond c x y) E w:=
 fun a d=>wpIn_cond (d.ev f) (by rw [e];exact h a d)
theorem Ef {c:Code} (h:Cg ro D P Q n c E w):Pg D n E (fun a w=>c.wpIn (rnd ro) 9 P Q a w) w:=h
theorem Dl {K:Act→World→Prop} (h:Pg D n E K w):Pg D n E (CQ K Q .normal) w:=h
theorem Gc {K:Act→World→Prop} {a:Nat} (h:Pg D n E (Q (.exit a)) w):Pg D n E (CQ K Q (.exit a)) w:=h
theorem F5 {a:Nat} (h:Pg D n E (Q .normal) w):Pg D n E (HM a Q .normal) w:=h
theorem Pg.blkHit {b:Nat} (h:Pg D n E (Q .normal) w):Pg D n E (HM b Q (.exit b)) w:=fun a c=>by
 show if b=b then Q .normal a w else Q (.exit b) a w
 rw [if_pos rfl];exact h a c
theorem Cg.loop {S:Type} (j:S→CR) (I:S→World→Prop) (m:S→Nat) {c:Code} (z:S) (U:Q5 E (j z)) (M:I z w)
  (q:∀s w,I s w→Cg ro D P (CQ (fun i h=>∃f,CO D n (j f) i∧I f h∧m f<m s) Q) n c (j s) w):Cg ro D P Q n (.loop c) E w:=by
 intro a ha
 have key:∀k s a w,m s=k→CO D n (j s) a→I s w→(Code.loop c).wpIn (rnd ro) 9 P Q a w:=by
  intro k s a w hk v V
  refine wpIn_loop (fun i h=>∃f,CO D n (j f) i∧I f h) (fun i h=>Classical.epsilon fun k=>∃f,CO D n (j f) i∧I f h∧m f=k∧∀d,CO D n (j d) i→I d h→k≤m d) ⟨s,v,V⟩ ?_
  have o:∀i h,(∃f,CO D n (j f) i∧I f h)→∃k,∃f,CO D n (j f) i∧I f h∧m f=k∧∀d,CO D n (j d) i→I d h→k≤m d:=by
   intro i h ⟨f,u,t⟩
   have:∀b f,CO D n (j f) i→I f h→m f≤b→∃k,∃f,CO D n (j f) i∧I f h∧m f=k∧∀d,CO D n (j d) i→I d h→k≤m d:=by
    intro b
    induction b with
    |zero=>intro f u t Z;exact ⟨m f,f,u,t,rfl,fun d _ _=>by omega⟩
    |succ b ih=>
     intro f u t Z
     by_cases hex:∃d,CO D n (j d) i∧I d h∧m d≤b
     ·obtain ⟨d,p,r,G⟩:=hex;exact ih d p r G
     ·refine ⟨m f,f,u,t,rfl,fun d p r=> ?_⟩
      rcases Nat.lt_or_ge (m d) (m f) with L|x
      ·exact absurd ⟨d,p,r,by omega⟩ hex
      ·exact x
   exact this (m f) f u t (AU _)
  intro J C A
  obtain ⟨Y,X,T,g3,g4⟩:=Classical.epsilon_spec (o J C A)
  have H:=q Y C T J X
  rw [Jx] at H
  refine Code.wpIn_mono (fun e a2 w2 F=> ?_) H
  cases e with
  |normal=>
   obtain ⟨y,p,r,G⟩:=F
   refine ⟨⟨y,p,r⟩, ?_⟩
   obtain ⟨s3,r1,r2,r3,N⟩:=Classical.epsilon_spec (o a2 w2 ⟨y,p,r⟩)
   have:=N y p r
   rw [← g3]
   omega
  |_=>exact F
 exact key _ z a w rfl (ha.sub U) M
theorem Pg.next {S:Type} {b:S→CR} {I:S→World→Prop} {m:S→Nat} {k:Nat} (a:S) (c:Q5 E (b a)) (e:I a w) (d:m a<k):Pg D n E (fun i f=>∃a,CO D n (b a) i∧I a f∧m a<k) w:=
 fun _ h=>⟨a,h.sub c,e,d⟩
theorem Pg.low (h:Pg D n E (Q .normal) w):Pw n E (Ib D Q .normal) w:=fun a b=>h _ (b.g D)
theorem Qb {D:List Deferred} {Q:BZ}:Ib D Q=Ib D (CQ (fun a w=>Q .normal a w) Q):=by
 funext e a w;cases e<;>rfl
theorem Dr {e:Nat} {l:List Oper} (d:GZ l=true) (h:Lw P l (Ib D Q) n l E w):Cg ro D P Q n (.region e l.toArray false) E w:=fun a b=>by
 have c:=h _ b.fits
 rw [← b.back]
 rw [Qb] at c
 have:=Kf (ro:=ro) (m:=9) (l2:=[]) (fun a w h=>h) l _ w d c
 rw [append_nil] at this
 exact wpIn_region_lit this
theorem Mp {d:Nat} {l:List Oper} {a:Act} (e:P.follows .mixedOrders=true) (c:GZ l=true) (f:CO D n E a)
  (h:wpAny P .any l.toArray (Ib D Q) l.length (Array.replicate l.length false) {a with defers:=[]} {w with drawn:=w.drawn+1}):(Code.region d l.toArray true).wpIn (rnd ro) 9 P Q a w:=
 wpIn_region_draw fun t=>by
  simp only [Region.schedule,e,Bool.true_or,if_true]
  have i:=wpAny_sound l.toArray.size t _ _ _ (by simpa using h)
  have b:=Pf (ro:=ro) (m:=9) (by simpa using c) _ _ _ i
  rw [f.back] at b
  exact b
theorem Cg.quiet {j:Nat} {l:List Oper} (k:P.follows .mixedOrders=true) (i:GZ l=true) (e:Region.lexB .any l.toArray=true) (h:Qw P l (Below w.heap.size w) (fun d=>∀b,Below w.heap.size w b→Ib D Q .normal d b) n l E):
  Cg ro D P Q n (.region j l.toArray true) E w:=fun a f=>by
 refine Mp k i f ?_
 simp only [Region.lexB,Bool.and_eq_true] at e
 have:=wpAnyQ_lex (C:=Below w.heap.size w) (md:= .any) e.1 l.toArray.toList 0 (Array.replicate l.toArray.size false) _ (by simp) (by simpa using e.2) (by simpa using h _ f.fits)
 have o:=wpAny_of_quiet (Q:=fun d=>∀b,Below w.heap.size w b→Ib D Q .normal d b) (Q' :=Ib D Q) (fun _ b c h=>h b c) _ _ _ _ (G9 w) this
 simpa using o
theorem Fz {b:Nat} {l:List Oper} (h:Lg ro D P l Q n l E w):Cg ro D P Q n (.region b l.toArray false) E w:=fun a c=>wpIn_region_lit (h a c)
theorem Lg.plain {l0 l:List Oper} (k:Nat) (c:GZ (l.take k)=true) (h:Lw P l0 (Ib D (CQ (fun a w=>wpListIn (rnd ro) 9 P l0.toArray Q (l.drop k) a w) Q)) n (l.take k) E w):Lg ro D P l0 Q n l E w:=fun a b=>by
 have:=Kf (ro:=ro) (m:=9) (l2:=l.drop k) (fun a w h=>h) (l.take k) _ w c (h _ b.fits)
 rwa [b.back,take_append_drop] at this
theorem Lg.nil {l0:List Oper} (h:Pg D n E (Q .normal) w):Lg ro D P l0 Q n [] E w:=fun a b=>wpListIn_nil (h a b)
theorem Gn {l0 l:List Oper} (h:Lg ro D P l0 Q n l E w):Pg D n E (CQ (fun a w=>wpListIn (rnd ro) 9 P l0.toArray Q l a w) Q .normal) w:=h
end
def Yd (P:Program) (l:Nat) (args:List Value) (W:World) (R:Bool→World→Prop):Prop:=YieldAt Fence.wide 9 P l args.toArray W fun e w' =>∃b,e= .returned (.bool b)∧R b w'
theorem PF {ro:Option Nat} {m a:Nat} {P:Program} {l:Nat} {f:FuncId} {tmps:Array Value} {assign body:Code} {w:World} {R:Ending→World→Prop} (h:RoundIn Fence.wide m P l f tmps assign body w R):RoundIn (rnd ro) a P l f tmps assign body w R:=
 ⟨trivial,fun c cs _=>h.2 c cs (room_wide _)⟩
section
variable {P : Program} {Q : BZ} {n : Nat} {E : CR} {w : World} {ro : Option Nat} {D : List Deferred} {l0 rest : List Oper} {ty : TypeId} {pos : String} {af : Array Edge}
theorem KF {a:Act} {y:Operand} {xs:List Operand} {vs:List Value} {ts:Array TypeId} {d:Option Nat} {g:Option (Nat×Bool)} {l:Nat} {r:Next} (c:a.eval y= .func (.yield l) #[] #[]) (f:xs.map a.eval=vs) (e:(Instr.yield l vs.toArray).run P w= .ok r w):
  (execOp a.eval ⟨d, .call {callee:= .value y,args:=xs.toArray,argTypes:=ts},ty,pos,af,g⟩).run P w= .ok r w:=by
 have b:xs.toArray.map a.eval=vs.toArray:=by rw [map_toArray,f]
 simp [execOp,resolve,b,c,Deferred.ofValue,invoke,e]
theorem Lg.yield {d l:Nat} {y:Operand} {xs:List Operand} {vs:List Value} {ts:Array TypeId} {R:Bool→World→Prop} (j:ev E y=some (.func (.yield l) #[] #[])) (t:evs E xs=some vs) (i:Nat.blt d n=true) (h:Yd P l vs w R)
  (k:∀b c,R b c→Lg ro D P l0 Q n rest ((d, .bool b)::E) c):Lg ro D P l0 Q n (⟨some d, .call {callee:= .value y,args:=xs.toArray,argTypes:=ts},ty,pos,af,none⟩::rest) E w:=
 fun a f=>wpListIn_plain rfl fun K r=>by
  obtain ⟨fn,tmps,assign,body,q,p⟩:=h
  refine ⟨fun _ _=>trivial, ?_⟩
  rw [show (rnd ro).round=ro from rfl,KU rfl,KF (f.ev j) (f.evs t) q]
  refine ⟨fun h=>by simp [rnd,Fence.wide] at h, ?_⟩
  refine (PF p).mono fun e c ⟨b,o,s⟩=> ?_
  subst o
  exact r _ _ (k b c s _ (f.put _ i))
end
section
variable {P : Program} {Q : BZ} {ro : Option Nat} {D : List Deferred} {ops : Array Oper} {md : Region.Mode} {m : Nat}
end
def Nc (B:Nat) (A A' :World):Prop:=∃r,A.grownBy A' r∧∀b,r=some b→B≤b∧∃o:Obj,A.heap[b]? =some o∧o.isCells=false
def VP (wr:Option Nat) (A A' :World):Prop:=∃r,A.grownBy A' r∧(r=none∨r=wr)
theorem NY {B l:Nat} {A:World} {r:Loop} (o:Obj) (a:B≤l) (h:A.heap[l]? =some (.loop r)):Nc B A (A.putObj l o):=⟨some l,grownBy_putObj' A l o,fun b e=>by cases e;exact ⟨a,_,h,rfl⟩⟩
theorem MH (B:Nat) (A:World) (o:Obj):Nc B A (A.alloc o):=⟨none,World.grownBy_alloc A o none,fun b e=>by cases e⟩
theorem Nc.mono {B a:Nat} {A d:World} (h:Nc B A d) (i:a≤B):Nc a A d:=by
 obtain ⟨r,f,c⟩:=h
 exact ⟨r,f,fun b e=>⟨Nat.le_trans i (c b e).1,(c b e).2⟩⟩
theorem Nc.blk {B:Nat} {A d:World} (h:Nc B A d) {k:Nat} {o:Obj} (c:A.heap[k]? =some o) (j:o.isCells=true):d.heap[k]? =A.heap[k]? :=by
 obtain ⟨r,i,f⟩:=h
 refine i.block k (Array.getElem?_eq_some_iff.1 c).1 fun e=> ?_
 obtain ⟨_,p,b,a⟩:=f k e.symm
 rw [c] at b;cases b
 rw [j] at a;cases a
theorem Nc.below {B:Nat} {A b:World} (h:Nc B A b) {a:Nat} (f:a≤B) (i:a≤A.heap.size):Below a A b:=by
 obtain ⟨r,d,c⟩:=h
 exact EU d i fun k e=>Nat.le_trans f (c k e).1
theorem _root_.Go.RowKit.Below.nc {B a:Nat} {W A b:World} (h:Below a W A) (k:Nc B A b) (c:a≤B) (d:a≤W.heap.size):Below a W b:=h.trans (k.below c (Nat.le_trans d h.size))
theorem AP.nc {B:Nat} {w a:World} {b:Nat} {T:TypeId} {cs:List Value} (h:AP w b T cs) (k:Nc B w a):AP a b T cs:=h.keep (k.blk h rfl)
theorem NW {B:Nat} {w d:World} {base:Nat} {e:TypeId} {sz:Nat} {v:Value} {n:Nat} {xs:List Value} (h:w.ownsRow base e sz v n xs) (k:Nc B w d):d.ownsRow base e sz v n xs:=by
 obtain ⟨f,c⟩:=h
 rcases c with c|⟨b,cap,a,rfl,o,i,j⟩
 ·exact ⟨f, .inl c⟩
 ·exact ⟨f, .inr ⟨b,cap,a,rfl,o,(k.blk i rfl).trans i,j⟩⟩
theorem Vt {B:Nat} {W w a:World} (h:KeepsFrom B W w) (k:Below w.heap.size w a):KeepsFrom B W a:=h.trans ⟨k.size,fun i o _ b _=>(k.block i (Array.getElem?_eq_some_iff.1 b).1).trans b⟩
theorem _root_.Go.KeepsFrom.bs {B:Nat} {W w a:World} (h:KeepsFrom B W w) (k:Below w.heap.size w a):KeepsFrom B W a:=Vt h k
theorem _root_.Go.KeepsFrom.blk {B b:Nat} {W w c:World} {T:TypeId} {cs:List Value} (h:KeepsFrom B W w) (d:AP w b T cs) (k:w.grownBy c (some b)):KeepsFrom B W c:=
 h.trans ⟨k.size,fun i o _ a f=>(k.block i (Array.getElem?_eq_some_iff.1 a).1 (fun e=>by cases e;rw [show w.heap[b]? =_ from d] at a;cases a;cases f)).trans a⟩
theorem _root_.Go.KeepsFrom.own {B base:Nat} {W w c:World} {e:TypeId} {sz k:Nat} {v:Value} {xs:List Value} (h:KeepsFrom B W w) (f:w.ownsRow base e sz v k xs) (g:w.grownBy c v.ownBlock):KeepsFrom B W c:=
 h.trans ⟨g.size,fun i o _ a p=>(g.block i (Array.getElem?_eq_some_iff.1 a).1 (fun e=>by
  rcases f.2 with ⟨rfl,_⟩|⟨b,cap,d,rfl,_,j,_⟩
  ·simp [Value.ownBlock] at e
  ·simp only [Value.ownBlock,Option.some.injEq] at e
   subst e
   rw [j] at a;cases a;cases p)).trans a⟩
def Kp (Nd:Nat→Prop) (w w' :World):Prop:=w.heap.size≤w'.heap.size∧∀b,Nd b→b<w.heap.size→w'.heap[b]? =w.heap[b]?
theorem Kp.refl {Nd:Nat→Prop} {w:World}:Kp Nd w w:=⟨AU _,fun _ _ _=>rfl⟩
theorem Kp.trans {Nd:Nat→Prop} {a b c:World} (h:Kp Nd a b) (k:Kp Nd b c):Kp Nd a c:=⟨Nat.le_trans h.1 k.1,fun i e d=>(k.2 i e (Nat.lt_of_lt_of_le d h.1)).trans (h.2 i e d)⟩
theorem Kp.grown {Nd:Nat→Prop} {a b c:World} (h:Kp Nd a b) {r:Option Nat} (g:b.grownBy c r) (f:∀i,r=some i→¬Nd i):Kp Nd a c:=h.trans ⟨g.size,fun i j d=>g.block i d fun e=>f i e.symm j⟩
theorem Kp.bs {Nd:Nat→Prop} {a b c:World} (h:Kp Nd a b) (g:Below b.heap.size b c):Kp Nd a c:=h.trans ⟨g.size,fun i _ d=>g.block i d⟩
theorem Kp.nc {Nd:Nat→Prop} {B:Nat} {a b c:World} (h:Kp Nd a b) (g:Nc B b c) (j:∀i,Nd i→i<B):Kp Nd a c:=by
 obtain ⟨r,f,d⟩:=g
 exact h.grown f fun i e k=>by have:=(d i e).1;have:=j i k;omega
def Sq {α:Type} (P:Program) (gf:FuncId) (lf lb:List Value) (encs:α→List Value) (Nd:Nat→Prop) (wr:Option Nat) (xs:List α) (w:World):Prop:=
 ∀(l:Nat) (J:List α→World→Prop) (W:World),Below w.heap.size w W→(∀pre A A',J pre A→VP wr A A' →J pre A')→
  (∀pre x A,J pre A→pre++[x]<+:xs→Yd P l (encs x) A fun b A' =>b=true∧J (pre++[x]) A' ∧Kp Nd A A')→J [] W→
  AK P gf (lf++ .func (.yield l) #[] #[]::lb) W fun _ A=>J xs A
def VI (B:Nat) (Nd:Nat→Prop) (W:World) (K:World→Prop):BZ:=fun e _ w' =>match e with
 | .normal=>KeepsFrom B W w' ∧Kp Nd W w' ∧K w'
 |_=>False
def VL (B:Nat) (Nd:Nat→Prop) (l:Nat) (P:Program) (body:Code) (W:World) (K:World→Prop):BZ:=fun e a w=>match e with
 | .normal=>KeepsFrom B W w∧Kp Nd W w∧∀w2,Nc l w w2→w2.heap.size=w.heap.size→(∃r,w2.heap[l]? =some (.loop r))→body.wpIn (rnd (some l)) 9 P (VI B Nd w2 K) a w2
 |_=>False
section
variable {P : Program} {n : Nat} {E : CR} {w W : World} {B l : Nat} {Nd : Nat → Prop} {body : Code} {K : World → Prop}
theorem Pg.asg (i:KeepsFrom B W w) (d:Kp Nd W w) (h:∀b,Nc l w b→b.heap.size=w.heap.size→(∃r,b.heap[l]? =some (.loop r))→Cg (some l) [] P (VI B Nd b K) n body E b):Pg [] n E (VL B Nd l P body W K .normal) w:=
 fun a c=>⟨i,d,fun b e f j=>h b e f j a c⟩
theorem Pg.rnd {D:List Deferred} (a:KeepsFrom B W w) (b:Kp Nd W w) (h:K w):Pg D n E (VI B Nd W K .normal) w:=fun _ _=>⟨a,b,h⟩
end
abbrev KH (fn:FuncId) (tmps:Array Value) (ps:Array Tmp) (assign body:Code) (dD:Nat) (st:LoopState):Loop:={state:=st,pending:=none,fn,tmps,params:=ps,assign,body,defers:=dD}
theorem UY {α:Type} {P:Program} {l j:Nat} {fn:FuncId} {tmps:Array Value} {ps:Array Tmp} {assign body:Code} {B:Nat} {Nd:Nat→Prop} {xs:List α} {encs:α→List Value} (X:∀x,(encs x).length=ps.size) {I:List α→World→Prop} {Ex:World→Prop} (i:B≤l) (G:∀b,Nd b→b<l)
  (hI:∀a A z,I a A→Nc B A z→I a z) (s:∀A z,Ex A→KeepsFrom B A z→Ex z) (L:∀A o,Ex A→Ex (A.putObj l o))
  (c:∀a x W,I a W→a++[x]<+:xs→(∃r,W.heap[l]? =some (.loop r))→assign.wpIn (rnd (some l)) 9 P (VL B Nd l P body W (I (a++[x]))) {tmps:=(ps.zip (encs x).toArray).foldl (fun t (p,v)=>t.setIfInBounds p v) tmps,defers:=[]} W)
  (a:List α) (x:α) (W:World) (h:I a W∧W.heap[l]? =some (.loop (KH fn tmps ps assign body j .ready))∧Ex W) (y:a++[x]<+:xs):
  Yd P l (encs x) W fun b S=>b=true∧(I (a++[x]) S∧S.heap[l]? =some (.loop (KH fn tmps ps assign body j .ready))∧Ex S)∧Kp Nd W S:=by
 obtain ⟨hi,U,V⟩:=h
 refine ⟨fn,_,assign,body,run_yield U (by simpa using X x),roundIn_of_wpIn (F:=Fence.wide) trivial ?_⟩
 refine wpIn_mono (c a x W hi y ⟨_,U⟩) ?_
 rintro e a1 T N
 cases e with
 |normal=>
  obtain ⟨k,Z,N⟩:=N
  have f:=k.same l _ i U rfl
  have q:=(Array.getElem?_eq_some_iff.1 f).1
  refine ⟨_,run_beginRound f O, ?_⟩
  have u:(T.putObj l (.loop (KH fn tmps ps assign body j .busy))).heap[l]? =some (.loop (KH fn tmps ps assign body j .busy)):=World.putObj_heap_same q
  have H:Nc l T (T.putObj l (.loop (KH fn tmps ps assign body j .busy))):=NY _ (AU _) f
  refine wpIn_mono (N _ H (by simp) ⟨_,u⟩) ?_
  rintro e a3 W3 hp
  cases e with
  |normal=>
   obtain ⟨J,hb3,Y⟩:=hp
   have d:=J.same l _ i u rfl
   have M:=(Array.getElem?_eq_some_iff.1 d).1
   have C:Nc l W3 (W3.putObj l (.loop (KH fn tmps ps assign body j .ready))):=NY _ (AU _) d
   refine ⟨_,_,run_endRound none d,true,rfl,rfl,⟨hI _ _ _ Y (C.mono i),World.putObj_heap_same M,L _ _ (s _ _ (L _ _ (s _ _ V k)) J)⟩, ?_⟩
   exact (((Z.nc H G).trans hb3).nc C G)
  |_=>exact hp.elim
 |_=>exact N.elim
def binds:List Nat→List Value→CR→CR
 |p::ps,v::vs,E=>binds ps vs ((p,v)::E)
 |_,_,E=>E
theorem K1 {n:Nat}:∀(pl:List Nat) (vs:List Value) (E:CR) (a:Act),pl.all (Nat.blt · n)=true→CE n E a→CE n (binds pl vs E) {a with tmps:=(pl.zip vs).foldl (fun t (p,v)=>t.setIfInBounds p v) a.tmps}
 |[],_,_,_,_,h=>h
 |_::_,[],_,_,_,h=>h
 |p::ps,v::vs,E,a,hp,h=>by
  simp only [all_cons,Bool.and_eq_true] at hp
  exact K1 ps vs ((p,v)::E) (a.put (some p) v) hp.2 (h.put v hp.1)
section
variable {P : Program} {Q : BZ} {n : Nat} {E : CR} {w : World} {D : List Deferred} {α : Type} {g : Operand} {pl : List Nat} {assign body : Code} {gf : FuncId} {lf lb : List Value} {encs : α → List Value} {Nd : Nat → Prop} {wr : Option Nat} {xs : List α}
theorem KE {a : Act} {l : Nat} {W : World} (e : ∃ fn, P.funcs[gf]? = some fn ∧ (fn.name == "runtime.NumGoroutine") = false ∧ fn.body.isSome = true) (c : a.eval g = .func (.func gf) lf.toArray lb.toArray) :
  ∃d:Deferred,(resolve a.eval (rangeCall g l) 0).run P W= .ok d W∧(∀b,Target.leads P W d.target d.args=some b→(rnd none).fn b)∧(invoke d.target d.args).run P W= .ok (.enter gf (lf++ .func (.yield l) #[] #[]::lb).toArray) W:=by
 refine ⟨_,by simp only [resolve,c];simp [go_sem];rfl,fun _ _=>trivial, ?_⟩
 simp [invoke,go_sem,EY (P:=P) (w:=W) e]
theorem Cg.range (hg:ev E g=some (.func (.func gf) lf.toArray lb.toArray)) (M:Sq P gf lf lb encs Nd wr xs w) (Z:∀b,Nd b→b<w.heap.size) (Y:∀x,(encs x).length=pl.length) (N:pl.all (Nat.blt · n)=true) (I:List α→World→Prop)
  (G:∀b,wr=some b→b<w.heap.size) (h0:I [] w) (H:∀c A s,I c A→Nc w.heap.size A s→I c s) (hW:∀c A s,I c A→VP wr A s→I c s)
  (q:∀l c x W,w.heap.size≤l→I c W→c++[x]<+:xs→(∃r,W.heap[l]? =some (.loop r))→Cg (some l) [] P (VL w.heap.size Nd l P body W (I (c++[x]))) n assign (binds pl (encs x) E) W)
  (u:∀d W,w.heap.size≤d→I xs W→W.heap[d]? =some (.deferred (some []))→Pg ({target:= .collected d,args:= #[]}::D) n E (Q .normal) W):Cg none D P Q n (.rangeFunc g pl.toArray assign body) E w:=fun a F=>by
 refine wpIn_rangeFunc ?_
 intro fn hfn
 rw [show (rnd none).round=none from rfl]
 obtain ⟨j,i⟩:∃j,(w.alloc (.deferred (some []))).alloc (.loop (KH fn a.tmps pl.toArray assign body w.heap.size .ready))=j:=⟨_,rfl⟩
 have T:j.heap[w.heap.size+1]? =some (.loop (KH fn a.tmps pl.toArray assign body w.heap.size .ready)):=by
  rw [← i];have:=World.alloc_heap_new (w.alloc (.deferred (some []))) (.loop (KH fn a.tmps pl.toArray assign body w.heap.size .ready));rwa [World.size_alloc] at this
 have hK1:j.heap[w.heap.size]? =some (.deferred (some [])):=by
  rw [← i];exact (Below.heap_alloc _ _ _ (by simp)).trans (World.alloc_heap_new w _)
 have U:I [] j:=by rw [← i];exact H _ _ _ (H _ _ _ h0 (MH _ _ _)) (MH _ _ _)
 have hb1:Below w.heap.size w j:=by
  rw [← i];exact ((Below.refl _ w).alloc (AU _) _).alloc (by simp) _
 have p:=M (w.heap.size+1) (fun c W=>I c W∧W.heap[w.heap.size+1]? =some (.loop (KH fn a.tmps pl.toArray assign body w.heap.size .ready))∧W.heap[w.heap.size]? =some (.deferred (some []))) j hb1
  (fun c A s ⟨h1,h2,h3⟩ t=>by
   refine ⟨hW c A s h1 t, ?_, ?_⟩
   ·obtain ⟨r,y,f⟩:=t
    refine (y.block _ (Array.getElem?_eq_some_iff.1 h2).1 fun e=> ?_).trans h2
    rcases f with f|f
    ·rw [f] at e;cases e
    ·have:=G _ (f ▸ e.symm);omega
   ·obtain ⟨r,y,f⟩:=t
    refine (y.block _ (Array.getElem?_eq_some_iff.1 h3).1 fun e=> ?_).trans h3
    rcases f with f|f
    ·rw [f] at e;cases e
    ·have:=G _ (f ▸ e.symm);omega)
  (fun c x A h z=>UY (by simpa using Y) (by omega) (fun b hb=>by have:=Z b hb;omega) H (fun A s h k=>k.same _ _ (AU _) h rfl) (fun A o h=>(World.putObj_heap_other (by omega)).trans h)
   (fun c x W X J f=>by
    have C:=K1 pl (encs x) E _ N F.fits
    have:=q (w.heap.size+1) c x W (by omega) X J f _ C.g0
    simpa using this) c x A h z)
  ⟨U,T,hK1⟩
 obtain ⟨d,V,L,S⟩:=KE (P:=P) (l:=w.heap.size+1) (W:=j) (lf:=lf) (lb:=lb) p.1 (F.ev hg)
 refine ⟨w.heap.size+1,[{target:= .collected w.heap.size,args:= #[]}],j,d,j,gf,_,j, ?_,V,L,S,fun h=>by simp [rnd,Fence.wide] at h,Jk.2 (p.2.mono ?_)⟩
 ·rw [← i];exact run_enterLoop_outer _ _ _ _ _
 ·rintro e W2 ⟨v,rfl,X,J,hk⟩
  refine ⟨none,_,run_endLoop J (by simp), ?_⟩
  refine u w.heap.size _ (AU _) (H _ _ _ X (NY _ (by omega) J)) ((World.putObj_heap_other (by omega)).trans hk) _ ⟨?_,F.size,F.has⟩
  show _++_=_
  rw [F.dfr];rfl
end
section
variable {P : Program} {n : Nat} {E : CR} {w : World} {ro : Option Nat} {D : List Deferred}
end
def US (P:Program) (fn:Func) (R:Value→World→Prop):BZ:=fun e a w=>match e with
 | .panic _=>False
 |e=>bodyPostM Fence.wide 9 P fn (fun e w' =>∃v,e= .returned v∧R v w') e a w
section
variable {P : Program} {n : Nat} {E : CR} {w : World} {fn : Func} {R : Value → World → Prop}
theorem Fv {f : FuncId} {c : Code} {args : List Value} (k : P.funcs[f]? = some fn) (b : (fn.name == "runtime.NumGoroutine") = false) (p : fn.body = some c)
  (s:fn.ntmps=n) (r:Nat.ble args.length n=true) (h:Cg none [] P (US P fn R) n c (params 0 args) w):AK P f args w R:=by
 refine ⟨⟨fn,k,b,by simp [p]⟩,callsIn_wide.1 (callsIn_of_wp_marks (n:=9) (F:=Fence.wide) k p trivial (wpIn_mono (h _ ⟨rfl, ?_,fun i v q=> ?_⟩) fun e a w o=> ?_) O)⟩
 ·have:args.length≤n:=Nat.le_of_ble_eq_true r
  simp [s];omega
 ·have j:=(EP args 0 i v q).2
  simp only [Nat.sub_zero] at j
  have d:i<args.length:=by
   rcases Nat.lt_or_ge i args.length with h|h
   ·exact h
   ·simp [getElem?_eq_none h] at j
  rw [Array.getElem?_append]
  simp only [size_toArray,d,if_true,getElem?_toArray]
  exact j
 ·cases e<;>first|exact o|exact o.elim
theorem Pg.close {d:Nat} (f:w.heap[d]? =some (.deferred (some []))) (h:∀c,Nc d w c→c.heap.size=w.heap.size→Pw n E (SJ P fn R .ret) c):Pg [{target:= .collected d,args:= #[]}] n E (US P fn R .ret) w:=fun a i=>by
 have o:Nc d w (w.putObj d (.deferred none)):=⟨some d,grownBy_putObj' w d _,fun b e=>by cases e;exact ⟨AU _,_,f,rfl⟩⟩
 obtain ⟨_,v,k,j⟩:=h _ o (by simp) _ i.fits
 show LeavesInM _ _ _ _ _ _ a.defers _ _
 rw [i.dfr]
 exact ⟨by simp, .inl ⟨d,_,rfl,run_takeDeferred f,v,k,j⟩⟩
theorem Pg.closeE (h:Pw n E (SJ P fn R .normal) w):Pg [] n E (US P fn R .normal) w:=fun a b=>by
 obtain ⟨_,v,d,c⟩:=h _ b.fits
 show LeavesInM _ _ _ _ _ _ a.defers _ _
 rw [b.dfr]
 exact ⟨v,d,c⟩
end
end Go.Dd

namespace Go.Dd
open Go Go.RowKit List
section
variable {P : Program} {Q : BZ} {n : Nat} {E : CR} {w : World} {l : List Oper}
end

abbrev VK:=Nat×List Nat×(Value→World→Prop)
def Ke:List VK→Nat→Value→World→Prop
 |[],_=>fun _ _=>True
 |(j,_,p)::r,i=>match Nat.beq j i with
  |true=>p
  |false=>Ke r i
section
variable {P : Program} {Q : BZ} {n : Nat} {E : CR} {w : World} {l0 : List Oper}
variable {C : World → Prop}
end

def He (rows Ke step:Int):Int:=if rows<Ke then 0 else (rows - Ke) / step+1
def Hi (t w:List Int) (step pad:Int):List Int:=[w.getD 0 default,He (t.getD 1 default+2*pad) (w.getD 2 default) step,He (t.getD 2 default+2*pad) (w.getD 3 default) step]
def EW (t w:List Int) (step pad:Int):Bool:= !Shapes.ok t|| !Shapes.ok w||decide (step<1)||decide (8<step)||decide (pad<0)||decide (8<pad)
def JC (t w:List Int):Bool:=decide (t.length=3) && decide (w.length=4) && decide (t.getD 0 default=w.getD 1 default)
def CI (t w:List Int) (step pad:Int):Int:=if EW t w step pad then 1 else if JC t w && Shapes.ok (Hi t w step pad) then 0 else 10
def HR (t:List Int) (wide:Int):List Int:=[t.getD 0 default,He (t.getD 1 default) wide wide,He (t.getD 2 default) wide wide]
def GQ (t:List Int) (wide:Int):Bool:= !Shapes.ok t||decide (wide<1)||decide (64<wide)
def Hp (t:List Int) (wide:Int):Bool:=decide (t.length=3) && decide (wide≤t.getD 1 default) && decide (wide≤t.getD 2 default)
def CK (t:List Int) (wide:Int):Int:=if GQ t wide then 1 else if Hp t wide then 0 else 10
theorem CM {s:List Int} (h:Shapes.good s) {k:Nat} (a:k<s.length):1≤s.getD k default∧s.getD k default≤64:=by
 have:s.getD k default ∈ s:=by simp [a]
 exact h _ this
end Go.Dd

namespace Go.Dd
open Go Go.RowKit
open List hiding all
structure BR (S:Nat→Prop) (w w' :World):Prop where
 os:w'.os=w.os
 tape:w'.tape=w.tape
 output:w'.output=w.output
 size:w.heap.size≤w'.heap.size
 block:∀k,k<w.heap.size→¬S k→w'.heap[k]? =w.heap[k]?
namespace BR
variable {S T : Nat → Prop} {a b c : World}
theorem refl (S:Nat→Prop) (w:World):BR S w w:=⟨rfl,rfl,rfl,AU _,fun _ _ _=>rfl⟩
theorem trans (h:BR S a b) (k:BR S b c):BR S a c:=
 ⟨k.os.trans h.os,k.tape.trans h.tape,k.output.trans h.output,Nat.le_trans h.size k.size,fun i d hs=>(k.block i (Nat.lt_of_lt_of_le d h.size) hs).trans (h.block i d hs)⟩
theorem mono (h:BR S a b) (hs:∀k,S k→T k):BR T a b:=⟨h.os,h.tape,h.output,h.size,fun k d f=>h.block k d fun e=>f (hs k e)⟩
theorem below (h:BR S a b) (k:Below b.heap.size b c):BR S a c:=
 ⟨k.os.trans h.os,k.tape.trans h.tape,k.output.trans h.output,Nat.le_trans h.size k.size,fun i d hs=>(k.block i (Nat.lt_of_lt_of_le d h.size)).trans (h.block i d hs)⟩
theorem grown (h:BR S a b) {r:Option Nat} (k:b.grownBy c r) (g:∀n,r=some n→S n∨a.heap.size≤n):BR S a c:=
 ⟨k.os.trans h.os,k.tape.trans h.tape,k.output.trans h.output,Nat.le_trans h.size k.size,fun i f hs=>(k.block i (Nat.lt_of_lt_of_le f h.size) (fun e=>by
  rcases g i e.symm with d|d
  ·exact hs d
  ·omega)).trans (h.block i f hs)⟩
theorem of_below (h:Below a.heap.size a b):BR S a b:=(BR.refl S a).below h
theorem to_below {B:Nat} (h:BR S a b) (d:∀k,S k→B≤k) (g:B≤a.heap.size):Below B a b:=
 ⟨h.os,h.tape,h.output,h.size,fun k f=>h.block k (by omega) fun e=>by have:=d k e;omega⟩
end BR
theorem AP.chg {S:Nat→Prop} {w d:World} {b:Nat} {T:TypeId} {cs:List Value} (h:AP w b T cs) (g:BR S w d) (f:¬S b):AP d b T cs:=h.keep (g.block b (BA h) f)
theorem AM {S:Nat→Prop} {w i:World} {base:Nat} {e:TypeId} {sz:Nat} {v:Value} {n:Nat} {xs:List Value} (h:w.ownsRow base e sz v n xs) (g:BR S w i) (l:∀b,v.ownBlock=some b→¬S b):i.ownsRow base e sz v n xs:=by
 obtain ⟨j,f⟩:=h
 rcases f with f|⟨b,cap,d,rfl,o,k,m⟩
 ·exact ⟨j, .inl f⟩
 ·exact ⟨j, .inr ⟨b,cap,d,rfl,o,(g.block b (Array.getElem?_eq_some_iff.1 k).1 (l b rfl)).trans k,m⟩⟩
theorem AQ.chg {S:Nat→Prop} {w d:World} {base:Nat} {e:TypeId} {sz:Nat} {v:Value} {n:Nat} {xs:List Value} (h:AQ w base e sz v n xs) (g:BR S w d) (f:∀b,v.ownBlock=some b→¬S b):AQ d base e sz v n xs:=
 h.heap fun b e=>g.block b (h.lt b e).2 (f b e)
theorem Sl.chg {S:Nat→Prop} {w d:World} {sz:Nat} {v:Value} {n:Nat} {xs:List Value} (h:Sl w sz v n xs) (g:BR S w d) (i:∀b,v.ownBlock=some b→b<w.heap.size→¬S b):Sl d sz v n xs:=
 h.keep fun b f e=>g.block b f (i b e f)
theorem DP (k:IntKind) (m:Int):(Value.int k m).oneCell' =true:=rfl
structure Hd where
 v:Value
 k:Nat
 xs:List Value
 n:Int
 g:Value
def Hd.cells (h:Hd):List Value:=[h.v,h.g, .int .i64 h.n]
def AS:List Hd→List Value
 |[]=>[]
 |h::hs=>h.v::h.g:: .int .i64 h.n::AS hs
theorem FK:∀hs:List Hd,(AS hs).length=hs.length*3
 |[]=>rfl
 |h::hs=>by simp [AS,FK hs];omega
theorem FL:∀(a b:List Hd),AS (a++b)=AS a++AS b
 |[],_=>rfl
 |h::a,b=>by simp [AS,FL a b]
theorem Ln:∀{hs:List Hd} {j:Nat} (h:j<hs.length),(AS hs)[j*3]? =some hs[j].v∧(AS hs)[j*3+1]? =some hs[j].g∧(AS hs)[j*3+2]? =some (.int .i64 hs[j].n)
 |t::ts,0,_=>by simp [AS]
 |t::ts,j+1,h=>by
  have:=Ln (hs:=ts) (j:=j) (by simpa using h)
  rw [Nat.succ_mul]
  simpa [AS] using this
theorem FJ:∀{hs:List Hd} {j:Nat} (h:j<hs.length) (g:Value),(AS hs).set (j*3+1) g=AS (hs.set j {hs[j] with g:=g})
 |t::ts,0,_,g=>by simp [AS]
 |t::ts,j+1,h,g=>by
  have:=FJ (hs:=ts) (j:=j) (by simpa using h) g
  rw [Nat.succ_mul,show j*3+3+1=(j*3+1)+3 by omega]
  simp [AS,this]
theorem BT {hs:List Hd} {j:Nat} (h:j<hs.length):∀i,i<3→∃q,hs[j].cells[i]? =some q∧(AS hs)[j*3+i]? =some q:=fun i k=>by
 obtain ⟨f,d,g⟩:=Ln h
 rcases (show i=0∨i=1∨i=2 by omega) with rfl|rfl|rfl
 ·exact ⟨_,rfl,f⟩
 ·exact ⟨_,rfl,d⟩
 ·exact ⟨_,rfl,g⟩
def BF (hs:List Hd):Nat→Prop:=fun b=>∃h ∈ hs,h.v.ownBlock=some b
structure KOk (hs:List Hd):Prop where
 num:∀h ∈ hs,0≤h.n∧h.n≤4000000
 few:∀h ∈ hs,h.k≤16777216
 apart:hs.Pairwise fun a b=>K9 a.v b.v
 new:∀h ∈ hs,h.g= .slice none 0 0
structure FB (w:World) (base:Nat) (E:TypeId) (sz:Nat) (hs:List Hd):Prop extends KOk hs where
 own:∀h ∈ hs,AQ w base E sz h.v h.k h.xs
theorem FB.nil (w:World) (base:Nat) (E:TypeId) (sz:Nat):FB w base E sz []:=⟨⟨by simp,by simp,List.Pairwise.nil,by simp⟩,by simp⟩
theorem FB.blk {w:World} {base:Nat} {E:TypeId} {sz:Nat} {hs:List Hd} (h:FB w base E sz hs) {b:Nat} (f:BF hs b):base≤b∧b<w.heap.size:=by
 obtain ⟨x,d,e⟩:=f
 exact (h.own x d).lt b e
theorem FB.chg {w d:World} {base:Nat} {E:TypeId} {sz:Nat} {hs:List Hd} {S:Nat→Prop} (h:FB w base E sz hs) (g:BR S w d) (i:∀b,BF hs b→¬S b):FB d base E sz hs:=
 ⟨h.toKOk,fun x f=>(h.own x f).chg g fun b e=>i b ⟨x,f,e⟩⟩
theorem BV {hs:List Hd} (h:hs.Pairwise fun a b=>K9 a.v b.v) {i j:Nat} (l:i<hs.length) (k:j<hs.length) (g:i≠j):K9 hs[i].v hs[j].v:=by
 rcases Nat.lt_or_gt_of_ne g with f|d
 ·exact List.pairwise_iff_getElem.1 h i j l k f
 ·exact (List.pairwise_iff_getElem.1 h j i k l d).symm
def BW (mk:Int→Value) (k:Nat) (n:Int):List Value:=replicate k (mk n)
theorem G3 {mk:Int→Value} {k:Nat} {n:Int} {i:Nat} (h:i<k):(BW mk k n)[i]? =some (mk n):=by simp [BW,h]
theorem HT {mk:Int→Value} {k:Nat} {n:Int} {xs:List Value} {i:Nat} (h:xs.length=k) (g:i<k):(BW mk i n++xs.drop i).set i (mk n)=BW mk (i+1) n++xs.drop (i+1):=by
 have f:(BW mk i n).length=i:=by simp [BW]
 have d:i<xs.length:=by omega
 rw [set_append_right _ _ (by omega),f,Nat.sub_self,drop_eq_getElem_cons d,set_cons_zero,BW,BW,replicate_succ',append_assoc]
 rfl
theorem IL {mk:Int→Value} {k:Nat} {n:Int} {xs:List Value} {i:Nat} (d:xs.length=k) (f:i≤k):(BW mk i n++xs.drop i).length=k:=by simp [BW,d];omega
theorem HU {mk:Int→Value} {k:Nat} {n:Int}:BW mk k n++[mk n]=BW mk (k+1) n:=by simp [BW,replicate_succ']
def GA (w:World) (base:Nat) (E:TypeId) (mk:Int→Value) (hs:List Hd):Prop:=∀h ∈ hs,AQ w base E 1 h.v h.k (BW mk h.k h.n)
theorem GA.chg {w d:World} {base:Nat} {E:TypeId} {mk:Int→Value} {hs:List Hd} {S:Nat→Prop} (h:GA w base E mk hs) (g:BR S w d) (i:∀b,BF hs b→¬S b):GA d base E mk hs:=
 fun x f=>(h x f).chg g fun b e=>i b ⟨x,f,e⟩
theorem GA.blk {w:World} {base:Nat} {E:TypeId} {mk:Int→Value} {hs:List Hd} (h:GA w base E mk hs) {b:Nat} (f:BF hs b):base≤b∧b<w.heap.size:=by
 obtain ⟨x,d,e⟩:=f
 exact (h x d).lt b e
structure DT (w:World) (mk:Int→Value) (h:Hd):Prop where
 l:Sl w 1 h.v h.k (BW mk h.k h.n)
 g:Sl w 1 h.g (h.k+40) (BW mk (h.k+40) h.n)
theorem DT.chg {w d:World} {mk:Int→Value} {h:Hd} {S:Nat→Prop} (t:DT w mk h) (g:BR S w d) (f:∀b,h.v.ownBlock=some b→b<w.heap.size→¬S b) (i:∀b,h.g.ownBlock=some b→b<w.heap.size→¬S b):DT d mk h:=⟨t.l.chg g f,t.g.chg g i⟩
structure DN (w:World) (hs ts:List Hd):Prop where
 len:ts.length=hs.length
 all:∀j (h:j<hs.length) (h' :j<ts.length),ts[j].v=hs[j].v∧ts[j].k=hs[j].k∧ts[j].n=hs[j].n∧∀b,ts[j].g.ownBlock=some b→hs[j].v.ownBlock=some b∨w.heap.size≤b
theorem Ep (w:World) {hs:List Hd} (h:∀t ∈ hs,t.g= .slice none 0 0):DN w hs hs:=
 ⟨rfl,fun j d _=>⟨rfl,rfl,rfl,fun b e=>by rw [h _ (getElem_mem d)] at e;cases e⟩⟩
theorem DN.set {w:World} {hs ts:List Hd} {i:Nat} {g:Value} (h:DN w hs ts) (q:i<hs.length) (f:i<ts.length) (p:∀b,g.ownBlock=some b→hs[i].v.ownBlock=some b∨w.heap.size≤b):DN w hs (ts.set i {ts[i] with g:=g}):=by
 refine ⟨by rw [length_set];exact h.len,fun j k d=> ?_⟩
 rw [getElem_set]
 split
 ·rename_i e
  subst e
  obtain ⟨m,l,o,_⟩:=h.all i q f
  exact ⟨m,l,o,p⟩
 ·exact h.all j k (by simpa using d)
theorem DN.nums {w:World} {hs ts:List Hd} (h:DN w hs ts) (f:KOk hs):∀t ∈ ts,(0≤t.n∧t.n≤4000000)∧t.k≤16777216:=fun t k=>by
 obtain ⟨j,g,rfl⟩:=List.mem_iff_getElem.1 k
 have d:j<hs.length:=by rw [← h.len];exact g
 obtain ⟨_,i,l,_⟩:=h.all j d g
 rw [i,l]
 exact ⟨f.num _ (getElem_mem d),f.few _ (getElem_mem d)⟩
theorem DN.tall {m i o:World} {hs ts:List Hd} {mk:Int→Value} {S:Nat→Prop} (h:DN m hs ts) (s:∀t ∈ ts,DT i mk t) (c:BR S i o) (l:∀b,BF hs b→¬S b) (q:∀b,m.heap.size≤b→¬S b):∀t ∈ ts,DT o mk t:=fun t g=>by
 obtain ⟨j,k,rfl⟩:=List.mem_iff_getElem.1 g
 have d:j<hs.length:=by rw [← h.len];exact k
 obtain ⟨p,_,_,r⟩:=h.all j d k
 refine (s _ g).chg c (fun b e _=>l b ⟨_,getElem_mem d,by rw [← p];exact e⟩) fun b e _=> ?_
 rcases r b e with f|f
 ·exact l b ⟨_,getElem_mem d,f⟩
 ·exact q b f
theorem DT.bs {w d:World} {mk:Int→Value} {h:Hd} (t:DT w mk h) (g:Below w.heap.size w d):DT d mk h:=⟨t.l.bs g,t.g.bs g⟩
theorem Hq {w:World} {base:Nat} {E:TypeId} {sz n:Nat} {v:Value} {xs:List Value} (h:w.ownsRow base E sz v n xs) (g:0<n):∃ad c k,v= .slice (some ad) c k:=by
 rcases h.2 with ⟨_,f⟩|⟨b,cap,d,rfl,_⟩
 ·omega
 ·exact ⟨_,_,_,rfl⟩
theorem HX {W q r:World} {base:Nat} {E:TypeId} {v g G:Value} {k m:Nat} {xs N:List Value} (C:AQ W base E 1 v k xs) (s:AQ r base E 1 G m N) (R:q.grownBy r g.ownBlock)
  (i:G.ownBlock=g.ownBlock∨((∀b,G.ownBlock=some b→q.heap.size≤b)∧Below q.heap.size q r)) (L:Sl q 1 v k xs) (_hm:k≤m) (H:N.take k=xs):Sl r 1 v k xs:=by
 rcases i with e|⟨_,Q⟩
 ·obtain ⟨I,B,cap,rfl,D,A,J,U⟩:=L
  cases B with
  |none=>exact ⟨I,none,cap,rfl,D,A,J,fun a K=>by cases K⟩
  |some ad=>
   have o:ad=⟨ad.block,0,none⟩:=by
    rcases C with C|⟨V,p,d,_⟩
    ·rcases C.2 with ⟨d,_⟩|⟨b,l,p,d,_⟩
     ·cases d
     ·cases d;rfl
    ·cases d;rfl
   by_cases hgo:g.ownBlock=some ad.block
   ·rw [hgo] at e
    obtain ⟨_,B,l,f,_,_,_,X⟩:=s.sl
    have F:B=some ad:=by
     rcases s with s|⟨V,p,d,_⟩
     ·rcases s.2 with ⟨d,_⟩|⟨Y,M,_,d,_⟩
      ·rw [d] at e;cases e
      ·rw [d] at f e
       cases f
       simp only [Value.ownBlock,Option.some.injEq] at e
       rw [o,e]
     ·rw [d] at f e
      cases f
      simp only [Value.ownBlock,Option.some.injEq] at e
      rw [o,e]
    refine ⟨I,some ad,cap,rfl,D,A,J,fun a K j u z=>X a (by rw [F];exact K) j u ?_⟩
    rw [← H,getElem?_take] at z
    split at z
    ·exact z
    ·cases z
   ·exact Sl.by ⟨I,some ad,cap,rfl,D,A,J,U⟩ R (.inr fun h=>hgo h.symm)
 ·exact L.bs Q
section
variable {P : Program} {n : Nat} {E : CR} {w : World} {ty t e : TypeId} {x y : Operand} {v u : Value} {sz base : Nat}
theorem Mi {w M:World} {base:Nat} {t ty e:TypeId} {i:TypeInfo} {z:Value} {size p:Nat} (F:P.underlying t=some (.slice e)) (G:P.info? e=some i) (N:i.zero=some z)
  (q:i.size=size) (J:i.bytes=p) (W:0<size) {v v' :Value} {n:Nat} {xs:List Value} (o:w.ownsRow base e size v n xs)
  {a:Addr} {m c:Nat} {d:List Value} (C:d.length=m*size) (h:∀j u,d[j]? =some u→w.cell? (a.add j)=some u) (V:∀u ∈ d,u.oneCell' =true)
  (I:n+m≤maxLen) (l:(n+m)*p≤140737488355328) (f:(Builtin.append_ #[t,t] ty #[v, .slice (some a) m c]).run P w= .ok v' M):
  v'.ownBlock=v.ownBlock∨((∀b,v'.ownBlock=some b→w.heap.size≤b)∧Below w.heap.size w M):=by
 subst q
 subst J
 have D:n+m≤9223372036854775807:=by simp only [maxLen] at I;omega
 rcases o.2 with ⟨rfl,rfl⟩|⟨g,cap,A,rfl,X,U,Y,Q,L,K⟩
 ·by_cases hm:m=0
  ·subst hm
   obtain rfl:d=[]:=eq_nil_of_length_eq_zero (by simpa using C)
   have s:(Builtin.append_ #[t,t] ty #[.slice none 0 0, .slice (some a) 0 c]).run P w= .ok (.slice none 0 0) w:=by
    simp [Builtin.append_,run_underlying F,sizeOf,typeInfo,G,Builtin.lenOf,Builtin.firstCells,loadCells,loadCellsFrom]
   rw [s] at f
   cases f
   exact .inl rfl
  ·have s:=run_append_nil (P:=P) w t ty e i z F G N a m c d C h (by omega) (by omega) (by have R:=l;simp only [Nat.zero_add] at R;omega)
   rw [s] at f
   cases f
   exact .inr ⟨(fun b e=>by cases e;exact AU _),⟨rfl,rfl,rfl,by simp,fun k H=>heap_alloc_old w.drew _ H⟩⟩
 ·by_cases hroom:n+m≤cap
  ·have B:n*i.size+d.length≤A.size:=by rw [C,L,← Nat.add_mul];exact Nat.mul_le_mul_right _ hroom
   have s:=run_append_room (P:=P) w t ty e i F G g n cap A U a m c d C h V hroom B
   rw [s] at f
   cases f
   exact .inl rfl
  ·have r:∀j u,xs[j]? =some u→w.cell? ((⟨g,0,none⟩:Addr).add j)=some u:=o.cells (g:=g) rfl
   have s:=run_append_grow (P:=P) w t ty e i z F G N ⟨g,0,none⟩ n cap xs o.1 r a m c d C h (by omega) (by omega) (growslice_fits (by omega) l)
   rw [s] at f
   cases f
   exact .inr ⟨(fun b e=>by cases e;exact AU _),⟨rfl,rfl,rfl,by simp,fun k H=>heap_alloc_old w.drew _ H⟩⟩
theorem D4 {k m:Nat} {xs d:List Value} {f:Nat} {q:List Value} (s:FO P t e sz) (hi:Hg P e q f) (G:q.length=sz) (M:0<sz) (R:ev E x=some v) (N:ev E y=some u)
  (g:w.ownsRow base e sz v k xs) (A:Sl w sz u m d) (z:d.all (·.oneCell')=true) (j:(k+m)*f≤140737488355328) (hm:k+m≤9223372036854775807) (l:base≤w.heap.size):
  Xw P n E (.call {callee:= .builtin .append,args:= #[x,y],argTypes:= #[t,t]}) ty w (fun v' p=>p.ownsRow base e sz v' (k+m) (xs++d)∧w.grownBy p v.ownBlock∧(v'.ownBlock=v.ownBlock∨((∀b,v'.ownBlock=some b→w.heap.size≤b)∧Below w.heap.size w p))):=fun a C=>by
 subst G
 obtain ⟨i,D,K,Q,zv,L,X⟩:=hi.i
 obtain ⟨H,W,cap,rfl,hc1,Z,J,r⟩:=A
 have I:zv.cells.size=q.length:=by rw [X];simp
 cases W with
 |none=>
  have U:=J rfl
  have F:m=0:=by omega
  subst F
  obtain rfl:d=[]:=eq_nil_of_length_eq_zero (by simpa using H)
  subst U
  have B:=run_append_owned_none (P:=P) w base t ty e i q.length s.u D v k xs g
  refine ⟨v,w,fun _ _ _ _=>by simp [execOp,resolve,invoke,builtin,C.ev R,C.ev N,B],by simpa using g,G8 _ _, .inl rfl⟩
 |some ad=>
  have o:k+m≤maxLen:=by unfold maxLen;omega
  have h:∀u ∈ d,u.oneCell' =true:=fun u s=>List.all_eq_true.1 z u s
  obtain ⟨v',p,B,Y,V,g3⟩:=run_append_own (P:=P) w base t ty e i zv q.length f s.u D L K Q I M v k xs g ad m cap d H (r ad rfl) h o j l
  exact ⟨v',p,fun _ _ _ _=>by simp [execOp,resolve,invoke,builtin,C.ev R,C.ev N,B],Y,V,Mi s.u D L K Q M g H (r ad rfl) h o j B⟩
theorem En {k m:Nat} {xs h:List Value} {d:Nat} {A:List Value} (N:FO P t e sz) (Q:Hg P e A d) (r:A.length=sz) (L:0<sz) (R:ev E x=some v) (M:ev E y=some u)
  (f:AQ w base e sz v k xs) (p:Sl w sz u m h) (s:h.all (·.oneCell')=true) (l:(k+m)*d≤140737488355328) (hm:k+m≤9223372036854775807) (j:base≤w.heap.size) (Y:1≤m):
  Xw P n E (.call {callee:= .builtin .append,args:= #[x,y],argTypes:= #[t,t]}) ty w (fun v' q=>q.ownsRow base e sz v' (k+m) (xs++h)∧w.grownBy q v.ownBlock∧(v'.ownBlock=v.ownBlock∨((∀b,v'.ownBlock=some b→w.heap.size≤b)∧Below w.heap.size w q))):=fun a G=>by
 have C:=f.sl
 rcases f with f|⟨g,Z,rfl,h0,hb,h1,h2,h3⟩
 ·exact D4 N Q r L R M f p s l hm j a G
 ·subst r
  obtain ⟨i,i1,U,i3,zv,i4,X⟩:=Q.i
  obtain ⟨hl,W,cap,rfl,hc1,hc2,I,D⟩:=p
  have F:zv.cells.size=A.length:=by rw [X];simp
  cases W with
  |none=>have:=I rfl;omega
  |some ad=>
   obtain ⟨_,ao',K,B,_,_,_,H⟩:=C
   cases B
   obtain ⟨v',q,hr,J,z⟩:=run_append_arg_grows (P:=P) w t ty e i zv A.length d N.u i1 i4 U i3 F L ⟨g,0,none⟩ k k xs (by rw [h3,length_take];omega) (H _ rfl) ad m cap h hl (D ad rfl) (by omega) (by unfold maxLen;omega) l
   have o:Below w.heap.size w q:=⟨z.os,z.tape,z.output,z.size,fun k V=>z.block k V (by simp)⟩
   exact ⟨v',q,fun _ _ _ _=>by simp [execOp,resolve,invoke,builtin,G.ev R,G.ev M,hr],BY J j,DB o _, .inr ⟨fun b e=>(AB J b e).1,o⟩⟩
theorem Gm {c j:Nat} {T:TypeId} {xs:List Value} (i:(sizeOf e).run P w= .ok 1 w) (z:ev E x=some (CH v j)) (q:ev E y=some u) (d:u.oneCell' =true) (h:AQ w base T sz v c xs) (s:j<xs.length):
  Xu P n E (.store e x y) ty w (fun f=>AQ f base T sz v c (xs.set j u)∧w.grownBy f v.ownBlock∧f.heap.size=w.heap.size):=fun a r=>by
 rcases h with h|⟨g,A,rfl,D,F,C,B,rfl⟩
 ·obtain ⟨f,o,p,l,m⟩:=Et i z q d h s a r
  exact ⟨f,o, .inl p,l,m⟩
 ·have k:ev E x=some (.pointer (some ⟨g,j,none⟩)):=by simpa [CH,add_lit] using z
  rw [length_take] at s
  obtain ⟨f,o,p,l,m⟩:=C5 (P:=P) (ty:=ty) i k q d F (by omega) a r
  exact ⟨f,o, .inr ⟨g,_,rfl,D,p,by simpa using C,B,by rw [take_set]⟩,l,m⟩
end
end Go.Dd

namespace Go.Dd
open Go Go.RowKit List
section
variable {P : Program} {n : Nat} {E : CR} {w : World} {e ty t : TypeId} {x y z : Operand} {u v : Value}
theorem Xu.stKA {c j k:Nat} {base sz:Nat} {T:TypeId} {xs ds:List Value} (hs:(P.info? e).map (·.size)=some k) (r:ds.length=k) (B:ev E x=some (CH v j)) (A:ev E y=some (.agg ds.toArray)) (b:ds.all (·.oneCell')=true) (h:AQ w base T sz v c xs) (H:0<c) (D:j+ds.length≤xs.length):
  Xu P n E (.store e x y) ty w (fun f=>AQ f base T sz v c (GO xs j ds)∧w.grownBy f v.ownBlock∧f.heap.size=w.heap.size):=fun a C=>by
 rcases h with h|⟨g,m,rfl,o,G,s,F,rfl⟩
 ·rcases h.2 with ⟨_,I⟩|⟨g,cap,m,rfl,_⟩
  ·omega
  ·have d:ev E x=some (.pointer (some ⟨g,j,none⟩)):=by simpa [CH,add_lit] using B
   obtain ⟨f,i,q,l,p⟩:=Xu.stAO (P:=P) (ty:=ty) hs r d A b h rfl D a C
   exact ⟨f,i, .inl q,l,p⟩
 ·have d:ev E x=some (.pointer (some ⟨g,j,none⟩)):=by simpa [CH,add_lit] using B
  rw [length_take] at D
  obtain ⟨f,i,q,l,p⟩:=Xu.stAt (P:=P) (ty:=ty) hs r d A b G (by omega) a C
  exact ⟨f,i, .inr ⟨g,_,rfl,o,q,by rw [Ir (by omega)];exact s,F,by rw [JK (by omega) s]⟩,l,p⟩
end
theorem AQ.ty {w:World} {base sz k g:Nat} {T:TypeId} {v:Value} {xs:List Value} (h:AQ w base T sz v k xs) (c:v.ownBlock=some g):∃cs,AP w g T cs:=by
 rcases h with h|⟨d,a,rfl,_,b,_⟩
 ·obtain ⟨_,a,_,b,_⟩:=FH h c
  exact ⟨a,b⟩
 ·obtain rfl:d=g:=by simpa [Value.ownBlock] using c
  exact ⟨a,b⟩
theorem Ji {U p q:World} {base sz:Nat} {E:TypeId} {v g G:Value} {k m:Nat} {xs N:List Value} (C:AQ U base E sz v k xs) (r:AQ q base E sz G m N) (R:p.grownBy q g.ownBlock)
  (f:G.ownBlock=g.ownBlock∨((∀b,G.ownBlock=some b→p.heap.size≤b)∧Below p.heap.size p q)) (L:Sl p sz v k xs) (H:N.take (k*sz)=xs):Sl q sz v k xs:=by
 rcases f with e|⟨_,Q⟩
 ·obtain ⟨I,B,cap,rfl,D,A,J,S⟩:=L
  cases B with
  |none=>exact ⟨I,none,cap,rfl,D,A,J,fun a K=>by cases K⟩
  |some ad=>
   have l:ad=⟨ad.block,0,none⟩:=by
    rcases C with C|⟨T,o,c,_⟩
    ·rcases C.2 with ⟨c,_⟩|⟨b,i,o,c,_⟩
     ·cases c
     ·cases c;rfl
    ·cases c;rfl
   by_cases hgo:g.ownBlock=some ad.block
   ·rw [hgo] at e
    obtain ⟨_,B,i,d,_,_,_,V⟩:=r.sl
    have F:B=some ad:=by
     rcases r with r|⟨T,o,c,_⟩
     ·rcases r.2 with ⟨c,_⟩|⟨W,M,_,c,_⟩
      ·rw [c] at e;cases e
      ·rw [c] at d e
       cases d
       simp only [Value.ownBlock,Option.some.injEq] at e
       rw [l,e]
     ·rw [c] at d e
      cases d
      simp only [Value.ownBlock,Option.some.injEq] at e
      rw [l,e]
    refine ⟨I,some ad,cap,rfl,D,A,J,fun a K j u s=>V a (by rw [F];exact K) j u ?_⟩
    rw [← H,getElem?_take] at s
    split at s
    ·exact s
    ·cases s
   ·exact Sl.by ⟨I,some ad,cap,rfl,D,A,J,S⟩ R (.inr fun h=>hgo h.symm)
 ·exact L.bs Q
theorem Ry {w:World} {base sz n m:Nat} {e:TypeId} {v:Value} {xs:List Value} (h:w.ownsRow base e sz v n xs) (i:m≤n):w.ownsRow base e sz (cut v sz 0 m) m (xs.take (m*sz)):=by
 obtain ⟨q,k⟩:=h
 have f:m*sz≤n*sz:=Nat.mul_le_mul_right _ i
 refine ⟨by rw [length_take];omega, ?_⟩
 rcases k with ⟨rfl,rfl⟩|⟨b,cap,a,rfl,o,p,d,c,g,l⟩
 ·obtain rfl:m=0:=by omega
  exact .inl ⟨rfl,rfl⟩
 ·refine .inr ⟨b,cap,a, ?_,o,p,Nat.le_trans i d,c,g, ?_⟩
  ·show Value.slice (if cap=0 then _ else Option.map _ _) (m - 0) (cap - 0)=_
   have j:(if cap=0 then some (⟨b,0,none⟩:Addr) else (some (⟨b,0,none⟩:Addr)).map (·.add (0*sz)))=some ⟨b,0,none⟩:=by
    split
    ·rfl
    ·simp [add_lit]
   rw [j];rfl
  ·rw [← l,take_take,Nat.min_eq_left f]
def K7 (sz k:Nat) (cs:List (List Value)):Prop:=cs.length=k∧∀c ∈ cs,c.length=sz
theorem K7.len {sz k:Nat} {cs:List (List Value)} (h:K7 sz k cs):cs.flatten.length=k*sz:=by
 obtain ⟨rfl,h⟩:=h
 induction cs with
 |nil=>simp
 |cons c cs ih=>
  rw [flatten_cons,length_append,ih fun x a=>h x (mem_cons_of_mem _ a),h c (by simp),length_cons,Nat.succ_mul];omega
theorem K7.snoc {sz k:Nat} {cs:List (List Value)} {c:List Value} (h:K7 sz k cs) (b:c.length=sz):K7 sz (k+1) (cs++[c]):=
 ⟨by rw [length_append,h.1];rfl,fun x a=>by
  rcases List.mem_append.1 a with a|a
  ·exact h.2 x a
  ·rw [List.mem_singleton.1 a];exact b⟩
theorem K7.nil (sz:Nat):K7 sz 0 []:=⟨rfl,fun _ h=>by cases h⟩
theorem K7.take {sz k m:Nat} {cs:List (List Value)} (h:K7 sz (k+m) cs):K7 sz k (cs.take k):=⟨by rw [length_take,h.1];omega,fun c a=>h.2 c (mem_of_mem_take a)⟩
theorem K7.at {sz k:Nat}:∀{cs:List (List Value)},K7 sz k cs→∀{j:Nat} (a:j<cs.length) {i:Nat},i<sz→cs.flatten[j*sz+i]? =cs[j][i]?
 |[],_,j,a,_,_=>by cases a
 |c::cs,h,0,_,i,hi=>by
  rw [flatten_cons,Nat.zero_mul,Nat.zero_add,getElem?_append_left (by rw [h.2 c (by simp)];exact hi)];rfl
 |c::cs,h,j+1,a,i,hi=>by
  have b:=h.2 c (by simp)
  have:K7 sz cs.length cs:=⟨rfl,fun x d=>h.2 x (mem_cons_of_mem _ d)⟩
  rw [flatten_cons,getElem?_append_right (by rw [b,Nat.succ_mul];omega),b,show (j+1)*sz+i - sz=j*sz+i by rw [Nat.succ_mul];omega,this.at (by simpa using a) hi];rfl
theorem K7.cells {sz k:Nat} {cs:List (List Value)} (h:K7 sz k cs) {j:Nat} (a:j<cs.length):∀i,i<sz→∃q,cs[j][i]? =some q∧cs.flatten[j*sz+i]? =some q:=fun i b=>by
 have c:=h.2 _ (getElem_mem a)
 exact ⟨cs[j][i]'(by omega),getElem?_eq_getElem _,by rw [h.at a b];exact getElem?_eq_getElem _⟩
theorem E8 {sz k m:Nat} {cs:List (List Value)} (h:K7 sz (k+m) cs):cs.flatten.take (k*sz)=(cs.take k).flatten:=by
 have e:cs.flatten=(cs.take k).flatten++(cs.drop k).flatten:=by rw [← flatten_append,take_append_drop]
 have:=h.take.len
 rw [e,take_append_of_le_length (by omega),take_of_length_le (by omega)]
theorem Mw {sz k i:Nat} {xs:List Value} {ds:List (List Value)} {c:List Value} (g:xs.length=k*sz) (b:K7 sz i ds) (d:c.length=sz) (f:i<k):GO (ds.flatten++xs.drop (i*sz)) (i*sz) c=(ds++[c]).flatten++xs.drop ((i+1)*sz):=by
 have a:=b.len
 unfold GO
 rw [take_append_of_le_length (by rw [a];exact AU _),take_of_length_le (by rw [a];exact AU _),drop_append,drop_of_length_le (by rw [a];omega),nil_append,a,drop_drop,d,flatten_append]
 congr 1
 ·simp
 ·congr 1;rw [Nat.succ_mul];omega
theorem Nj {sz k i:Nat} {xs:List Value} {ds:List (List Value)} (c:xs.length=k*sz) (a:K7 sz i ds) (b:i≤k):(ds.flatten++xs.drop (i*sz)).length=k*sz:=by
 have:=a.len
 have:i*sz≤k*sz:=Nat.mul_le_mul_right _ b
 rw [length_append,length_drop];omega
structure GV (B:Nat) (I:TypeId) (Φ:Int→World→List Value→Prop):Prop where
 of:∀{n:Int} {w w' :World} {c:List Value} {S:Nat→Prop},Φ n w c→BR S w w' →(∀b,S b→b<B∨∃T cs,AP w b T cs∧T≠I)→Φ n w' c
theorem GV.chg {B:Nat} {I:TypeId} {Φ:Int→World→List Value→Prop} (h:GV B I Φ) {n:Int} {w a:World} {c:List Value} {S:Nat→Prop} (f:Φ n w c) (g:BR S w a) (d:∀b,S b→b<B):Φ n a c:=h.of f g fun b e=> .inl (d b e)
theorem GV.bs {B:Nat} {I:TypeId} {Φ:Int→World→List Value→Prop} (h:GV B I Φ) {n:Int} {w a:World} {c:List Value} (b:Φ n w c) (g:Below w.heap.size w a):Φ n a c:=h.of b (S:=fun _=>False) (BR.of_below g) (fun _ h=>h.elim)
structure HL (Φ:Int→World→List Value→Prop) (sz:Nat) (n:Int) (w:World) (k:Nat) (cs:List (List Value)):Prop where
 els:K7 sz k cs
 each:∀c ∈ cs,Φ n w c
theorem HL.nil (Φ:Int→World→List Value→Prop) (sz:Nat) (n:Int) (w:World):HL Φ sz n w 0 []:=⟨K7.nil sz,fun _ h=>by cases h⟩
theorem HL.snoc {Φ:Int→World→List Value→Prop} {sz k:Nat} {n:Int} {w:World} {cs:List (List Value)} {c:List Value} (h:HL Φ sz n w k cs) (b:c.length=sz) (d:Φ n w c):HL Φ sz n w (k+1) (cs++[c]):=
 ⟨h.els.snoc b,fun x a=>by
  rcases List.mem_append.1 a with a|a
  ·exact h.each x a
  ·rw [List.mem_singleton.1 a];exact d⟩
theorem HL.chg {Φ:Int→World→List Value→Prop} {B sz k:Nat} {I:TypeId} {n:Int} {w a:World} {S:Nat→Prop} {cs:List (List Value)} (h:HL Φ sz n w k cs) (i:GV B I Φ) (g:BR S w a) (d:∀b,S b→b<B):HL Φ sz n a k cs:=⟨h.els,fun c f=>i.chg (h.each c f) g d⟩
theorem HL.bs {Φ:Int→World→List Value→Prop} {B sz k:Nat} {I:TypeId} {n:Int} {w a:World} {cs:List (List Value)} (h:HL Φ sz n w k cs) (d:GV B I Φ) (g:Below w.heap.size w a):HL Φ sz n a k cs:=⟨h.els,fun c b=>d.bs (h.each c b) g⟩
theorem HL.by {Φ:Int→World→List Value→Prop} {B sz k:Nat} {I:TypeId} {n:Int} {w a:World} {g:Option Nat} {cs:List (List Value)} (h:HL Φ sz n w k cs) (j:GV B I Φ) (f:w.grownBy a g) (d:∀b,g=some b→b<B∨∃T cs,AP w b T cs∧T≠I):HL Φ sz n a k cs:=
 ⟨h.els,fun c i=>j.of (h.each c i) (S:=fun b=>g=some b) ((BR.refl _ _).grown f fun b e=> .inl e) d⟩
theorem HL.take {Φ:Int→World→List Value→Prop} {sz k m:Nat} {n:Int} {w:World} {cs:List (List Value)} (h:HL Φ sz n w (k+m) cs):HL Φ sz n w k (cs.take k):=⟨h.els.take,fun c a=>h.each c (mem_of_mem_take a)⟩
def Gr (w:World) (base:Nat) (E:TypeId) (sz:Nat) (Φ:Int→World→List Value→Prop) (hs:List Hd):Prop:=∀h ∈ hs,∃cs,HL Φ sz h.n w h.k cs∧AQ w base E sz h.v h.k cs.flatten
theorem Gr.chg {w a:World} {base sz B:Nat} {E I:TypeId} {Φ:Int→World→List Value→Prop} {hs:List Hd} {S:Nat→Prop} (h:Gr w base E sz Φ hs) (k:GV B I Φ) (g:BR S w a) (j:∀b,S b→b<B) (f:∀b,BF hs b→¬S b):Gr a base E sz Φ hs:=fun x c=>by
 obtain ⟨cs,i,d⟩:=h x c
 exact ⟨cs,i.chg k g j,d.chg g fun b e=>f b ⟨x,c,e⟩⟩
theorem Gr.blk {w:World} {base sz:Nat} {E:TypeId} {Φ:Int→World→List Value→Prop} {hs:List Hd} (h:Gr w base E sz Φ hs) {b:Nat} (c:BF hs b):base≤b∧b<w.heap.size:=by
 obtain ⟨x,d,e⟩:=c
 obtain ⟨_,_,a⟩:=h x d
 exact a.lt b e
structure FE (w:World) (sz:Nat) (Φ:Int→World→List Value→Prop) (h:Hd):Prop where
 l:∃cs,HL Φ sz h.n w h.k cs∧Sl w sz h.v h.k cs.flatten
 g:∃cs,HL Φ sz h.n w (h.k+40) cs∧Sl w sz h.g (h.k+40) cs.flatten
theorem FE.chg {w a:World} {sz B:Nat} {I:TypeId} {Φ:Int→World→List Value→Prop} {h:Hd} {S:Nat→Prop} (t:FE w sz Φ h) (d:GV B I Φ) (g:BR S w a) (c:∀b,S b→b<B) (k:∀b,h.v.ownBlock=some b→b<w.heap.size→¬S b) (i:∀b,h.g.ownBlock=some b→b<w.heap.size→¬S b):FE a sz Φ h:=by
 obtain ⟨⟨cs,j,m⟩,⟨ds,l,f⟩⟩:=t
 exact ⟨⟨cs,j.chg d g c,m.chg g k⟩,⟨ds,l.chg d g c,f.chg g i⟩⟩
theorem FE.bs {w a:World} {sz B:Nat} {I:TypeId} {Φ:Int→World→List Value→Prop} {h:Hd} (t:FE w sz Φ h) (b:GV B I Φ) (g:Below w.heap.size w a):FE a sz Φ h:=by
 obtain ⟨⟨cs,d,i⟩,⟨ds,f,c⟩⟩:=t
 exact ⟨⟨cs,d.bs b g,i.bs g⟩,⟨ds,f.bs b g,c.bs g⟩⟩
theorem DN.tallN {l g m:World} {B sz:Nat} {I:TypeId} {Φ:Int→World→List Value→Prop} {hs ts:List Hd} {S:Nat→Prop} (h:DN l hs ts) (A:GV B I Φ) (s:∀t ∈ ts,FE g sz Φ t) (c:BR S g m) (r:∀b,S b→b<B) (k:∀b,BF hs b→¬S b) (p:∀b,l.heap.size≤b→¬S b):∀t ∈ ts,FE m sz Φ t:=fun t f=>by
 obtain ⟨j,i,rfl⟩:=List.mem_iff_getElem.1 f
 have a:j<hs.length:=by rw [← h.len];exact i
 obtain ⟨o,_,_,q⟩:=h.all j a i
 refine (s _ f).chg A c r (fun b e _=>k b ⟨_,getElem_mem a,by rw [← o];exact e⟩) fun b e _=> ?_
 rcases q b e with d|d
 ·exact k b ⟨_,getElem_mem a,d⟩
 ·exact p b d
def M8 (B:Nat) (I:TypeId) (n:Int) (w:World) (c:List Value):Prop:=∃x,c=[x, .slice none 0 0]∧BO (Value.int .i64) w x [-n]∧∀b,x.ownBlock=some b→B≤b∧∃cs,AP w b I cs
theorem BM {w:World} {b:Nat} {T U:TypeId} {cs ds:List Value} (h:AP w b T cs) (k:AP w b U ds):T=U:=by
 unfold AP at h k
 rw [h] at k
 cases k;rfl
theorem CV (B:Nat) (I:TypeId):GV B I (M8 B I):=⟨fun ⟨x,e,k,c⟩ g i=>by
 have d:∀b,x.ownBlock=some b→¬_:=fun b e hs=>by
  obtain ⟨f,ds,a⟩:=c b e
  rcases i b hs with h|⟨T,cs,l,j⟩
  ·omega
  ·exact j (BM l a)
 refine ⟨x,e,Sl.chg k g fun b e _ hs=>d b e hs,fun b e=> ?_⟩
 obtain ⟨f,ds,a⟩:=c b e
 exact ⟨f,ds,a.chg g (d b e)⟩⟩
theorem L8 {B:Nat} {I:TypeId} {n:Int} {w:World} {c:List Value} (h:M8 B I n w c):c.length=2∧c.all (·.oneCell')=true:=by
 obtain ⟨x,rfl,a,_⟩:=h
 exact ⟨rfl,by rw [all_cons,Sl.one' a];rfl⟩
def M9 (n:Int) (_:World) (c:List Value):Prop:=c=[b8 0#8, .slice none 0 0, .slice none 0 0, .int .i64 (-n), .int .i64 0]
theorem CZ (B:Nat) (I:TypeId):GV B I M9:=⟨fun h _ _=>h⟩
theorem L9 {n:Int} {w:World} {c:List Value} (h:M9 n w c):c.length=5∧c.all (·.oneCell')=true:=by
 rw [h];exact ⟨rfl,rfl⟩

section
variable {H : Type} {enc : TypeId × Value → H} {P : Program} {w : World}
def In (enc:TypeId×Value→H) (P:Program) (w:World) (t:TypeId) (cs:List Value):Prop:=
 ∃fuel d ps,DataW.trod enc P w 0 (fun _=>true) true fuel t cs=some (d,ps)∧∀x ∈ d.weights P t,x≤reachBytes
theorem In.int {t:TypeId} {k:IntKind} {cs:List Value} (b:P.underlying t=some (.int k)) (h:In enc P w t cs):∃m,cs=[.int k m]∧(Lit.int k m).wf=true:=by
 obtain ⟨a,d,ps,h,_⟩:=h
 cases a with
 |zero=>simp [DataW.trod] at h
 |succ a=>
  unfold DataW.trod at h
  rw [b] at h
  split at h<;>simp_all
theorem I4 {α β:Type} {f:α→Option β}:∀{l:List α} {r:List β},l.mapM f=some r→∀(i:Nat) (a:α),l[i]? =some a→∃b,f a=some b∧r[i]? =some b
 |[],r,h,i,a,hi=>by simp at hi
 |x::l,r,h,i,a,hi=>by
  simp only [mapM_cons,Option.bind_eq_bind,Option.pure_def] at h
  cases hx:f x with
  |none=>simp [hx] at h
  |some b=>
   cases hl:l.mapM f with
   |none=>simp [hx,hl] at h
   |some r' =>
    simp only [hx,hl,Option.bind_some,Option.some.injEq] at h
    subst h
    cases i with
    |zero=>simp at hi;subst hi;exact ⟨b,hx,by simp⟩
    |succ i=>simpa using I4 hl i a (by simpa using hi)
theorem I3 {α β:Type} {f:α→Option β}:∀{l:List α} {r:List β},l.mapM f=some r→r.length=l.length
 |[],r,h=>by simp at h;simp [← h]
 |x::l,r,h=>by
  simp only [mapM_cons,Option.bind_eq_bind,Option.pure_def] at h
  cases hx:f x with
  |none=>simp [hx] at h
  |some b=>
   cases hl:l.mapM f with
   |none=>simp [hx,hl] at h
   |some r' =>
    simp only [hx,hl,Option.bind_some,Option.some.injEq] at h
    subst h
    simpa using I3 hl
theorem Lq {base n:Nat} {a:Addr} {cs:List Value} (h:w.cells? base a n=some cs):cs.length=n∧∀j u,cs[j]? =some u→w.cell? (a.add j)=some u:=by
 unfold World.cells? at h
 split at h
 ·refine ⟨by simpa using I3 h,fun j u c=> ?_⟩
  have e:j<n:=by
   have:=I3 h
   have d:j<cs.length:=by
    rcases Nat.lt_or_ge j cs.length with h|h
    ·exact h
    ·simp [getElem?_eq_none h] at c
   simp at this;omega
  obtain ⟨b,g,f⟩:=I4 h j j (by simp [e])
  rw [f] at c
  simp only [Option.some.injEq] at c
  rw [g,c]
 ·cases h
theorem Hm {e:TypeId}:∀{ds:List (DataW H)} {i:Nat} {d:DataW H},ds[i]? =some d→∀x ∈ d.weights P e,x ∈ DataW.weightsAll P e ds
 |d0::ds,0,d,hd,x,hx=>by
  simp only [getElem?_cons_zero,Option.some.injEq] at hd
  subst hd
  simp only [DataW.weightsAll,mem_append];exact .inl hx
 |d0::ds,i+1,d,hd,x,hx=>by
  simp only [getElem?_cons_succ] at hd
  simp only [DataW.weightsAll,mem_append];exact .inr (Hm hd x hx)
 |[],_,_,hd,_,_=>by simp at hd
theorem K0 {sz:Nat}:∀{a:List (List Value)} (_:∀c ∈ a,c.length=sz) (i:Nat) (c:List Value),a[i]? =some c→(a.flatten.drop (i*sz)).take sz=c
 |c0::a,hl,0,c,b=>by
  simp only [getElem?_cons_zero,Option.some.injEq] at b
  subst b
  have:=hl c0 (by simp)
  simp [flatten_cons,← this]
 |c0::a,hl,i+1,c,b=>by
  simp only [getElem?_cons_succ] at b
  have e:=hl c0 (by simp)
  have d:=K0 (fun c b=>hl c (by simp [b])) i c b
  rw [flatten_cons,show (i+1)*sz=c0.length+i*sz by rw [e,Nat.succ_mul];omega,← drop_drop,drop_left]
  exact d
 |[],_,_,_,b=>by simp at b
theorem Jj {sz:Nat}:∀{a:List (List Value)} (_:∀c ∈ a,c.length=sz) (j:Nat) (u:Value),a.flatten[j]? =some u→∃i c,a[i]? =some c∧c[j - i*sz]? =some u∧i*sz≤j
 |[],_,j,u,h=>by simp at h
 |c0::a,hl,j,u,h=>by
  have f:=hl c0 (by simp)
  rw [flatten_cons,getElem?_append] at h
  split at h
  ·exact ⟨0,c0,by simp,by simpa using h,by simp⟩
  ·obtain ⟨i,c,d,b,g⟩:=Jj (fun c e=>hl c (by simp [e])) (j - c0.length) u h
   refine ⟨i+1,c,by simpa using d, ?_,by rw [Nat.succ_mul];omega⟩
   rw [← b];congr 1;rw [Nat.succ_mul];omega
theorem In.slice {t e:TypeId} {sz:Nat} {cs:List Value} (I:P.underlying t=some (.slice e)) (E:P.cellsOf e=sz) (h:In enc P w t cs):
  ∃v n xs,cs=[v]∧Sl w sz v n xs∧n*P.bytesOf e≤reachBytes∧∀i,i<n→In enc P w e ((xs.drop (i*sz)).take sz):=by
 obtain ⟨g,d,ps,h,Q⟩:=h
 cases g with
 |zero=>simp [DataW.trod] at h
 |succ g=>
  unfold DataW.trod at h
  rw [I] at h
  split at h<;>try (simp_all;done)
  ·exact ⟨_,0,[],rfl,Ck w sz,by simp,fun i o=>by omega⟩
  ·rename_i W a len cap s
   simp only [Option.some.injEq,TypeDesc.slice.injEq] at s
   subst s
   simp only at h
   split at h
   ·rename_i k
    obtain ⟨_,L,C⟩:=k
    cases hel:(range len).mapM (fun i=>(w.cells? 0 (a.add (i*P.cellsOf e)) (P.cellsOf e)).bind (DataW.trod enc P w 0 (fun _=>true) true g e)) with
    |none=>simp [hel] at h
    |some elems=>
     rw [hel] at h
     simp only [Option.bind_some,Option.map_eq_some_iff] at h
     obtain ⟨A,M,h⟩:=h
     simp only [Prod.mk.injEq] at h
     obtain ⟨h,_⟩:=h
     subst h
     rw [E] at hel
     have z:elems.length=len:=by simpa using I3 hel
     have AS:∀i,i<len→∃c,w.cells? 0 (a.add (i*sz)) sz=some c∧∃b,DataW.trod enc P w 0 (fun _=>true) true g e c=some b∧elems[i]? =some b:=by
      intro i o
      obtain ⟨b,r,G⟩:=I4 hel i i (by simp [o])
      cases hcc:w.cells? 0 (a.add (i*sz)) sz with
      |none=>simp [hcc] at r
      |some c=>rw [hcc] at r;exact ⟨c,rfl,b,r,G⟩
     have J:∃f:List (List Value),f.length=len∧∀i c,f[i]? =some c→w.cells? 0 (a.add (i*sz)) sz=some c:=by
      refine ⟨(range len).map (fun i=>(w.cells? 0 (a.add (i*sz)) sz).getD []),by simp,fun i c k=> ?_⟩
      have o:i<len:=by
       rcases Nat.lt_or_ge i len with h|h
       ·exact h
       ·rw [getElem?_eq_none (by simpa using h)] at k;cases k
      obtain ⟨U,y,_⟩:=AS i o
      simp [o,y] at k
      rw [y,k]
     obtain ⟨f,N,p⟩:=J
     have m:∀c ∈ f,c.length=sz:=fun c k=>by
      obtain ⟨i,o⟩:=List.mem_iff_getElem?.1 k
      exact (Lq (p i c o)).1
     have F:∀(l:List (List Value)),(∀c ∈ l,c.length=sz)→l.flatten.length=l.length*sz:=by
      intro l
      induction l with
      |nil=>intro _;simp
      |cons c l ih=>intro h;rw [flatten_cons,length_append,ih (fun c k=>h c (by simp [k])),h c (by simp),length_cons,Nat.succ_mul];omega
     refine ⟨_,len,f.flatten,rfl,⟨by rw [F f m,N],some a,cap,rfl,L,C,(fun h=>by cases h),fun V T j u D=> ?_⟩, ?_,fun i o=> ?_⟩
     ·cases T
      obtain ⟨i,c,B,R,X⟩:=Jj m j u D
      have:=(Lq (p i c B)).2 _ _ R
      rw [Hy] at this
      rwa [show i*sz+(j - i*sz)=j by omega] at this
     ·have:=Q ((elems.length+A.length)*P.bytesOf e) (by simp [DataW.weights,I])
      rw [z] at this
      exact Nat.le_trans (Nat.mul_le_mul_right _ (Nat.le_add_right _ _)) this
     ·obtain ⟨c,k,b,r,G⟩:=AS i o
      have K:f[i]? =some c:=by
       have q:i<f.length:=by omega
       have B:=p i f[i] (getElem?_eq_getElem q)
       rw [k] at B
       rw [getElem?_eq_getElem q]
       exact B.symm
      rw [K0 m i c K]
      refine ⟨g,b.1,b.2,by simpa using r,fun x S=>Q x ?_⟩
      simp only [DataW.weights,I,mem_cons,mem_append]
      right;left
      exact Hm (i:=i) (d:=b.1) (by simp [G]) x S
   ·cases h
theorem In.struct {t:TypeId} {l:Array Field} {cs:List Value} (k:P.underlying t=some (.struct l)) (h:In enc P w t cs):
  cs.length=P.cellsOf t∧∀(i:Nat) (f:Field),l[i]? =some f→In enc P w f.type ((cs.drop f.offset).take (P.cellsOf f.type)):=by
 obtain ⟨a,d,ps,h,m⟩:=h
 cases a with
 |zero=>simp [DataW.trod] at h
 |succ a=>
  unfold DataW.trod at h
  rw [k] at h
  split at h<;>try (simp_all;done)
  rename_i r o c
  simp only [Option.some.injEq,TypeDesc.struct.injEq] at c
  subst c
  split at h
  ·rename_i n
   simp only [Option.map_eq_some_iff] at h
   obtain ⟨xs,e,h⟩:=h
   simp only [Prod.mk.injEq] at h
   obtain ⟨h,_⟩:=h
   subst h
   refine ⟨n,fun i f g=> ?_⟩
   obtain ⟨b,q,p⟩:=I4 e i f (by simpa using g)
   refine ⟨a,b.1,b.2,by simpa using q,fun x s=>m x ?_⟩
   simp only [DataW.weights,k]
   exact DataW.weights_mem_each (j:=i) (t:=f.type) (d:=b.1) (by simp [g]) (by simp [p]) x s
  ·cases h
theorem TT {m:Int} (h:(Lit.int .u8 m).wf=true):Value.int .u8 m=b8 (BitVec.ofInt 8 m):=by
 simp [Lit.wf,IntKind.min,IntKind.max,IntKind.signed,IntKind.bits] at h
 have:((BitVec.ofInt 8 m).toNat:Int)=m:=by rw [BitVec.toNat_ofInt];omega
 unfold b8;rw [this]
theorem Uj {m:Int} (h:(Lit.int .i32 m).wf=true):Value.int .i32 m=i32 (BitVec.ofInt 32 m):=by
 simp [Lit.wf,IntKind.min,IntKind.max,IntKind.signed,IntKind.bits] at h
 have:(BitVec.ofInt 32 m).toInt=m:=by rw [BitVec.toInt_ofInt,Int.bmod_def];omega
 unfold i32;rw [this]
theorem QD {m:Int} (h:(Lit.int .i64 m).wf=true): -9223372036854775808≤m∧m≤9223372036854775807:=by
 simp [Lit.wf,IntKind.min,IntKind.max,IntKind.signed,IntKind.bits] at h
 omega
theorem In.num {α:Type} {e:TypeId} {k:IntKind} (f:Int→α) (g:α→Value) (c:∀m,(Lit.int k m).wf=true→Value.int k m=g (f m)) (d:P.underlying e=some (.int k)) {cs:List Value} (h:In enc P w e cs):∃a,cs=[g a]:=by
 obtain ⟨m,rfl,b⟩:=h.int d
 exact ⟨f m,by rw [c m b]⟩
theorem In.slT {α:Type} {t e:TypeId} {g:α→Value} {cs:List Value} (q:P.underlying t=some (.slice e)) (o:P.cellsOf e=1) (p:∀cs,In enc P w e cs→∃a,cs=[g a]) (h:In enc P w t cs):
  ∃v l,cs=[v]∧BO g w v l∧l.length*P.bytesOf e≤reachBytes:=by
 obtain ⟨v,n,xs,rfl,hs,r,j⟩:=h.slice q o
 have hall:∀i,i<n→∃a,xs[i]? =some (g a):=by
  intro i m
  obtain ⟨a,d⟩:=p _ (j i m)
  refine ⟨a, ?_⟩
  have:=cngA (fun l=>l[0]?) d
  simpa [getElem?_take,getElem?_drop] using this
 have b:xs.length=n:=by have:=hs.len;omega
 have k:∀(c:List Value),(∀i,i<c.length→∃a,c[i]? =some (g a))→∃l:List α,c=l.map g:=by
  intro c
  induction c with
  |nil=>intro _;exact ⟨[],rfl⟩
  |cons y c ih=>
   intro h
   obtain ⟨a,d⟩:=h 0 (by simp)
   obtain ⟨l,rfl⟩:=ih (fun i m=>by simpa using h (i+1) (by simpa using m))
   simp only [getElem?_cons_zero,Option.some.injEq] at d
   exact ⟨a::l,by simp [d]⟩
 obtain ⟨l,rfl⟩:=k xs (by rw [b];exact hall)
 have f:l.length=n:=by simpa using b
 subst f
 exact ⟨v,l,rfl,hs,r⟩
theorem TZ {ts:List TypeId} {ds:List (DataW H)} {j:Nat} {t:TypeId} {v:Value} {d:DataW H} {ps:List MemPlace} (f:(DataW.weightsEach P ts ds).all (·≤reachBytes)=true) (c:ts[j]? =some t) (b:ds[j]? =some d)
  (h:DataW.Trod enc P w 0 (fun _=>true) true t v d ps):In enc P w t v.cells.toList:=by
 obtain ⟨a,h⟩:=h
 exact ⟨a,d,ps,h,fun x e=>by simpa using List.all_eq_true.1 f x (DataW.weights_mem_each c b x e)⟩
open Go.WideShapes in
theorem TP {α:Type} {base:Nat} {t e:TypeId} {g:α→Value} {v:Value} (d:P.underlying t=some (.slice e)) (b:P.cellsOf e=1) (i:∀cs,In enc P w e cs→∃a,cs=[g a]) (f:Value.okWide P w .any base t v) (h:In enc P w t v.cells.toList):
  ∃l,BO g w v l∧l.length*P.bytesOf e≤reachBytes:=by
 obtain ⟨a,len,cap,rfl⟩:=okWide_slice d f
 obtain ⟨v,l,c,hs,j⟩:=h.slT d b i
 simp [Value.cells] at c
 subst c
 exact ⟨l,hs,j⟩
open Go.WideShapes in
theorem OJ {base:Nat} {t:TypeId} {c:Array Field} {v:Value} (b:P.underlying t=some (.struct c)) (a:Value.okWide P w .any base t v) (h:In enc P w t v.cells.toList):∃cs:List Value,v= .agg cs.toArray∧In enc P w t cs:=by
 obtain ⟨cs,rfl,_⟩:=okWide_struct b a
 exact ⟨cs.toList,by simp,by simpa [Value.cells] using h⟩
theorem Qc {f:FuncId} {args:Array Value} (h:AK P f args.toList w (fun r a=>r= .bool true∧Below w.heap.size w a)):
  Calls P f args w fun e a=>e= .returned (.bool true)∧Below w.heap.size w a:=by
 have:=h.2
 rw [Array.toArray_toList] at this
 exact this.mono fun e a ⟨v,c,b,d⟩=>⟨by rw [c,b],d⟩
end

section
variable {P : Program} {Q : BZ} {n : Nat} {E : CR} {w : World} {l0 rest : List Oper} {ty : TypeId} {pos : String} {af : Array Edge}
variable {x y z : Operand} {v u : Value} {t s e t2 : TypeId} {l : List (BitVec 8)} {a b : ByteArray}
end
end Go.Dd

namespace Go.Dd
open Go Go.RowKit
open List hiding get
section
variable {P : Program} {Q : BZ} {n : Nat} {E : CR} {w : World} {ty t s e : TypeId} {x y : Operand} {a b : ByteArray} {u v z : Value}
theorem Ds {d:Func} {R:Value→World→Prop} {p q r:Nat} (i:d.results= #[.tmp p, .tmp q, .tmp r]) (f:get E p=some u) (g:get E q=some v) (j:get E r=some z) (h:R (.tuple #[u,v,z]) w):Pw n E (SJ P d R .ret) w:=fun a c=>
 bodyPost_ret (v:= .tuple #[u,v,z]) (by rw [results_tmp3 i];simp [Array.getD_eq_getD_getElem?,c.has _ _ f,c.has _ _ g,c.has _ _ j]) c.dfr ⟨_,rfl,h⟩
end
end Go.Dd

namespace Go.Dd
open Go Go.RowKit List
def dfr (f:FuncId) (caps:List Value):Deferred:={target:= .fn (.func f) caps.toArray,args:= #[]}
def UT (P:Program) (fn:Func) (R:Value→World→Prop):BZ:=bodyPostD P fn (fun e w' =>∃v,e= .returned v∧R v w')
section
variable {P : Program} {Q : BZ} {n : Nat} {E : CR} {w w2 : World} {D : List Deferred} {l0 rest : List Oper} {ty : TypeId} {pos : String} {af : Array Edge} {f : FuncId} {caps : List Value} {fn : Func} {R : Value → World → Prop} {pv : Value}
theorem Gp {f : FuncId} {c : Code} {args : List Value} (e : P.funcs[f]? = some fn) (a : (fn.name == "runtime.NumGoroutine") = false) (g : fn.body = some c)
  (l:fn.ntmps=n) (k:Nat.ble args.length n=true) (h:Cg none [] P (UT P fn R) n c (params 0 args) w):AK P f args w R:=by
 refine ⟨⟨fn,e,a,by simp [g]⟩,calls_of_wp_defers e g ((wpIn_wide (n:=9)).1 (h _ ⟨rfl, ?_,fun i v j=> ?_⟩))⟩
 ·have:args.length≤n:=Nat.le_of_ble_eq_true k
  simp [l];omega
 ·have d:=(EP args 0 i v j).2
  simp only [Nat.sub_zero] at d
  have b:i<args.length:=by
   rcases Nat.lt_or_ge i args.length with h|h
   ·exact h
   ·simp [getElem?_eq_none h] at d
  rw [Array.getElem?_append]
  simp only [size_toArray,b,if_true,getElem?_toArray]
  exact d
theorem Lg.defer {y:Operand} {ts:Array TypeId} (c:ev E y=some (.func (.func f) #[] caps.toArray)) (k:Lg none (dfr f caps::D) P l0 Q n rest E w):
  Lg none D P l0 Q n (⟨none, .defer {callee:= .value y,args:= #[],argTypes:=ts},ty,pos,af,none⟩::rest) E w:=fun a b=>wpListIn_plain rfl fun K e=>by
 refine ⟨fun _ _=>trivial, ?_⟩
 have d:(execOp a.eval ⟨none, .defer {callee:= .value y,args:= #[],argTypes:=ts},ty,pos,af,none⟩).run P w= .ok (.defer (dfr f caps)) w:=by
  simp [execOp,resolve,b.ev c,Deferred.ofValue,dfr]
 rw [show (rnd none).round=none from rfl,Oper.semAt_none,d]
 exact e _ _ (k _ ⟨by show dfr f caps::a.defers=_;rw [b.dfr],b.size,b.has⟩)
theorem Pg.retD (k:(invoke (.fn (.func f) caps.toArray) #[]).run P w= .ok (.enter f caps.toArray) w) (h:CallsD P f caps.toArray .returning w fun e g c=>e= .returned (.tuple #[])∧g= .returning∧c=w)
  (b:∀a,CO [dfr f caps] n E a→∃v,(results fn a.tmps).run P w= .ok v w∧R v w):Pg [dfr f caps] n E (UT P fn R .ret) w:=fun a d=>by
 show Leaves P fn a.tmps _ a.defers .returning w
 rw [d.dfr]
 refine leaves_cons (by simp) k (h.mono ?_)
 rintro e g c ⟨rfl,rfl,rfl⟩
 obtain ⟨v,j,i⟩:=b a d
 exact ⟨v,j,v,rfl,i⟩
theorem Pg.panD {h:World→Prop} (m:(invoke (.fn (.func f) caps.toArray) #[]).run P w= .ok (.enter f caps.toArray) w) (j:CallsD P f caps.toArray (.panicking [{v:=pv,recovered:=false}]) w fun e g c=>e= .returned (.tuple #[])∧g= .panicking [{v:=pv,recovered:=true}]∧h c)
  (b:∀w2,h w2→∀a,CO [dfr f caps] n E a→∃v,(results fn a.tmps).run P w2= .ok v w2∧R v w2):Pg [dfr f caps] n E (UT P fn R (.panic [{v:=pv,recovered:=false}])) w:=fun a d=>by
 show Leaves P fn a.tmps _ a.defers (.panicking _) w
 rw [d.dfr]
 refine leaves_cons (by simp) m (j.mono ?_)
 rintro e g c ⟨rfl,rfl,i⟩
 obtain ⟨v,l,k⟩:=b c i a d
 exact ⟨v,l,v,rfl,k⟩
theorem Pg.thenP {K:Act→World→Prop} {c:List PanicEntry} (h:Pg D n E (Q (.panic c)) w):Pg D n E (CQ K Q (.panic c)) w:=h
theorem Pg.lowP {c:List PanicEntry} (h:Pg D n E (Q (.panic c)) w):Pw n E (Ib D Q (.panic c)) w:=fun a b=>h _ (b.g D)
theorem Lw.callVQ {d:Nat} {y:Operand} {ts:Array TypeId} {K:World→Prop} (l:ev E y=some (.func (.func f) #[] caps.toArray)) (j:Nat.blt d n=true) (i:Ls P f caps w pv R K)
  (o:∀b,K b→Pw n E (Q (.panic [{v:=pv,recovered:=false}])) b) (k:∀v b,R v b→Lw P l0 Q n rest ((d,v)::E) b):Lw P l0 Q n (⟨some d, .call {callee:= .value y,args:= #[],argTypes:=ts},ty,pos,af,none⟩::rest) E w:=
 fun a g=>wpList_plain rfl fun p h=>by
  unfold Oper.wp
  have m:(execOp a.eval ⟨some d, .call {callee:= .value y,args:= #[],argTypes:=ts},ty,pos,af,none⟩).run P w= .ok (.enter f caps.toArray) w:=by
   simp [execOp,resolve,g.ev l,Deferred.ofValue,invoke,EY (P:=P) (w:=w) i.1]
  rw [m]
  refine i.2.mono fun e b q=> ?_
  rcases q with ⟨v,rfl,c⟩|⟨rfl,c⟩
  ·exact h _ _ (k v b c _ (g.put v j))
  ·exact o b c a g
def UR (P:Program) (fn:Func) (c₀:Frame) (cs:List Frame) (u:FrameMode) (R:Ending→FrameMode→World→Prop):BZ:=fun e a w=>bodyPostS P fn c₀ cs R e a ({c₀ with mode:=u}::cs) w
theorem Gb {a:Frame} {cs:List Frame} {u:FrameMode} {R:Ending→FrameMode→World→Prop} (c:fn.results= #[]) (h:R (.returned (.tuple #[])) u w):Pw n E (UR P fn a cs u R .normal) w:=fun _ b=>
 ⟨b.dfr,u,rfl, .tuple #[],by rw [results_none c],h⟩
theorem Nm {f:FuncId} {args:List Value} {R:Ending→FrameMode→World→Prop} {l d:Nat} {c:Call} {rest:Code} {v:Value} {a:List PanicEntry} (m:P.funcs[f]? =some fn)
  (t:fn.body=some (.seq (.region l #[⟨some d, .call c,ty,pos, #[],none⟩] false) rest)) (u:∀(ρ:Operand→Value),(execOp ρ ⟨some d, .call c,ty,pos, #[],none⟩).run P w= .ok .recover w) (x:fn.ntmps=n) (p:Nat.ble args.length n=true) (k:Nat.blt d n=true)
  (h:∀e cs,Cw P (UR P fn e cs (.panicking ({v,recovered:=true}::a)) R) n rest ((d,v)::params 0 args) w):CallsD P f args.toArray (.panicking ({v,recovered:=false}::a)) w R:=by
 refine callsD_of_wpS m t fun e cs s=>wpS_seq (wpS_region ?_)
 have b:CE n (params 0 args) {tmps:=args.toArray++Array.replicate (fn.ntmps - args.toArray.size) undef,defers:=[]}:=by
  refine ⟨rfl, ?_,fun i v o=> ?_⟩
  ·have:args.length≤n:=Nat.le_of_ble_eq_true p
   simp [x];omega
  ·have j:=(EP args 0 i v o).2
   simp only [Nat.sub_zero] at j
   have g:i<args.length:=by
    rcases Nat.lt_or_ge i args.length with h|h
    ·exact h
    ·simp [getElem?_eq_none h] at j
   rw [Array.getElem?_append]
   simp only [size_toArray,g,if_true,getElem?_toArray]
   exact j
 have r:=h e cs _ (b.put v k)
 have q:=wpS_of_wp (cs:={e with mode:= .panicking ({v,recovered:=true}::a)}::cs) (Q:=bodyPostS P fn e cs R) r
 simp only [size_toArray,length_cons,length_nil]
 show wpOpsS P _ _ [0] _ _ _
 simp only [wpOpsS,getElem?_toArray,getElem?_cons_zero,Region.wanted,u,recoverD,s]
 exact q
theorem Nl {f:FuncId} {args:List Value} {R:Ending→FrameMode→World→Prop} {o d:Nat} {c:Call} {rest:Code} (p:P.funcs[f]? =some fn)
  (t:fn.body=some (.seq (.region o #[⟨some d, .call c,ty,pos, #[],none⟩] false) rest)) (u:∀(ρ:Operand→Value),(execOp ρ ⟨some d, .call c,ty,pos, #[],none⟩).run P w= .ok .recover w) (x:fn.ntmps=n) (r:Nat.ble args.length n=true) (m:Nat.blt d n=true)
  (h:∀a cs,Cw P (UR P fn a cs .returning R) n rest ((d, .nilIface)::params 0 args) w):CallsD P f args.toArray .returning w R:=by
 refine callsD_of_wpS p t fun a cs k=>wpS_seq (wpS_region ?_)
 have b:CE n (params 0 args) {tmps:=args.toArray++Array.replicate (fn.ntmps - args.toArray.size) undef,defers:=[]}:=by
  refine ⟨rfl, ?_,fun i v q=> ?_⟩
  ·have:args.length≤n:=Nat.le_of_ble_eq_true r
   simp [x];omega
  ·have j:=(EP args 0 i v q).2
   simp only [Nat.sub_zero] at j
   have g:i<args.length:=by
    rcases Nat.lt_or_ge i args.length with h|h
    ·exact h
    ·simp [getElem?_eq_none h] at j
   rw [Array.getElem?_append]
   simp only [size_toArray,g,if_true,getElem?_toArray]
   exact j
 have e:({a with mode:= .returning}:Frame)=a:=by cases a;simp only at k;rw [k]
 have s:=h a cs _ (b.put .nilIface m)
 have l:=wpS_of_wp (cs:={a with mode:= .returning}::cs) (Q:=bodyPostS P fn a cs R) s
 rw [e] at l
 show wpOpsS P _ _ [0] _ _ _
 simp only [wpOpsS,getElem?_toArray,getElem?_cons_zero,Region.wanted,u,recoverD,k]
 exact l
theorem HI {p b:Nat} {T:TypeId} {v:Value} {d:TypeDesc} (h:fn.results= #[.cell p ty]) (j:AP w b T [v]) (i:P.underlying ty=some d) (c:(match d with| .struct _| .array _ _=>true|_=>false)=false) {a:Act} (e:a.tmps[p]? =some (.pointer (some ⟨b,0,none⟩))):
  (results fn a.tmps).run P w= .ok v w:=by
 have k:w.cell? ⟨b,0,none⟩=some v:=by simp [World.cell?,show w.heap[b]? =_ from j]
 have g:(isAgg ty).run P w= .ok false w:=by
  simp [isAgg,run_underlying i]
  revert c
  cases d<;>simp
 simp [results,h,e,asAddr,loadVar,g,go_sem,k]
theorem Ex.eqNilT {x:Operand} {t s:TypeId} (c:P.underlying t=some (.interface (P.methodsAt t))) (d:ev E x=some .nilIface):Ex P n E (.binOp .eql t x (.const .nilIface) s) ty w (.bool true):=fun a b _ _ _ _=>by
 simp only [execOp,b.ev d,show a.eval (.const .nilIface)= .nilIface from rfl,eqGuard_nil_constR]
 simp [run_eql_nil_nil w t c]
theorem Ex.eqNilF {x:Operand} {t s T:TypeId} {u:Value} (c:P.underlying t=some (.interface (P.methodsAt t))) (d:ev E x=some (.iface T u)):Ex P n E (.binOp .eql t x (.const .nilIface) s) ty w (.bool false):=fun a b _ _ _ _=>by
 simp only [execOp,b.ev d,show a.eval (.const .nilIface)= .nilIface from rfl,show ∀(p q:Operand),eqGuard .eql t p q (.iface T u) .nilIface=pure () from fun _ _=>rfl]
 simp [run_eql_held_nil w t T u c]
theorem Gh {x:Operand} {t T:TypeId} {u:Value} (c:∀w,(Instr.typeAssert (.iface T u) t T true).run P w= .ok (.tuple #[u, .bool true]) w) (d:ev E x=some (.iface T u)):Ex P n E (.typeAssert x t T true) ty w (.tuple #[u, .bool true]):=fun a b _ _ _ _=>by
 simp [execOp,b.ev d,c w]
end

end Go.Dd

namespace Go.Dd
open Go Go.RowKit
open List hiding prod
namespace Shapes
end Shapes
open Shapes
def pl (s:List Int) (l:List (BitVec 32)) (p:List Int):BitVec 32:=l.getD (idx s p).toNat default
def mk (s:List Int) (f:List Int→BitVec 32):List (BitVec 32):=(range (prod s).toNat).map fun i:Nat=>f (M7 s (i:Int))
def wo (s:List Int) (k:Nat):List Int:=s.take k++s.drop (k+1)
def VA (k:Nat) (j:Int) (q:List Int):List Int:=q.take k++j::q.drop k
theorem P3 {s:List Int} {k:Nat} (h:k<s.length):(wo s k).length=s.length - 1:=by
 unfold wo;rw [length_append,length_take,length_drop];omega
theorem N6 {s:List Int} {k:Nat} (h:s.length≠1):FR s k=wo s k:=by unfold FR;rw [if_neg h];rfl
def Ij (l:List (BitVec 32)):BitVec 32:=sm l.length fun i=>l.getD i default
end Go.Dd

namespace Go.Proofs.YtblbopcaflaldaaGreatDoor
open Go Go.Dd Go.RowKit List Go.Proofs.Tryz
set_option maxRecDepth 100000
theorem QL {l:List Int} {i:Nat} {n:Int} (h:i<l.length):Shapes.tim n (l.drop i)=(if l.getD i default<1∨64<l.getD i default then 0 else if 4096<n*l.getD i default then 0 else Shapes.tim (n*l.getD i default) (l.drop (i+1))):=by
 rw [drop_eq_getElem_cons h];simp [Shapes.tim,h]
theorem SX (v:Value) (l:List Int) (w:World) (o:BO (Value.int .i64) w v l):AK prog 223 [v] w (fun r f=>r= .int .i64 (Shapes.tim 1 l)∧Below w.heap.size w f):=by
 have p:=o.le
 refine Az (n:=25) func223 O<|Ad<|Ab O<|Be<|Ab O<|Bi<|Ac O<|Aa (Ap AE O ‹_›) O ?_
 refine Ac O<|Ak<|An ?_
 refine Bl (S:=(Nat×Int)) (fun s=>[(3, .int .i64 s.2),(6,v),(7, .int .i64 (l.length:Int)),(8, .int .i64 (s.1:Int))]) (fun s f=>s.1≤l.length∧(1≤s.2∧s.2≤4096)∧Shapes.tim s.2 (l.drop s.1)=Shapes.tim 1 l∧f=w) (fun s=>l.length - s.1) ((0,1)) ⟨rfl,rfl,rfl,rfl,trivial⟩ ?_ ?_
 ·exact ⟨by simp,by simp,by simp,rfl⟩
 rintro ⟨i,n⟩ t ⟨q,m,a,rfl⟩
 dsimp only at q m a ⊢
 refine Ad<|Bz O<|Ak<|Ao<|Aq O ?_ ?_
 ·intro h
  have b:i<l.length:=by simp at h;omega
  rw [QL b] at a
  refine Bw<|Ao<|An<|Ad<|Aa (Bh AE O O ‹_› _ O (by omega)) O ?_
  refine Aa (Bo (AO _) O ‹_› (by omega)) O ?_
  refine Ab O<|Bi<|Ac O<|Bz O<|Ac O ?_
  generalize l.getD i default=x at a ⊢
  refine Cc 14 O ?_ ?_
  ·intro j
   have e:=AC j
   refine Ae (dj:=14) O O O O<|Ae (dj:=14) O O O O<|B7 O<|Ak<|Ca O<|Ad<|Ab O<|B2<|Bj<|Av<|Av<|Bj<|Av<|As O O ?_
   refine ⟨?_,Below.refl _ _⟩
   rw [← a,if_pos (.inl e)]
  intro j
  have e:=AD j
  refine Ag (dj:=14) O O<|Ac O<|Ag (dj:=14) O O<|Aa (Dh O O) O<|Ci O<|Ak<|Aq O ?_ ?_
  ·intro g
   have d:=AC g
   refine Ad<|Ab O<|B2<|Bj<|Av<|Av<|Bj<|Av<|As O O ?_
   refine ⟨?_,Below.refl _ _⟩
   rw [← a,if_pos (.inr d)]
  intro g
  have d:=AD g
  have u:n*1≤n*x∧n*x≤4096*64:=⟨Int.mul_le_mul_of_nonneg_left (by omega) (by omega),Int.mul_le_mul m.2 (by omega) (by omega) (by omega)⟩
  rw [if_neg (by omega)] at a
  refine Cs<|Ac O<|Ac O<|Aa (Dv O O (by omega)) O<|Ab O<|Be<|Ac O<|Aa (Dh O O) O<|Ak<|Aq O ?_ ?_
  ·intro k
   have c:=AC k
   refine Ad<|Ab O<|Ay<|Bj<|Av<|Av<|Bj<|Av<|As O O ?_
   refine ⟨?_,Below.refl _ _⟩
   rw [← a,if_pos c]
  intro k
  have c:=AD k
  rw [if_neg c] at a
  refine Cj<|Bg<|B6<|B1 O (by omega)<|Ac O<|Bd ?_
  exact Ar (Bp ((i+1,n*x)) ⟨rfl,rfl,rfl,rfl,trivial⟩ (⟨b,⟨by omega,by omega⟩,a,rfl⟩) (by simp only;omega))
 ·intro h
  have b:i=l.length:=by simp at h;omega
  subst b
  refine Bk<|Aj<|Aj<|A0<|Cb<|Ac O<|Ab O<|Ay<|As O O ?_
  refine ⟨?_,Below.refl _ _⟩
  rw [← a,drop_length];rfl
theorem JM (v:Value) (l:List Int) (w:World) (f:BO (Value.int .i64) w v l):AK prog 138 [v] w (fun r e=>r= .int .i64 (Shapes.size l)∧Below w.heap.size w e):=by
 refine Az (n:=13) func138 O<|Ad<|Ab O<|Bi<|Ac O<|Aa (Ap AE O ‹_›) O ?_
 refine Bz O<|Ac O ?_
 refine Cc 6 O ?_ ?_
 ·intro c
  have d:=AC c
  exact Ae (dj:=6) rfl rfl rfl rfl<|Ae (dj:=6) rfl rfl rfl rfl<|Ae (dj:=6) rfl rfl rfl rfl<|B7 rfl<|Ak<|Ca rfl<|Ad<|Ab rfl<|B2<|As rfl rfl<|⟨by rw [Shapes.size,if_pos (by omega)],Below.refl _ _⟩
 intro c
 have d:=AD c
 refine Ag (dj:=6) O O<|Ac O<|Ag (dj:=6) O O<|Aa (Ap AE O ‹_›) O ?_
 refine Ag (dj:=6) O O<|Aa (Dh O O) O<|Ci O<|Ak<|Aq O ?_ ?_
 ·intro b
  have a:=AC b
  exact Ad<|Ab rfl<|B2<|As rfl rfl<|⟨by rw [Shapes.size,if_pos (by omega)],Below.refl _ _⟩
 intro b
 have a:=AD b
 refine Cs<|Ac O<|Ai O O (SX v l w f) ?_
 rintro _ h ⟨rfl,g⟩
 exact Ab rfl<|Ay<|As rfl rfl<|⟨by rw [Shapes.size,if_neg (by omega)],g⟩
theorem FU (v:Value) (l:List Int) (w:World) (b:BO (Value.int .i64) w v l):AK prog 137 [v] w (fun r a=>r= .bool (Shapes.ok l)∧Below w.heap.size w a):=by
 refine Az (n:=6) func137 O<|Ad<|Ab O<|Be<|Ac O<|Ai O O (JM v l w b) ?_
 rintro _ d ⟨rfl,c⟩
 exact Aa (Dh rfl rfl) rfl<|Ab rfl<|Ay<|As rfl rfl<|⟨rfl,c⟩

def L1 (s:List Int) (l:List (BitVec 32)):Bool:=Shapes.ok s && decide ((l.length:Int)=Shapes.size s)
theorem K3 (a b:Value) (c:a.cells=[a].toArray) (g:b.cells=[b].toArray):Tryz.prog.built 75 [(0,a),(1,b)]=some [a,b].toArray:=by
 have e:Tryz.prog.info? 75=some Tryz.t75:=rfl
 have d:Tryz.prog.info? 70=some Tryz.t70:=rfl
 have f:Tryz.prog.info? 73=some Tryz.t73:=rfl
 simp [Program.built,e,underlying75,d,f,Instr.fill,c,g]
 rfl
theorem QM (x y:Value) (s:List Int) (l:List (BitVec 32)) (w:World) (k:BO (Value.int .i64) w x s) (h:BO i32 w y l):
  AK prog 35 [.agg #[x,y]] w (fun r f=>r= .bool (L1 s l)∧Below w.heap.size w f):=by
 refine Az (n:=15) func35 O<|Ad<|Bc (Xw.box (cs:=[x,y]) O O) O ?_
 rintro _ b ⟨rfl,m,c,e⟩
 have d:=k.bs c
 have i:=h.bs c
 refine Ab O<|Ak<|Ao<|Da BB (by kernel_rfl)<|Ah (fun b a=>B8 underlying75 O (AT _)) O<|Ah (fun b a=>Al (AN _) O (AP.bs ‹_› a) O) O ?_
 refine Db O O (fun b a=>(FU x s b (d.bs a)).q a)<|Bq O ?_
 refine Dj 6 O ?_ ?_
 ·intro g
  refine Bb (dj:=6) O O<|Ah (fun b a=>B8 underlying75 O (CW _)) O<|Bb (dj:=6) O O<|Ah (fun b a=>Al (DC _) O (AP.bs ‹_› a) O) O ?_
  refine Bb (dj:=6) O O<|Ah (fun b a=>Ap BP O (Sl.bs ‹_› a)) O ?_
  refine Bb (dj:=6) O O<|Ah (fun b a=>B8 underlying75 O (AT _)) O<|Bb (dj:=6) O O<|Ah (fun b a=>Al (AN _) O (AP.bs ‹_› a) O) O ?_
  refine Bb (dj:=6) O O<|Db O O (fun b a=>(JM x s b (d.bs a)).q a)<|Bb (dj:=6) O O<|Ah (fun b a=>C6 O O) O<|Ah (fun b a=>C3 O O) O<|Dx O ?_
  refine C2 (fun j a=> ?_)
  refine Ar<|B9<|Dq<|As O O ?_
  exact ⟨cngA Value.bool (by unfold L1;rw [g];rfl),bt c a⟩
 ·intro g
  refine Au (dj:=6) O O O O<|Au (dj:=6) O O O O<|Au (dj:=6) O O O O<|Au (dj:=6) O O O O<|Au (dj:=6) O O O O<|Au (dj:=6) O O O O<|Au (dj:=6) O O O O<|Ah (fun b a=>C0 O O) O<|Dx O ?_
  refine C2 (fun j a=> ?_)
  refine Ar<|B9<|Dq<|As O O ?_
  exact ⟨cngA Value.bool (by unfold L1;rw [g];rfl),bt c a⟩
theorem Hv (u v:Value) (a b:List Int) (w:World) (s:BO (Value.int .i64) w u a) (A:BO (Value.int .i64) w v b):AK prog 143 [u,v] w (fun r m=>r= .bool (decide (a=b))∧Below w.heap.size w m):=by
 have B:=s.le
 refine Az (n:=26) func143 O<|Ad<|Ab O<|Bi<|Ac O<|Aa (Ap AE O ‹_›) O ?_
 refine Ac O<|Aa (Ap AE O ‹_›) O ?_
 refine Aa (Ct O O) O<|Ak<|Aq O ?_ ?_
 ·intro h
  have o:a≠b:=fun e=>by subst e;simp at h
  exact Ad<|Ab rfl<|B2<|As rfl rfl<|⟨by rw [decide_eq_false o],Below.refl _ _⟩
 intro h
 have z:a.length=b.length:=by simp at h;omega
 refine Bw<|Ao<|Ad<|Ac O<|Aa (Ap AE O ‹_›) O ?_
 refine Ac O<|Ak<|An ?_
 refine Bl (S:=Nat) (fun i=>[(0,u),(1,v),(12, .int .i64 (a.length:Int)),(13, .int .i64 (i:Int))]) (fun i m=>i≤a.length∧a.take i=b.take i∧Below w.heap.size w m) (fun i=>a.length - i) (0) ⟨rfl,rfl,rfl,rfl,trivial⟩ ?_ ?_
 ·exact ⟨by omega,by simp,Below.refl _ _⟩
 rintro i j ⟨C,p,f⟩
 have t:=s.bs f
 have x:=A.bs f
 refine Ad<|Bz O<|Ak<|Ao<|Aq O ?_ ?_
 ·intro h
  have c:i<a.length:=by simp at h;omega
  have k:i<b.length:=by omega
  refine Bw<|Ao<|An<|Ad<|Ac O<|Ab O<|Ak<|Ao<|Da BB (by kernel_rfl)<|Bq O<|Bq O<|Ah (fun j d=>Bh AE O O (Sl.bs ‹_› d) _ O (by omega)) O ?_
  refine Ah (fun j d=>Bo (AO _) O (Sl.bs ‹_› d) (by omega)) O ?_
  refine Bq O<|Bq O<|Ah (fun j d=>Bh AE O O (Sl.bs ‹_› d) _ O (by omega)) O ?_
  refine Ah (fun j d=>Bo (AO _) O (Sl.bs ‹_› d) (by omega)) O ?_
  refine Ah (fun j d=>Ct O O) O ?_
  refine C2 (fun D d=> ?_)
  refine Ar<|B9 ?_
  have l:=bt f d
  refine Aq O ?_ ?_
  ·intro g
   have q:a.getD i default≠b.getD i default:=by simpa using g
   exact Ad<|Ab rfl<|Ay<|Bj<|Av<|Av<|Bj<|Av<|As rfl rfl<|⟨by rw [decide_eq_false (fun e=>q (by rw [e]))],l⟩
  ·intro g
   have q:a.getD i default=b.getD i default:=by simpa using g
   have y:a[i]=b[i]:=by simpa [c,k] using q
   refine Cj<|Bg<|B6<|B1 O (by omega)<|Ac O<|Bd ?_
   exact Ar (Bp (i+1) ⟨rfl,rfl,rfl,rfl,trivial⟩ (⟨c,by rw [take_succ_eq_append_getElem c,take_succ_eq_append_getElem k,p,y],l⟩) (by omega))
 ·intro h
  have c:i=a.length:=by simp at h;omega
  subst c
  refine Bk<|Aj<|Aj<|A0<|Cb<|Ab O<|Ay<|As O O ?_
  exact ⟨by rw [decide_eq_true (by rw [take_length,z,take_length] at p;exact p)],f⟩
theorem J9 (u:Value) (a:List Int) (w:World) (g:BO (Value.int .i64) w u a) (q:a.length≤4194304):AK prog 155 [u] w (fun r i=>i.ownsRow w.heap.size 3 1 r a.length (a.map (Value.int .i64))∧Below w.heap.size w i):=by
 obtain ⟨o,d,cap,rfl,m,k,j,l⟩:=g
 have g:BO (Value.int .i64) w (.slice d a.length cap) a:=⟨o,d,cap,rfl,m,k,j,l⟩
 refine Az (n:=8) func155 O<|Ad<|Ab O<|Bi<|Ac O<|Aa (Ex.nilS OW O O) O<|Ak<|Aq O ?_ ?_
 ·intro h
  obtain rfl:d=none:=by cases d<;>simp_all
  obtain rfl:a=[]:=eq_nil_of_length_eq_zero (by have:=j rfl;omega)
  exact Ad<|Ab rfl<|B2<|As rfl rfl<|⟨⟨rfl, .inl ⟨rfl,rfl⟩⟩,Below.refl _ _⟩
 intro h
 refine Cs<|Bc (Cv (vs:=[]) AE DO O O O O O) O ?_
 rintro s p ⟨e, -,b, -⟩
 refine Ac O<|Bc (De (base:=w.heap.size) AE DO O (by decide) O O e (g.bs b) (BL (fun _=>rfl) _) (by omega) (by omega) b.size) O ?_
 rintro t v ⟨c,f, -⟩
 rw [Nat.zero_add,nil_append] at c
 exact Ab rfl<|Ay<|As rfl rfl<|⟨c,b.trans f⟩
theorem Ma (u:Value) (a:List Int) (w:World) (c:BO (Value.int .i64) w u a):AK prog 136 [u] w (fun r b=>r=clip u∧Below w.heap.size w b):=by
 refine Az (n:=9) func136 O<|Ad<|Ab O<|Be<|Ac O<|Ac O<|Aa (Ap AE O ‹_›) O ?_
 refine Ac O<|Aa (Ap AE O ‹_›) O ?_
 exact Aa (Fl AE rfl rfl rfl c.shp) rfl<|Ab rfl<|Ay<|As rfl rfl<|⟨rfl,Below.refl _ _⟩
structure SK (W w:World) (x y:Value) (s:List Int) (l:List (BitVec 32)):Prop where
 row:AQ w W.heap.size 3 1 x s.length (s.map (Value.int .i64))
 own:w.ownsRow W.heap.size 21 1 y l.length (l.map i32)
 apart:K9 y x
theorem Vr (u:Value) (s:List Int) (w:World) (R:BO (Value.int .i64) w u s):
  AK prog 54 [u] w (fun r S=>Below w.heap.size w S∧((Shapes.ok s=true∧∃x y,r= .tuple #[.agg #[x,y], .int .i64 0]∧SK w S x y s (replicate (Shapes.size s).toNat 0#32))∨(Shapes.ok s=false∧r= .tuple #[.agg #[.slice none 0 0, .slice none 0 0], .int .i64 1]))):=by
 have hsz:=Shapes.size_le s
 refine Az (n:=15) func54 O<|Ad<|Bc (Xw.new EC) O ?_
 rintro _ W ⟨rfl,a,q,hs1⟩
 refine Ab O<|Bi<|Ac O<|Ai O O (FU u s W (R.bs q)) ?_
 rintro _ w2 ⟨rfl,m⟩
 have c:=bt q m
 have a:=a.bs m
 have J:=R.bs c
 refine Aa (Co O) O<|Ak<|Aq O ?_ ?_
 ·intro h
  have G:Shapes.ok s=false:=by simpa using h
  refine Ad<|Ez O<|Bv (C7 (cs:=[.slice none 0 0, .slice none 0 0]) O O O O O a O) ?_
  rintro F ⟨i,K, -⟩
  have p:Below w.heap.size w F:=c.grown K (AA c) (by rintro _ ⟨⟩;exact AU _)
  refine Ab O<|B2<|Di O O O ‹_› underlying75 O O O ?_
  exact ⟨p, .inr ⟨G,rfl⟩⟩
 intro h
 have C:Shapes.ok s=true:=by simpa using h
 have V:=(Shapes.ok_iff s).1 C
 refine Cs<|Ac O<|Ai O O (J9 u s w2 J (by omega)) ?_
 rintro j F ⟨B,i⟩
 have H:=BD B
 have o:=AQ.clip B
 have p:=bt c i
 have a:=a.bs i
 refine Ai O O (Ma j s F H) ?_
 rintro _ X ⟨rfl,f⟩
 have v:=bt p f
 have a:=a.bs f
 refine Ac O<|Ai O O (JM u s X (R.bs v)) ?_
 rintro _ w5 ⟨rfl,e⟩
 have z:=bt v e
 have a:=a.bs e
 refine Cm 12 (v' := .int .i64 (((Shapes.size s).toNat:Nat):Int)) O (cngA (Value.int .i64) (by omega))<|Bc (Eg BP HJ O O O (AU _) (by omega) (by omega)) O ?_
 rintro y w6 ⟨d,T,l, -⟩
 have E:=bt z l
 have a:=a.bs l
 have A:=(o.bs f).bs (bt e l)
 have t:=A.slT
 have z3:=(bt f e).size
 have L:K9 y (clip j):=by
  intro b M I
  rw [T] at M
  cases M
  have U:w5.heap.size<F.heap.size:=(o.lt _ I).2
  omega
 refine Aa (C1 (vs:=[(0,clip j),(1,y)]) (cs:=[clip j,y]) O (K3 _ _ t.one (AF d).one)) O<|Bv (C7 (cs:=[clip j,y]) O O O O (by simp [t.one',(AF d).one']) a O) ?_
 rintro Z ⟨hb7,k, -⟩
 have N:Below w.heap.size w Z:=E.grown k (AA E) (by rintro _ ⟨⟩;exact AU _)
 have z2:=c.size
 have z2' :=m.size
 have z5' :=i.size
 have z5:=z.size
 have D:(replicate (Shapes.size s).toNat [Value.int .i32 0]).flatten=(replicate (Shapes.size s).toNat 0#32).map i32:=by
  generalize (Shapes.size s).toNat=n
  induction n with
  |zero=>rfl
  |succ n ih=>simp [replicate_succ,i32]
 rw [D] at d
 refine Ab O<|Ay<|Di O O O ‹_› underlying75 O O O ?_
 refine ⟨N, .inl ⟨C,clip j,y,rfl, ?_, ?_,L⟩⟩
 ·refine (A.by' k ?_).mono (by omega)
  cases hc:(clip j).ownBlock with
  |none=>exact .inl rfl
  |some b=>
   refine .inr fun h=> ?_
   have:=(o.lt b hc).1
   cases h
   omega
 ·have:=d.kept k (.inr (by rw [T];simp [Value.ownBlock];omega))
  rw [length_replicate]
  exact ⟨this.1,by
   rcases this.2 with h|⟨g,cap,Q,Y,M,I,U⟩
   ·exact .inl h
   ·exact .inr ⟨g,cap,Q,Y,by omega,I,U⟩⟩
structure T4 where
 x:Value
 y:Value
 s:List Int
 l:List (BitVec 32)
def T4.at (t:T4) (w:World):Prop:=BO (Value.int .i64) w t.x t.s∧BO i32 w t.y t.l
theorem T4.at.bs {t:T4} {w a:World} (h:t.at w) (b:Below w.heap.size w a):t.at a:=⟨h.1.bs b,h.2.bs b⟩
def T4.v (t:T4):Value:= .agg #[t.x,t.y]
def cellsOf:List T4→List Value
 |[]=>[]
 |t::ts=>t.x::t.y::cellsOf ts
theorem FY:∀{ts:List T4} {j:Nat} (h:j<ts.length),(cellsOf ts)[j*2]? =some ts[j].x∧(cellsOf ts)[j*2+1]? =some ts[j].y
 |t::ts,0,_=>by simp [cellsOf]
 |t::ts,j+1,h=>by
  have:=FY (ts:=ts) (j:=j) (by simpa using h)
  rw [Nat.succ_mul]
  simpa [cellsOf] using this
theorem T4.at.one {a:T4} {w:World} (h:a.at w):[a.x,a.y].all (·.oneCell')=true:=by simp [h.1.one',h.2.one']

def kv (l:List Int):Value:= .agg (l.map (Value.int .i64)).toArray
def Lk:List (Nat×Int×List Int):=[(2,1,[0,0,0,0,0,1]),(4,2,[0,0,0,0,0,1]),(6,3,[2,2,0,0,0,0]),(8,4,[2,2,0,0,0,0]),(10,7,[2,2,0,0,0,0]),(12,5,[1,1,0,0,0,0]),(16,6,[1,1,0,31,0,0]),(18,8,[2,2,1,8,8,0]),(22,9,[1,1,1,64,0,0]),(24,10,[1,1,0,0,0,1]),(26,11,[1,1,0,0,0,2]),(28,12,[1,4,0,3,0,0]),(32,13,[1,1,0,3,0,0])]
def KD (k v:Value):Prop:=∃p ∈ Lk,k= .int .u8 p.2.1∧v=kv p.2.2
def N1 (L:Nat→Bool) (k v:Value):Prop:=∃p ∈ Lk,L p.1=true∧k= .int .u8 p.2.1∧v=kv p.2.2
def Vu (W:World) (s:Nat) (L:Nat→Bool) (w:World):Prop:=Below W.heap.size W w∧(L 0=true→W.heap.size≤s∧EF w s (.int .u8) (N1 L))
def VN (f:Value) (s:Nat):Nat→Value
 |0|33|34=> .map (some s)
 |1|3=>kv [0,0,0,0,0,1]
 |5|7|9=>kv [2,2,0,0,0,0]
 |11|14|20|30=>kv [1,1,0,0,0,0]
 |13|19|29=>f
 |15=>kv [1,1,0,31,0,0]
 |17=>kv [2,2,1,8,8,0]
 |21=>kv [1,1,1,64,0,0]
 |23=>kv [1,1,0,0,0,1]
 |25=>kv [1,1,0,0,0,2]
 |27=>kv [1,4,0,3,0,0]
 |31=>kv [1,1,0,3,0,0]
 |_=>undef
theorem JE {L:Nat→Bool} {i j:Nat} (h:i≠j):N9 L i j=L j:=by
 unfold N9
 cases hb:Nat.beq i j with
 |false=>rfl
 |true=>exact absurd (Nat.eq_of_beq_eq_true hb) h
theorem QE {L:Nat→Bool} {i:Nat}:N9 L i i=true:=by
 unfold N9;rw [Nat.beq_refl];rfl
theorem EI {W w b:World} {s i:Nat} {L:Nat→Bool} (h:Vu W s L w) (g:Below w.heap.size w b) (j:i≠0) (d:∀p ∈ Lk,i≠p.1):Vu W s (N9 L i) b:=by
 refine ⟨h.1.trans (g.mono (AA h.1)),fun c=> ?_⟩
 rw [JE j] at c
 obtain ⟨f,e⟩:=h.2 c
 refine ⟨f,(e.bs g).congr fun k v=>⟨fun ⟨p,a,q⟩=>⟨p,a,by rw [JE (d p a)];exact q⟩,fun ⟨p,a,q⟩=>⟨p,a,by rw [JE (d p a)] at q;exact q⟩⟩⟩
theorem GS {W w c:World} {s i:Nat} {n:Int} {l:List Int} {L:Nat→Bool} (h:Vu W s L w) (q:L 0=true) (m:(i,n,l) ∈ Lk) (o:∀p ∈ Lk,p.1=i→p=(i,n,l)) 
  (g:EF c s (.int .u8) (fun k v=>N1 L k v∨(k= .int .u8 n∧v=kv l))∧w.grownBy c (some s)∧c.heap.size=w.heap.size):Vu W s (N9 L i) c:=by
 obtain ⟨j,r⟩:=h.2 q
 refine ⟨h.1.grown g.2.1 (AA h.1) (by rintro _ ⟨⟩;exact j),fun _=>⟨j,g.1.congr fun k v=>⟨?_, ?_⟩⟩⟩
 ·rintro (⟨p,a,d,b⟩|⟨rfl,rfl⟩)
  ·exact ⟨p,a,by unfold N9;rw [d,Bool.or_true],b⟩
  ·exact ⟨_,m,QE,rfl,rfl⟩
 ·rintro ⟨p,a,d,b,f⟩
  by_cases e:p.1=i
  ·obtain rfl:=o p a e
   exact .inr ⟨b,f⟩
  ·rw [JE (Ne.symm e)] at d
   exact .inl ⟨p,a,d,b,f⟩
theorem FI {L:Nat→Bool} {i:Nat} {n:Int} (c:L i=false) (e:∀p ∈ Lk,p.2.1=n→p.1=i):∀v,¬N1 L (.int .u8 n) v:=by
 rintro v ⟨p,b,a,d, -⟩
 have f:n=p.2.1:=by cases d;rfl
 rw [e p b f.symm,c] at a;cases a
theorem Kg (l:List Int):(l.map (Value.int .i64)).all (·.oneCell')=true:=BL (fun _=>rfl) l
theorem Py (a b:Int):Tryz.prog.built 275 [(0, .int .i64 a),(1, .int .i64 b)]=some ([a,b,0,0,0,0].map (Value.int .i64)).toArray:=by
 have c:Tryz.prog.info? 275=some Tryz.t275:=by kernel_rfl
 have d:Tryz.prog.info? 3=some Tryz.t3:=by kernel_rfl
 simp [Program.built,c,underlying275,d,Instr.fill,Value.cells]
 rfl
theorem Hl (a b i h:Int) (w:World):AK prog 247 [kv [a,b,0,0,0,0], .int .i64 i, .int .i64 h] w (fun r t=>r=kv [a,b,i,h,0,0]∧Below w.heap.size w t):=by
 have e:=Below.refl w.heap.size w
 refine Az (n:=12) func247 O<|Ad ?_
 obtain ⟨B,y⟩:∃B,B=w.heap.size:=⟨_,rfl⟩
 refine Cr (cs:=[a,b,0,0,0,0].map (Value.int .i64)) O O O ?_
 rintro m w p c j -
 have e:=e.bs j
 have G:=BA c
 refine Du Hu O ?_
 rintro s w q d j -
 have e:=e.bs j
 have c:=c.bs j
 refine Be<|Ac O<|Ac O<|Ba underlying275 O (BC _) ?_
 have F:=BA d
 have A:=AA e
 refine Bv (C5 (u:= .int .i64 i) (BC _) O O O c (show 2<6 by decide)) ?_
 rintro D ⟨c,f,v⟩
 have d:=d.by f (by rintro ⟨⟩;omega)
 refine Ba underlying275 O (BC _)<|Bv (C5 (u:= .int .i64 h) (BC _) O O O c (show 3<6 by decide)) ?_
 rintro C ⟨c,g,x⟩
 have d:=d.by g (by rintro ⟨⟩;omega)
 have c:AP C m 275 ([a,b,i,h,0,0].map (Value.int .i64)):=c
 refine Be<|Aa (Cx (k:=6) (FN _) (FG _) O O c) O<|Bv (C7 (cs:=[a,b,i,h,0,0].map (Value.int .i64)) (k:=6) (by kernel_rfl) O O O (Kg _) d O) ?_
 rintro E ⟨d,o,z⟩
 have l:=((e.grown f A (by rintro _ ⟨⟩;omega)).grown g (by omega) (by rintro _ ⟨⟩;omega)).grown o (by omega) (by rintro _ ⟨⟩;omega)
 refine Ay<|Eh O O ‹_› underlying275 O O O ?_
 exact ⟨rfl,l⟩
set_option maxRecDepth 4000 in
theorem Tt (w:World):AK prog 216 [] w (fun r R=>Below w.heap.size w R∧∃M,r= .map (some M)∧w.heap.size≤M∧EF R M (.int .u8) KD):=by
 have z:=Below.refl w.heap.size w
 refine Az (n:=37) func216 O<|Ad<|Ab O<|Be<|Aa (C1 (vs:=[(0, .int .i64 1),(1, .int .i64 1)]) (cs:=[1,1,0,0,0,0].map (Value.int .i64)) O (Py 1 1)) O<|Aa (C1 (vs:=[(0, .int .i64 2),(1, .int .i64 2)]) (cs:=[2,2,0,0,0,0].map (Value.int .i64)) O (Py 2 2)) O<|Du Hu O ?_
 rintro A_one w X a Y -
 have z:=z.bs Y
 have z1:=BA a
 refine Du Hu O ?_
 rintro A_two w W b Y -
 have z:=z.bs Y
 have a:=a.bs Y
 have z2:=BA b
 have z0:=AA z
 refine Bv (C7 (cs:=[1,1,0,0,0,0].map (Value.int .i64)) (k:=6) (by kernel_rfl) O O O (Kg _) a O) ?_
 rintro w1 ⟨a,T,hz1⟩
 have b:=b.by T (by rintro ⟨⟩;omega)
 refine Bv (C7 (cs:=[2,2,0,0,0,0].map (Value.int .i64)) (k:=6) (by kernel_rfl) O O O (Kg _) b O) ?_
 rintro x ⟨b,U,hz2⟩
 have a:=a.by U (by rintro ⟨⟩;omega)
 have z:=(z.grown T z0 (by rintro _ ⟨⟩;omega)).grown U (by omega) (by rintro _ ⟨⟩;omega)
 refine Be<|Ab O<|Be<|Ac O<|Aa (Cx (k:=6) (FN _) (FG _) O O b) O<|Eo (p:=[]) (q:=[]) O O O (Hl 2 2 1 8 x) ?_
 rintro _ A ⟨rfl,C⟩
 have a:=a.bs C
 have b:=b.bs C
 have z3:=C.size
 have z:=z.trans (C.mono (AA z))
 refine Bc (Xw.new Hu) O ?_
 rintro _ w4 ⟨rfl,m,H,hz4⟩
 have a:=a.bs H
 have b:=b.bs H
 refine Bv (C7 (cs:=[2,2,1,8,0,0].map (Value.int .i64)) (k:=6) (by kernel_rfl) O O O (Kg _) m O) ?_
 rintro w5 ⟨m,K,hz5⟩
 have a:=a.by K (by rintro ⟨⟩;omega)
 have b:=b.by K (by rintro ⟨⟩;omega)
 have z:=(z.trans (H.mono (AA z))).grown K (by omega) (by rintro _ ⟨⟩;omega)
 refine Be<|Ba underlying275 O (BC _)<|Bv (C5 (u:= .int .i64 8) (BC _) O O O m (show 4<6 by decide)) ?_
 rintro w6 ⟨m,I,hz6⟩
 have m:AP w6 A.heap.size 275 ([2,2,1,8,8,0].map (Value.int .i64)):=m
 have a:=a.by I (by rintro ⟨⟩;omega)
 have b:=b.by I (by rintro ⟨⟩;omega)
 have z:=z.grown I (by omega) (by rintro _ ⟨⟩;omega)
 refine Be<|Ac O<|Aa (Cx (k:=6) (FN _) (FG _) O O a) O<|Eo (p:=[]) (q:=[]) O O O (Hl 1 1 0 3 w6) ?_
 rintro _ w7 ⟨rfl,D⟩
 have a:=a.bs D
 have b:=b.bs D
 have m:=m.bs D
 have z7:=D.size
 have z:=z.trans (D.mono (AA z))
 refine Bc (Xw.new Hu) O ?_
 rintro _ w8 ⟨rfl,y,F,hz8⟩
 have a:=a.bs F
 have b:=b.bs F
 have m:=m.bs F
 refine Bv (C7 (cs:=[1,1,0,3,0,0].map (Value.int .i64)) (k:=6) (by kernel_rfl) O O O (Kg _) y O) ?_
 rintro w9 ⟨y,G,hz9⟩
 have a:=a.by G (by rintro ⟨⟩;omega)
 have b:=b.by G (by rintro ⟨⟩;omega)
 have m:=m.by G (fun e=>by have:=Option.some.inj e;omega)
 have z:=(z.trans (F.mono (AA z))).grown G (by omega) (by rintro _ ⟨⟩;omega)
 refine Be<|Ba underlying275 O (BC _)<|Bv (C5 (u:= .int .i64 4) (BC _) O O O y (show 1<6 by decide)) ?_
 rintro V ⟨y,B,hz10⟩
 have y:AP V w7.heap.size 275 ([1,4,0,3,0,0].map (Value.int .i64)):=y
 have a:=a.by B (by rintro ⟨⟩;omega)
 have b:=b.by B (by rintro ⟨⟩;omega)
 have m:=m.by B (fun e=>by have:=Option.some.inj e;omega)
 have z:=z.grown B (by omega) (by rintro _ ⟨⟩;omega)
 refine Ak<|Ao ?_
 refine Cw.inv (VN (.func (.func 247) #[] #[])) (Vu V) (0) BB (by kernel_rfl) ?_ ?_ ?_
 ·exact fun R h=>⟨h,fun h=>by cases h⟩
 ·refine Cd (fun s L x c t o f=> ?_) ?_
  ·refine Ow.mk (Gk (d:= .int .u8)) ?_
   rintro _ A ⟨rfl,hM,C, -⟩
   have Q:∀k q,DY _ k=some q→0 ∈ CT q→L k=false:=fun k q hq h0=>by
    cases hk:L k with
    |false=>rfl
    |true=>rw [f k q hq hk 0 h0] at t;cases t
   have J:=Q 33 _ rfl (by decide)
   have n34:L 34=false:=by
    cases hk:L 34 with
    |false=>rfl
    |true=>rw [f 34 _ rfl hk 33 (by decide)] at J;cases J
   have nin:∀p ∈ Lk,L p.1=false:=fun p E=>by
    simp only [Lk,mem_cons,not_mem_nil,or_false] at E
    rcases E with rfl|rfl|rfl|rfl|rfl|rfl|rfl|rfl|rfl|rfl|rfl|rfl|rfl<;>exact Q _ _ rfl (by decide)
   refine ⟨x.heap.size,⟨c.1.trans (C.mono (AA c.1)),fun _=>⟨AA c.1,hM.congr fun k v=>⟨fun h=>h.elim,fun ⟨p,E,t,_⟩=> ?_⟩⟩⟩,fun j N=> ?_,fun _=>rfl⟩
   ·have hp0:∀p ∈ Lk,(0:Nat)≠p.1:=by decide
    rw [JE (hp0 p E),nin p E] at t;cases t
   ·have j0:j≠0:=fun e=>by rw [e,t] at N;cases N
    have j33:j≠33:=fun e=>by rw [e,J] at N;cases N
    have j34:j≠34:=fun e=>by rw [e,n34] at N;cases N
    unfold VN
    split<;>first|rfl|omega
  refine Cd (fun s L x c t o f=> ?_) ?_
  ·exact Ow.val (C1 (vs:=[(5, .int .i64 1)]) (cs:=[0,0,0,0,0,1].map (Value.int .i64)) rfl (by kernel_rfl)) ⟨s,EI c (Below.refl _ _) (by decide) (by decide),fun _ _=>rfl,fun _=>rfl⟩
  refine Cd (fun s L x c t o f=> ?_) ?_
  ·refine D6 (Dk (M:=s) (S:=N1 L) (k:= .int .u8 1) (u:=kv [0,0,0,0,0,1]) (d:= .int .u8) underlying270 EX O O O O (c.2 (o 0 (by decide))).2 (FI t (by decide))) ?_
   exact fun A g=>⟨s,GS (i:=2) (n:=1) (l:=[0,0,0,0,0,1]) c (o 0 (by decide)) (by decide) (by decide) g,fun _ _=>rfl,fun h=>by cases h⟩
  refine Cd (fun s L x c t o f=> ?_) ?_
  ·exact Ow.val (C1 (vs:=[(5, .int .i64 1)]) (cs:=[0,0,0,0,0,1].map (Value.int .i64)) rfl (by kernel_rfl)) ⟨s,EI c (Below.refl _ _) (by decide) (by decide),fun _ _=>rfl,fun _=>rfl⟩
  refine Cd (fun s L x c t o f=> ?_) ?_
  ·refine D6 (Dk (M:=s) (S:=N1 L) (k:= .int .u8 2) (u:=kv [0,0,0,0,0,1]) (d:= .int .u8) underlying270 EX O O O O (c.2 (o 0 (by decide))).2 (FI t (by decide))) ?_
   exact fun A g=>⟨s,GS (i:=4) (n:=2) (l:=[0,0,0,0,0,1]) c (o 0 (by decide)) (by decide) (by decide) g,fun _ _=>rfl,fun h=>by cases h⟩
  refine Cd (fun s L x c t o f=> ?_) ?_
  ·exact Ow.val (Cx (k:=6) (FN _) (FG _) rfl rfl (b.bs c.1)) ⟨s,EI c (Below.refl _ _) (by decide) (by decide),fun _ _=>rfl,fun _=>rfl⟩
  refine Cd (fun s L x c t o f=> ?_) ?_
  ·refine D6 (Dk (M:=s) (S:=N1 L) (k:= .int .u8 3) (u:=kv [2,2,0,0,0,0]) (d:= .int .u8) underlying270 EX O O O O (c.2 (o 0 (by decide))).2 (FI t (by decide))) ?_
   exact fun A g=>⟨s,GS (i:=6) (n:=3) (l:=[2,2,0,0,0,0]) c (o 0 (by decide)) (by decide) (by decide) g,fun _ _=>rfl,fun h=>by cases h⟩
  refine Cd (fun s L x c t o f=> ?_) ?_
  ·exact Ow.val (Cx (k:=6) (FN _) (FG _) rfl rfl (b.bs c.1)) ⟨s,EI c (Below.refl _ _) (by decide) (by decide),fun _ _=>rfl,fun _=>rfl⟩
  refine Cd (fun s L x c t o f=> ?_) ?_
  ·refine D6 (Dk (M:=s) (S:=N1 L) (k:= .int .u8 4) (u:=kv [2,2,0,0,0,0]) (d:= .int .u8) underlying270 EX O O O O (c.2 (o 0 (by decide))).2 (FI t (by decide))) ?_
   exact fun A g=>⟨s,GS (i:=8) (n:=4) (l:=[2,2,0,0,0,0]) c (o 0 (by decide)) (by decide) (by decide) g,fun _ _=>rfl,fun h=>by cases h⟩
  refine Cd (fun s L x c t o f=> ?_) ?_
  ·exact Ow.val (Cx (k:=6) (FN _) (FG _) rfl rfl (b.bs c.1)) ⟨s,EI c (Below.refl _ _) (by decide) (by decide),fun _ _=>rfl,fun _=>rfl⟩
  refine Cd (fun s L x c t o f=> ?_) ?_
  ·refine D6 (Dk (M:=s) (S:=N1 L) (k:= .int .u8 7) (u:=kv [2,2,0,0,0,0]) (d:= .int .u8) underlying270 EX O O O O (c.2 (o 0 (by decide))).2 (FI t (by decide))) ?_
   exact fun A g=>⟨s,GS (i:=10) (n:=7) (l:=[2,2,0,0,0,0]) c (o 0 (by decide)) (by decide) (by decide) g,fun _ _=>rfl,fun h=>by cases h⟩
  refine Cd (fun s L x c t o f=> ?_) ?_
  ·exact Ow.val (Cx (k:=6) (FN _) (FG _) rfl rfl (a.bs c.1)) ⟨s,EI c (Below.refl _ _) (by decide) (by decide),fun _ _=>rfl,fun _=>rfl⟩
  refine Cd (fun s L x c t o f=> ?_) ?_
  ·refine D6 (Dk (M:=s) (S:=N1 L) (k:= .int .u8 5) (u:=kv [1,1,0,0,0,0]) (d:= .int .u8) underlying270 EX O O O O (c.2 (o 0 (by decide))).2 (FI t (by decide))) ?_
   exact fun A g=>⟨s,GS (i:=12) (n:=5) (l:=[1,1,0,0,0,0]) c (o 0 (by decide)) (by decide) (by decide) g,fun _ _=>rfl,fun h=>by cases h⟩
  refine Cd (fun s L x c t o f=> ?_) ?_
  ·exact Ow.val (B4 rfl) ⟨s,EI c (Below.refl _ _) (by decide) (by decide),fun _ _=>rfl,fun _=>rfl⟩
  refine Cd (fun s L x c t o f=> ?_) ?_
  ·exact Ow.val (Cx (k:=6) (FN _) (FG _) rfl rfl (a.bs c.1)) ⟨s,EI c (Below.refl _ _) (by decide) (by decide),fun _ _=>rfl,fun _=>rfl⟩
  refine Cd (fun s L x c t o f=> ?_) ?_
  ·exact F6 (Xc.val (p:=[]) (q:=[]) (vs:=[kv [1,1,0,0,0,0], .int .i64 0, .int .i64 31]) (Hl 1 1 0 31 x).1 rfl rfl) (Hl 1 1 0 31 x) (fun _ A ⟨e,g⟩=>⟨s,EI c g (by decide) (by decide),fun _ _=>rfl,fun _=>e⟩)
  refine Cd (fun s L x c t o f=> ?_) ?_
  ·refine D6 (Dk (M:=s) (S:=N1 L) (k:= .int .u8 6) (u:=kv [1,1,0,31,0,0]) (d:= .int .u8) underlying270 EX O O O O (c.2 (o 0 (by decide))).2 (FI t (by decide))) ?_
   exact fun A g=>⟨s,GS (i:=16) (n:=6) (l:=[1,1,0,31,0,0]) c (o 0 (by decide)) (by decide) (by decide) g,fun _ _=>rfl,fun h=>by cases h⟩
  refine Cd (fun s L x c t o f=> ?_) ?_
  ·exact Ow.val (Cx (k:=6) (FN _) (FG _) rfl rfl (m.bs c.1)) ⟨s,EI c (Below.refl _ _) (by decide) (by decide),fun _ _=>rfl,fun _=>rfl⟩
  refine Cd (fun s L x c t o f=> ?_) ?_
  ·refine D6 (Dk (M:=s) (S:=N1 L) (k:= .int .u8 8) (u:=kv [2,2,1,8,8,0]) (d:= .int .u8) underlying270 EX O O O O (c.2 (o 0 (by decide))).2 (FI t (by decide))) ?_
   exact fun A g=>⟨s,GS (i:=18) (n:=8) (l:=[2,2,1,8,8,0]) c (o 0 (by decide)) (by decide) (by decide) g,fun _ _=>rfl,fun h=>by cases h⟩
  refine Cd (fun s L x c t o f=> ?_) ?_
  ·exact Ow.val (B4 rfl) ⟨s,EI c (Below.refl _ _) (by decide) (by decide),fun _ _=>rfl,fun _=>rfl⟩
  refine Cd (fun s L x c t o f=> ?_) ?_
  ·exact Ow.val (Cx (k:=6) (FN _) (FG _) rfl rfl (a.bs c.1)) ⟨s,EI c (Below.refl _ _) (by decide) (by decide),fun _ _=>rfl,fun _=>rfl⟩
  refine Cd (fun s L x c t o f=> ?_) ?_
  ·exact F6 (Xc.val (p:=[]) (q:=[]) (vs:=[kv [1,1,0,0,0,0], .int .i64 1, .int .i64 64]) (Hl 1 1 1 64 x).1 rfl rfl) (Hl 1 1 1 64 x) (fun _ A ⟨e,g⟩=>⟨s,EI c g (by decide) (by decide),fun _ _=>rfl,fun _=>e⟩)
  refine Cd (fun s L x c t o f=> ?_) ?_
  ·refine D6 (Dk (M:=s) (S:=N1 L) (k:= .int .u8 9) (u:=kv [1,1,1,64,0,0]) (d:= .int .u8) underlying270 EX O O O O (c.2 (o 0 (by decide))).2 (FI t (by decide))) ?_
   exact fun A g=>⟨s,GS (i:=22) (n:=9) (l:=[1,1,1,64,0,0]) c (o 0 (by decide)) (by decide) (by decide) g,fun _ _=>rfl,fun h=>by cases h⟩
  refine Cd (fun s L x c t o f=> ?_) ?_
  ·exact Ow.val (C1 (vs:=[(0, .int .i64 1),(1, .int .i64 1),(5, .int .i64 1)]) (cs:=[1,1,0,0,0,1].map (Value.int .i64)) rfl (by kernel_rfl)) ⟨s,EI c (Below.refl _ _) (by decide) (by decide),fun _ _=>rfl,fun _=>rfl⟩
  refine Cd (fun s L x c t o f=> ?_) ?_
  ·refine D6 (Dk (M:=s) (S:=N1 L) (k:= .int .u8 10) (u:=kv [1,1,0,0,0,1]) (d:= .int .u8) underlying270 EX O O O O (c.2 (o 0 (by decide))).2 (FI t (by decide))) ?_
   exact fun A g=>⟨s,GS (i:=24) (n:=10) (l:=[1,1,0,0,0,1]) c (o 0 (by decide)) (by decide) (by decide) g,fun _ _=>rfl,fun h=>by cases h⟩
  refine Cd (fun s L x c t o f=> ?_) ?_
  ·exact Ow.val (C1 (vs:=[(0, .int .i64 1),(1, .int .i64 1),(5, .int .i64 2)]) (cs:=[1,1,0,0,0,2].map (Value.int .i64)) rfl (by kernel_rfl)) ⟨s,EI c (Below.refl _ _) (by decide) (by decide),fun _ _=>rfl,fun _=>rfl⟩
  refine Cd (fun s L x c t o f=> ?_) ?_
  ·refine D6 (Dk (M:=s) (S:=N1 L) (k:= .int .u8 11) (u:=kv [1,1,0,0,0,2]) (d:= .int .u8) underlying270 EX O O O O (c.2 (o 0 (by decide))).2 (FI t (by decide))) ?_
   exact fun A g=>⟨s,GS (i:=26) (n:=11) (l:=[1,1,0,0,0,2]) c (o 0 (by decide)) (by decide) (by decide) g,fun _ _=>rfl,fun h=>by cases h⟩
  refine Cd (fun s L x c t o f=> ?_) ?_
  ·exact Ow.val (Cx (k:=6) (FN _) (FG _) rfl rfl (y.bs c.1)) ⟨s,EI c (Below.refl _ _) (by decide) (by decide),fun _ _=>rfl,fun _=>rfl⟩
  refine Cd (fun s L x c t o f=> ?_) ?_
  ·refine D6 (Dk (M:=s) (S:=N1 L) (k:= .int .u8 12) (u:=kv [1,4,0,3,0,0]) (d:= .int .u8) underlying270 EX O O O O (c.2 (o 0 (by decide))).2 (FI t (by decide))) ?_
   exact fun A g=>⟨s,GS (i:=28) (n:=12) (l:=[1,4,0,3,0,0]) c (o 0 (by decide)) (by decide) (by decide) g,fun _ _=>rfl,fun h=>by cases h⟩
  refine Cd (fun s L x c t o f=> ?_) ?_
  ·exact Ow.val (B4 rfl) ⟨s,EI c (Below.refl _ _) (by decide) (by decide),fun _ _=>rfl,fun _=>rfl⟩
  refine Cd (fun s L x c t o f=> ?_) ?_
  ·exact Ow.val (Cx (k:=6) (FN _) (FG _) rfl rfl (a.bs c.1)) ⟨s,EI c (Below.refl _ _) (by decide) (by decide),fun _ _=>rfl,fun _=>rfl⟩
  refine Cd (fun s L x c t o f=> ?_) ?_
  ·exact F6 (Xc.val (p:=[]) (q:=[]) (vs:=[kv [1,1,0,0,0,0], .int .i64 0, .int .i64 3]) (Hl 1 1 0 3 x).1 rfl rfl) (Hl 1 1 0 3 x) (fun _ A ⟨e,g⟩=>⟨s,EI c g (by decide) (by decide),fun _ _=>rfl,fun _=>e⟩)
  refine Cd (fun s L x c t o f=> ?_) ?_
  ·refine D6 (Dk (M:=s) (S:=N1 L) (k:= .int .u8 13) (u:=kv [1,1,0,3,0,0]) (d:= .int .u8) underlying270 EX O O O O (c.2 (o 0 (by decide))).2 (FI t (by decide))) ?_
   exact fun A g=>⟨s,GS (i:=32) (n:=13) (l:=[1,1,0,3,0,0]) c (o 0 (by decide)) (by decide) (by decide) g,fun _ _=>rfl,fun h=>by cases h⟩
  refine Cd (fun s L x c t o f=> ?_) ?_
  ·exact Ow.val (B4 rfl) ⟨s,EI c (Below.refl _ _) (by decide) (by decide),fun _ _=>rfl,fun _=>rfl⟩
  refine Cd (fun s L x c t o f=> ?_) ?_
  ·exact Ow.val (Ce rfl) ⟨s,EI c (Below.refl _ _) (by decide) (by decide),fun _ _=>rfl,fun _=>rfl⟩
  exact Gq
 intro s L R c hall
 have h0:=c.2 (hall 0 (by decide))
 have Z:∀p ∈ Lk,p.1<35:=by decide
 have hM:EF R s (.int .u8) KD:=h0.2.congr fun k v=>⟨fun ⟨p,E,_,h⟩=>⟨p,E,h⟩,fun ⟨p,E,h⟩=>⟨p,E,hall p.1 (Z p E),h⟩⟩
 have hBF:=z.trans (c.1.mono (AA z))
 have zB:=AA z
 exact Ar<|B9<|Dq<|As rfl rfl<|⟨hBF,s,rfl,by omega,hM⟩

theorem Mt (v:Value) (l:List (BitVec 8)) (w:World) (A:BO (b8) w v l) (Q:l.length≤4194304):
  AK prog 11 [v] w (fun r p=>Twn p w.heap.size 5 (b8) (b8 (77#8)) r l∧Below w.heap.size w p):=by
 refine Az (n:=28) func11 O<|Ad<|Ab O<|Be<|Ac O<|Aa (Ap AL O ‹_›) O ?_
 refine B1 O (by omega)<|Bc (Eg (l:=0) (c:=l.length+1) AL CY O O O (by omega) (by omega) (by omega)) O ?_
 rintro t y ⟨b, -,a,q⟩
 refine Ab O<|Bi<|Ab O<|Ak<|An ?_
 refine Bl (S:=(Nat×Value)) (fun s=>[(0,v),(3,s.2),(4, .int .i64 (s.1:Int))]) (fun s p=>s.1≤l.length∧p.ownsRow w.heap.size 5 1 s.2 s.1 ((l.take s.1).map (b8))∧Below w.heap.size w p) (fun s=>l.length - s.1) ((0,t)) ⟨rfl,rfl,rfl,trivial⟩ ?_ ?_
 ·exact ⟨by omega,by simpa using b,a⟩
 clear b a q t y
 rintro ⟨k,t⟩ y ⟨E,b,a⟩
 simp only at E b
 have C:=A.bs a
 have q:=a.size
 refine Ao<|Ad<|Ac O<|Ac O<|Aa (Ap AL O ‹_›) O ?_
 refine Bz O<|Ak<|Aq O ?_ ?_
 ·intro h
  have f:k<l.length:=by simp at h;omega
  refine Bw<|Ao<|An<|Bn<|Ac O<|Ac O<|Ac O<|Aa (Bh AL O O ‹_› _ O (by omega)) O ?_
  refine Aa (Bo (Hf _) O ‹_› (by omega)) O ?_
  refine Bc (Cv (vs:=[b8 (l.getD k default)]) AL CY O O O O O) O ?_
  rintro I L ⟨m, -,i,x⟩
  refine Bc (De (base:=w.heap.size) AL CY O (by decide) O O (AI b i) (AF m) O (by omega) (by omega) (by omega)) O ?_
  rintro z D ⟨d,o,_⟩
  refine Ab O<|Bd<|Bg<|B6<|Ac O<|B1 O (by omega)<|Ab O<|Bd ?_
  have e:(l.take k).map (b8)++[b8 (l.getD k default)]=(l.take (k+1)).map (b8):=by
   rw [take_succ_eq_append_getElem f,map_append];simp [f]
  rw [e] at d
  exact Ar (Bp ((k+1,z)) ⟨rfl,rfl,rfl,trivial⟩ (⟨f,d,(bt a i).trans o⟩) (by simp only;omega))
 ·intro h
  have f:k=l.length:=by simp at h;omega
  subst f
  refine Bk<|Aj<|Aj<|A0<|Cb<|Ac O<|Bc (Cv (vs:=[b8 (77#8)]) AL CY O O O O O) O ?_
  rintro I L ⟨m, -,i,x⟩
  refine Bc (De (base:=w.heap.size) AL CY O (by decide) O O (AI b i) (AF m) O (by omega) (by omega) (by omega)) O ?_
  rintro z D ⟨d,o,_⟩
  have j:=(bt a i).trans o
  have G:=A.bs j
  rcases d.2 with ⟨_,M⟩|⟨g,cap,F,rfl,N,J,H,B,K,u⟩
  ·omega
  refine Ac O<|Aa (Ap AL O ‹_›) O ?_
  refine Aa (Ej AL O O (by omega)) O<|Ab O<|Ay<|As O O ?_
  exact ⟨⟨g,cap,rfl,by simpa using d⟩,j⟩
theorem MP (t v:Value) (l:List (BitVec 8)) (base:Nat) (w:World) (p:Twn w base 5 (b8) (b8 (77#8)) t l) (y:BO (b8) w v l):
  AK prog 19 [t,v] w (fun r g=>r= .bool true∧Below w.heap.size w g):=by
 have m:=p.sl
 have D:=y.le
 obtain ⟨b,cap,rfl,x⟩:=p
 have s:l.length+1≤cap∧cap≤9223372036854775807:=by
  obtain ⟨_,F,o,C,B,z,_⟩:=AF x
  cases C;unfold maxLen at z;exact ⟨B,by omega⟩
 refine Az (n:=45) func19 O<|Ad<|Ab O<|Bi<|Ac O<|Aa (Ap AL O ‹_›) O ?_
 refine Ac O<|Aa (Ap AL O ‹_›) O ?_
 refine Aa (Ct O O) O<|Ac O<|Cm 12 (v' := .bool false) O (cngA Value.bool ((by simp)))<|Ag (dj:=12) O O<|Ac O<|Ag (dj:=12) O O<|Aa (E4 AL O) O<|Ag (dj:=12) O O<|Ac O<|Ag (dj:=12) O O<|Aa (Ap AL O ‹_›) O ?_
 refine Ag (dj:=12) O O<|Aa (Dy O O) O<|Ci O<|Ak<|Bu O false ((by simp;omega))<|Bw<|Ao<|Ad<|Ab O<|Ak<|An ?_
 refine Bl (S:=Nat) (fun k=>[(0, .slice (some ⟨b,0,none⟩) l.length cap),(1,v),(5, .int .i64 (k:Int))]) (fun k g=>k≤l.length∧Below w.heap.size w g) (fun k=>l.length - k) (0) ⟨rfl,rfl,rfl,trivial⟩ ?_ ?_
 ·exact ⟨by omega,Below.refl _ _⟩
 rintro k e ⟨E,a⟩
 have A:=y.bs a
 have q:=m.bs a
 refine Ao<|Ad<|Ac O<|Ac O<|Aa (Ap AL O ‹_›) O ?_
 refine Bz O<|Ak<|Aq O ?_ ?_
 ·intro h
  have f:k<l.length:=by simp at h;omega
  refine Bw<|Ao<|An<|Ao<|Da BB (by kernel_rfl)<|Bq O<|Bq O<|Ah (fun e d=>Bh AL O O (Sl.bs ‹_› d) _ O (by omega)) O ?_
  refine Ah (fun e d=>Bo (Hf _) O (Sl.bs ‹_› d) (by omega)) O ?_
  refine Bq O<|Bq O<|Ah (fun e d=>Bh AL O O (Sl.bs ‹_› d) _ O (by omega)) O ?_
  refine Ah (fun e d=>Bo (Hf _) O (Sl.bs ‹_› d) (by omega)) O ?_
  refine Ah (fun e d=>Fh O O) O ?_
  refine C2 (fun G d=> ?_)
  refine Ar<|B9 ?_
  have i:=bt a d
  refine Bu O false ((by simp))<|Cj<|Bg<|B6<|Ac O<|B1 O (by omega)<|Ab O<|Bd ?_
  exact Ar (Bp (k+1) ⟨rfl,rfl,rfl,trivial⟩ (⟨by omega,i⟩) (by omega))
 ·intro h
  have f:k=l.length:=by simp at h;omega
  subst f
  have c:=AF (AI x a)
  refine Bk<|Aj<|Aj<|A0<|Cb<|Ac O<|Ac O<|Aa (Ap AL O ‹_›) O ?_
  refine B1 O (by omega)<|Aa (Ej (j:=l.length+1) AL O O (by omega)) O<|Ac O<|Aa (Ap AL O ‹_›) O ?_
  refine Aa (Cl AL O O c l.length O (by omega)) O<|Aa (Ea (u:=b8 (77#8)) (Hf _) O c (by simp)) O<|Ab O<|Be<|Ac O<|Aa (Ch O (show _=some (b8 (77#8)) from rfl)) O<|Ab O<|Ay<|As O O ?_
  exact ⟨cngA Value.bool (by simp),a⟩
theorem IZ (u v:Value) (l m:List (BitVec 8)) (w:World) (s:BO (b8) w u l) (y:BO (b8) w v m):
  AK prog 16 [u,v] w (fun r o=>r= .bool (decide (l=m))∧Below w.heap.size w o):=by
 have z:=s.le
 refine Az (n:=26) func16 O<|Ad<|Ab O<|Bi<|Ac O<|Aa (Ap AL O ‹_›) O ?_
 refine Ac O<|Aa (Ap AL O ‹_›) O ?_
 refine Aa (Ct O O) O<|Ak<|Aq O ?_ ?_
 ·intro h
  have d:l≠m:=fun e=>by subst e;simp at h
  exact Ad<|Ab rfl<|B2<|As rfl rfl<|⟨by rw [decide_eq_false d],Below.refl _ _⟩
 ·intro h
  have i:l.length=m.length:=by simp at h;omega
  refine Bw<|Ao<|Ad<|Ab O<|Ak<|An ?_
  refine Bl (S:=Nat) (fun k=>[(0,u),(1,v),(5, .int .i64 (k:Int))]) (fun k o=>k≤l.length∧l.take k=m.take k∧Below w.heap.size w o) (fun k=>l.length - k) (0) ⟨rfl,rfl,rfl,trivial⟩ ?_ ?_
  ·exact ⟨by omega,by simp,Below.refl _ _⟩
  rintro k f ⟨A,q,b⟩
  have t:=s.bs b
  have x:=y.bs b
  refine Ao<|Ad<|Ac O<|Ac O<|Aa (Ap AL O ‹_›) O ?_
  refine Bz O<|Ak<|Aq O ?_ ?_
  ·intro h
   have c:k<l.length:=by simp at h;omega
   have g:k<m.length:=by omega
   refine Bw<|Ao<|An<|Ao<|Da BB (by kernel_rfl)<|Bq O<|Bq O<|Ah (fun f a=>Bh AL O O (Sl.bs ‹_› a) _ O (by omega)) O ?_
   refine Ah (fun f a=>Bo (Hf _) O (Sl.bs ‹_› a) (by omega)) O ?_
   refine Bq O<|Bq O<|Ah (fun f a=>Bh AL O O (Sl.bs ‹_› a) _ O (by omega)) O ?_
   refine Ah (fun f a=>Bo (Hf _) O (Sl.bs ‹_› a) (by omega)) O ?_
   refine Ah (fun f a=>Fh O O) O ?_
   refine C2 (fun B a=> ?_)
   refine Ar<|B9 ?_
   have j:=bt b a
   refine Aq O ?_ ?_
   ·intro h
    have d:l≠m:=fun e=>by subst e;simp at h
    exact Ad<|Ab rfl<|Ay<|Bj<|Av<|Av<|Bj<|Av<|As rfl rfl<|⟨by rw [decide_eq_false d],j⟩
   ·intro h
    refine Cj<|Bg<|B6<|Ac O<|B1 O (by omega)<|Ab O<|Bd ?_
    have p:l.take (k+1)=m.take (k+1):=by
     rw [take_succ_eq_append_getElem c,take_succ_eq_append_getElem g,q]
     simp [c,g] at h
     rw [h]
    exact Ar (Bp (k+1) ⟨rfl,rfl,rfl,trivial⟩ (⟨by omega,p,j⟩) (by omega))
  ·intro h
   have c:k=l.length:=by simp at h;omega
   subst c
   rw [take_length,i,take_length] at q
   exact Bk<|Aj<|Aj<|A0<|Cb<|Ab rfl<|Ay<|As rfl rfl<|⟨by rw [decide_eq_true q],b⟩
theorem G7 (v:Value) (l:List (Int)) (w:World) (A:BO (Value.int .i64) w v l) (Q:l.length≤4194304):
  AK prog 226 [v] w (fun r p=>Twn p w.heap.size 3 (Value.int .i64) (Value.int .i64 (77)) r l∧Below w.heap.size w p):=by
 refine Az (n:=28) func226 O<|Ad<|Ab O<|Be<|Ac O<|Aa (Ap AE O ‹_›) O ?_
 refine B1 O (by omega)<|Bc (Eg (l:=0) (c:=l.length+1) AE DO O O O (by omega) (by omega) (by omega)) O ?_
 rintro t y ⟨b, -,a,q⟩
 refine Ab O<|Bi<|Ab O<|Ak<|An ?_
 refine Bl (S:=(Nat×Value)) (fun s=>[(0,v),(3,s.2),(4, .int .i64 (s.1:Int))]) (fun s p=>s.1≤l.length∧p.ownsRow w.heap.size 3 1 s.2 s.1 ((l.take s.1).map (Value.int .i64))∧Below w.heap.size w p) (fun s=>l.length - s.1) ((0,t)) ⟨rfl,rfl,rfl,trivial⟩ ?_ ?_
 ·exact ⟨by omega,by simpa using b,a⟩
 clear b a q t y
 rintro ⟨k,t⟩ y ⟨E,b,a⟩
 simp only at E b
 have C:=A.bs a
 have q:=a.size
 refine Ao<|Ad<|Ac O<|Ac O<|Aa (Ap AE O ‹_›) O ?_
 refine Bz O<|Ak<|Aq O ?_ ?_
 ·intro h
  have f:k<l.length:=by simp at h;omega
  refine Bw<|Ao<|An<|Bn<|Ac O<|Ac O<|Ac O<|Aa (Bh AE O O ‹_› _ O (by omega)) O ?_
  refine Aa (Bo (AO _) O ‹_› (by omega)) O ?_
  refine Bc (Cv (vs:=[Value.int .i64 (l.getD k default)]) AE DO O O O O O) O ?_
  rintro I L ⟨m, -,i,x⟩
  refine Bc (De (base:=w.heap.size) AE DO O (by decide) O O (AI b i) (AF m) O (by omega) (by omega) (by omega)) O ?_
  rintro z D ⟨d,o,_⟩
  refine Ab O<|Bd<|Bg<|B6<|Ac O<|B1 O (by omega)<|Ab O<|Bd ?_
  have e:(l.take k).map (Value.int .i64)++[Value.int .i64 (l.getD k default)]=(l.take (k+1)).map (Value.int .i64):=by
   rw [take_succ_eq_append_getElem f,map_append];simp [f]
  rw [e] at d
  exact Ar (Bp ((k+1,z)) ⟨rfl,rfl,rfl,trivial⟩ (⟨f,d,(bt a i).trans o⟩) (by simp only;omega))
 ·intro h
  have f:k=l.length:=by simp at h;omega
  subst f
  refine Bk<|Aj<|Aj<|A0<|Cb<|Ac O<|Bc (Cv (vs:=[Value.int .i64 (77)]) AE DO O O O O O) O ?_
  rintro I L ⟨m, -,i,x⟩
  refine Bc (De (base:=w.heap.size) AE DO O (by decide) O O (AI b i) (AF m) O (by omega) (by omega) (by omega)) O ?_
  rintro z D ⟨d,o,_⟩
  have j:=(bt a i).trans o
  have G:=A.bs j
  rcases d.2 with ⟨_,M⟩|⟨g,cap,F,rfl,N,J,H,B,K,u⟩
  ·omega
  refine Ac O<|Aa (Ap AE O ‹_›) O ?_
  refine Aa (Ej AE O O (by omega)) O<|Ab O<|Ay<|As O O ?_
  exact ⟨⟨g,cap,rfl,by simpa using d⟩,j⟩
theorem HV (t v:Value) (l:List (Int)) (base:Nat) (w:World) (p:Twn w base 3 (Value.int .i64) (Value.int .i64 (77)) t l) (y:BO (Value.int .i64) w v l):
  AK prog 235 [t,v] w (fun r g=>r= .bool true∧Below w.heap.size w g):=by
 have m:=p.sl
 have D:=y.le
 obtain ⟨b,cap,rfl,x⟩:=p
 have s:l.length+1≤cap∧cap≤9223372036854775807:=by
  obtain ⟨_,F,o,C,B,z,_⟩:=AF x
  cases C;unfold maxLen at z;exact ⟨B,by omega⟩
 refine Az (n:=45) func235 O<|Ad<|Ab O<|Bi<|Ac O<|Aa (Ap AE O ‹_›) O ?_
 refine Ac O<|Aa (Ap AE O ‹_›) O ?_
 refine Aa (Ct O O) O<|Ac O<|Cm 12 (v' := .bool false) O (cngA Value.bool ((by simp)))<|Ag (dj:=12) O O<|Ac O<|Ag (dj:=12) O O<|Aa (E4 AE O) O<|Ag (dj:=12) O O<|Ac O<|Ag (dj:=12) O O<|Aa (Ap AE O ‹_›) O ?_
 refine Ag (dj:=12) O O<|Aa (Dy O O) O<|Ci O<|Ak<|Bu O false ((by simp;omega))<|Bw<|Ao<|Ad<|Ab O<|Ak<|An ?_
 refine Bl (S:=Nat) (fun k=>[(0, .slice (some ⟨b,0,none⟩) l.length cap),(1,v),(5, .int .i64 (k:Int))]) (fun k g=>k≤l.length∧Below w.heap.size w g) (fun k=>l.length - k) (0) ⟨rfl,rfl,rfl,trivial⟩ ?_ ?_
 ·exact ⟨by omega,Below.refl _ _⟩
 rintro k e ⟨E,a⟩
 have A:=y.bs a
 have q:=m.bs a
 refine Ao<|Ad<|Ac O<|Ac O<|Aa (Ap AE O ‹_›) O ?_
 refine Bz O<|Ak<|Aq O ?_ ?_
 ·intro h
  have f:k<l.length:=by simp at h;omega
  refine Bw<|Ao<|An<|Ao<|Da BB (by kernel_rfl)<|Bq O<|Bq O<|Ah (fun e d=>Bh AE O O (Sl.bs ‹_› d) _ O (by omega)) O ?_
  refine Ah (fun e d=>Bo (AO _) O (Sl.bs ‹_› d) (by omega)) O ?_
  refine Bq O<|Bq O<|Ah (fun e d=>Bh AE O O (Sl.bs ‹_› d) _ O (by omega)) O ?_
  refine Ah (fun e d=>Bo (AO _) O (Sl.bs ‹_› d) (by omega)) O ?_
  refine Ah (fun e d=>Ct O O) O ?_
  refine C2 (fun G d=> ?_)
  refine Ar<|B9 ?_
  have i:=bt a d
  refine Bu O false ((by simp))<|Cj<|Bg<|B6<|Ac O<|B1 O (by omega)<|Ab O<|Bd ?_
  exact Ar (Bp (k+1) ⟨rfl,rfl,rfl,trivial⟩ (⟨by omega,i⟩) (by omega))
 ·intro h
  have f:k=l.length:=by simp at h;omega
  subst f
  have c:=AF (AI x a)
  refine Bk<|Aj<|Aj<|A0<|Cb<|Ac O<|Ac O<|Aa (Ap AE O ‹_›) O ?_
  refine B1 O (by omega)<|Aa (Ej (j:=l.length+1) AE O O (by omega)) O<|Ac O<|Aa (Ap AE O ‹_›) O ?_
  refine Aa (Cl AE O O c l.length O (by omega)) O<|Aa (Ea (u:=Value.int .i64 (77)) (AO _) O c (by simp)) O<|Ab O<|Be<|Ac O<|Aa (C6 O O) O<|Ab O<|Ay<|As O O ?_
  exact ⟨cngA Value.bool (by simp),a⟩
theorem HP (u v:Value) (l m:List (Int)) (w:World) (s:BO (Value.int .i64) w u l) (y:BO (Value.int .i64) w v m):
  AK prog 36 [u,v] w (fun r o=>r= .bool (decide (l=m))∧Below w.heap.size w o):=by
 have z:=s.le
 refine Az (n:=26) func36 O<|Ad<|Ab O<|Bi<|Ac O<|Aa (Ap AE O ‹_›) O ?_
 refine Ac O<|Aa (Ap AE O ‹_›) O ?_
 refine Aa (Ct O O) O<|Ak<|Aq O ?_ ?_
 ·intro h
  have d:l≠m:=fun e=>by subst e;simp at h
  exact Ad<|Ab rfl<|B2<|As rfl rfl<|⟨by rw [decide_eq_false d],Below.refl _ _⟩
 ·intro h
  have i:l.length=m.length:=by simp at h;omega
  refine Bw<|Ao<|Ad<|Ab O<|Ak<|An ?_
  refine Bl (S:=Nat) (fun k=>[(0,u),(1,v),(5, .int .i64 (k:Int))]) (fun k o=>k≤l.length∧l.take k=m.take k∧Below w.heap.size w o) (fun k=>l.length - k) (0) ⟨rfl,rfl,rfl,trivial⟩ ?_ ?_
  ·exact ⟨by omega,by simp,Below.refl _ _⟩
  rintro k f ⟨A,q,b⟩
  have t:=s.bs b
  have x:=y.bs b
  refine Ao<|Ad<|Ac O<|Ac O<|Aa (Ap AE O ‹_›) O ?_
  refine Bz O<|Ak<|Aq O ?_ ?_
  ·intro h
   have c:k<l.length:=by simp at h;omega
   have g:k<m.length:=by omega
   refine Bw<|Ao<|An<|Ao<|Da BB (by kernel_rfl)<|Bq O<|Bq O<|Ah (fun f a=>Bh AE O O (Sl.bs ‹_› a) _ O (by omega)) O ?_
   refine Ah (fun f a=>Bo (AO _) O (Sl.bs ‹_› a) (by omega)) O ?_
   refine Bq O<|Bq O<|Ah (fun f a=>Bh AE O O (Sl.bs ‹_› a) _ O (by omega)) O ?_
   refine Ah (fun f a=>Bo (AO _) O (Sl.bs ‹_› a) (by omega)) O ?_
   refine Ah (fun f a=>Ct O O) O ?_
   refine C2 (fun B a=> ?_)
   refine Ar<|B9 ?_
   have j:=bt b a
   refine Aq O ?_ ?_
   ·intro h
    have d:l≠m:=fun e=>by subst e;simp at h
    exact Ad<|Ab rfl<|Ay<|Bj<|Av<|Av<|Bj<|Av<|As rfl rfl<|⟨by rw [decide_eq_false d],j⟩
   ·intro h
    refine Cj<|Bg<|B6<|Ac O<|B1 O (by omega)<|Ab O<|Bd ?_
    have p:l.take (k+1)=m.take (k+1):=by
     rw [take_succ_eq_append_getElem c,take_succ_eq_append_getElem g,q]
     simp [c,g] at h
     rw [h]
    exact Ar (Bp (k+1) ⟨rfl,rfl,rfl,trivial⟩ (⟨by omega,p,j⟩) (by omega))
  ·intro h
   have c:k=l.length:=by simp at h;omega
   subst c
   rw [take_length,i,take_length] at q
   exact Bk<|Aj<|Aj<|A0<|Cb<|Ab rfl<|Ay<|As rfl rfl<|⟨by rw [decide_eq_true q],b⟩
theorem GG (v:Value) (l:List (BitVec 32)) (w:World) (A:BO (i32) w v l) (Q:l.length≤4194304):
  AK prog 227 [v] w (fun r p=>Twn p w.heap.size 21 (i32) (i32 (77#32)) r l∧Below w.heap.size w p):=by
 refine Az (n:=28) func227 O<|Ad<|Ab O<|Be<|Ac O<|Aa (Ap BP O ‹_›) O ?_
 refine B1 O (by omega)<|Bc (Eg (l:=0) (c:=l.length+1) BP HJ O O O (by omega) (by omega) (by omega)) O ?_
 rintro t y ⟨b, -,a,q⟩
 refine Ab O<|Bi<|Ab O<|Ak<|An ?_
 refine Bl (S:=(Nat×Value)) (fun s=>[(0,v),(3,s.2),(4, .int .i64 (s.1:Int))]) (fun s p=>s.1≤l.length∧p.ownsRow w.heap.size 21 1 s.2 s.1 ((l.take s.1).map (i32))∧Below w.heap.size w p) (fun s=>l.length - s.1) ((0,t)) ⟨rfl,rfl,rfl,trivial⟩ ?_ ?_
 ·exact ⟨by omega,by simpa using b,a⟩
 clear b a q t y
 rintro ⟨k,t⟩ y ⟨E,b,a⟩
 simp only at E b
 have C:=A.bs a
 have q:=a.size
 refine Ao<|Ad<|Ac O<|Ac O<|Aa (Ap BP O ‹_›) O ?_
 refine Bz O<|Ak<|Aq O ?_ ?_
 ·intro h
  have f:k<l.length:=by simp at h;omega
  refine Bw<|Ao<|An<|Bn<|Ac O<|Ac O<|Ac O<|Aa (Bh BP O O ‹_› _ O (by omega)) O ?_
  refine Aa (Bo (HK _) O ‹_› (by omega)) O ?_
  refine Bc (Cv (vs:=[i32 (l.getD k default)]) BP HJ O O O O O) O ?_
  rintro I L ⟨m, -,i,x⟩
  refine Bc (De (base:=w.heap.size) BP HJ O (by decide) O O (AI b i) (AF m) O (by omega) (by omega) (by omega)) O ?_
  rintro z D ⟨d,o,_⟩
  refine Ab O<|Bd<|Bg<|B6<|Ac O<|B1 O (by omega)<|Ab O<|Bd ?_
  have e:(l.take k).map (i32)++[i32 (l.getD k default)]=(l.take (k+1)).map (i32):=by
   rw [take_succ_eq_append_getElem f,map_append];simp [f]
  rw [e] at d
  exact Ar (Bp ((k+1,z)) ⟨rfl,rfl,rfl,trivial⟩ (⟨f,d,(bt a i).trans o⟩) (by simp only;omega))
 ·intro h
  have f:k=l.length:=by simp at h;omega
  subst f
  refine Bk<|Aj<|Aj<|A0<|Cb<|Ac O<|Bc (Cv (vs:=[i32 (77#32)]) BP HJ O O O O O) O ?_
  rintro I L ⟨m, -,i,x⟩
  refine Bc (De (base:=w.heap.size) BP HJ O (by decide) O O (AI b i) (AF m) O (by omega) (by omega) (by omega)) O ?_
  rintro z D ⟨d,o,_⟩
  have j:=(bt a i).trans o
  have G:=A.bs j
  rcases d.2 with ⟨_,M⟩|⟨g,cap,F,rfl,N,J,H,B,K,u⟩
  ·omega
  refine Ac O<|Aa (Ap BP O ‹_›) O ?_
  refine Aa (Ej BP O O (by omega)) O<|Ab O<|Ay<|As O O ?_
  exact ⟨⟨g,cap,rfl,by simpa using d⟩,j⟩
theorem KJ (t v:Value) (l:List (BitVec 32)) (base:Nat) (w:World) (p:Twn w base 21 (i32) (i32 (77#32)) t l) (y:BO (i32) w v l):
  AK prog 236 [t,v] w (fun r g=>r= .bool true∧Below w.heap.size w g):=by
 have m:=p.sl
 have D:=y.le
 obtain ⟨b,cap,rfl,x⟩:=p
 have s:l.length+1≤cap∧cap≤9223372036854775807:=by
  obtain ⟨_,F,o,C,B,z,_⟩:=AF x
  cases C;unfold maxLen at z;exact ⟨B,by omega⟩
 refine Az (n:=45) func236 O<|Ad<|Ab O<|Bi<|Ac O<|Aa (Ap BP O ‹_›) O ?_
 refine Ac O<|Aa (Ap BP O ‹_›) O ?_
 refine Aa (Ct O O) O<|Ac O<|Cm 12 (v' := .bool false) O (cngA Value.bool ((by simp)))<|Ag (dj:=12) O O<|Ac O<|Ag (dj:=12) O O<|Aa (E4 BP O) O<|Ag (dj:=12) O O<|Ac O<|Ag (dj:=12) O O<|Aa (Ap BP O ‹_›) O ?_
 refine Ag (dj:=12) O O<|Aa (Dy O O) O<|Ci O<|Ak<|Bu O false ((by simp;omega))<|Bw<|Ao<|Ad<|Ab O<|Ak<|An ?_
 refine Bl (S:=Nat) (fun k=>[(0, .slice (some ⟨b,0,none⟩) l.length cap),(1,v),(5, .int .i64 (k:Int))]) (fun k g=>k≤l.length∧Below w.heap.size w g) (fun k=>l.length - k) (0) ⟨rfl,rfl,rfl,trivial⟩ ?_ ?_
 ·exact ⟨by omega,Below.refl _ _⟩
 rintro k e ⟨E,a⟩
 have A:=y.bs a
 have q:=m.bs a
 refine Ao<|Ad<|Ac O<|Ac O<|Aa (Ap BP O ‹_›) O ?_
 refine Bz O<|Ak<|Aq O ?_ ?_
 ·intro h
  have f:k<l.length:=by simp at h;omega
  refine Bw<|Ao<|An<|Ao<|Da BB (by kernel_rfl)<|Bq O<|Bq O<|Ah (fun e d=>Bh BP O O (Sl.bs ‹_› d) _ O (by omega)) O ?_
  refine Ah (fun e d=>Bo (HK _) O (Sl.bs ‹_› d) (by omega)) O ?_
  refine Bq O<|Bq O<|Ah (fun e d=>Bh BP O O (Sl.bs ‹_› d) _ O (by omega)) O ?_
  refine Ah (fun e d=>Bo (HK _) O (Sl.bs ‹_› d) (by omega)) O ?_
  refine Ah (fun e d=>F0 O O) O ?_
  refine C2 (fun G d=> ?_)
  refine Ar<|B9 ?_
  have i:=bt a d
  refine Bu O false ((by simp))<|Cj<|Bg<|B6<|Ac O<|B1 O (by omega)<|Ab O<|Bd ?_
  exact Ar (Bp (k+1) ⟨rfl,rfl,rfl,trivial⟩ (⟨by omega,i⟩) (by omega))
 ·intro h
  have f:k=l.length:=by simp at h;omega
  subst f
  have c:=AF (AI x a)
  refine Bk<|Aj<|Aj<|A0<|Cb<|Ac O<|Ac O<|Aa (Ap BP O ‹_›) O ?_
  refine B1 O (by omega)<|Aa (Ej (j:=l.length+1) BP O O (by omega)) O<|Ac O<|Aa (Ap BP O ‹_›) O ?_
  refine Aa (Cl BP O O c l.length O (by omega)) O<|Aa (Ea (u:=i32 (77#32)) (HK _) O c (by simp)) O<|Ab O<|Be<|Ac O<|Aa (F4 O (show _=some (i32 (77#32)) from rfl)) O<|Ab O<|Ay<|As O O ?_
  exact ⟨cngA Value.bool (by simp),a⟩
theorem KC (u v:Value) (l m:List (BitVec 32)) (w:World) (s:BO (i32) w u l) (y:BO (i32) w v m):
  AK prog 234 [u,v] w (fun r o=>r= .bool (decide (l=m))∧Below w.heap.size w o):=by
 have z:=s.le
 refine Az (n:=26) func234 O<|Ad<|Ab O<|Bi<|Ac O<|Aa (Ap BP O ‹_›) O ?_
 refine Ac O<|Aa (Ap BP O ‹_›) O ?_
 refine Aa (Ct O O) O<|Ak<|Aq O ?_ ?_
 ·intro h
  have d:l≠m:=fun e=>by subst e;simp at h
  exact Ad<|Ab rfl<|B2<|As rfl rfl<|⟨by rw [decide_eq_false d],Below.refl _ _⟩
 ·intro h
  have i:l.length=m.length:=by simp at h;omega
  refine Bw<|Ao<|Ad<|Ab O<|Ak<|An ?_
  refine Bl (S:=Nat) (fun k=>[(0,u),(1,v),(5, .int .i64 (k:Int))]) (fun k o=>k≤l.length∧l.take k=m.take k∧Below w.heap.size w o) (fun k=>l.length - k) (0) ⟨rfl,rfl,rfl,trivial⟩ ?_ ?_
  ·exact ⟨by omega,by simp,Below.refl _ _⟩
  rintro k f ⟨A,q,b⟩
  have t:=s.bs b
  have x:=y.bs b
  refine Ao<|Ad<|Ac O<|Ac O<|Aa (Ap BP O ‹_›) O ?_
  refine Bz O<|Ak<|Aq O ?_ ?_
  ·intro h
   have c:k<l.length:=by simp at h;omega
   have g:k<m.length:=by omega
   refine Bw<|Ao<|An<|Ao<|Da BB (by kernel_rfl)<|Bq O<|Bq O<|Ah (fun f a=>Bh BP O O (Sl.bs ‹_› a) _ O (by omega)) O ?_
   refine Ah (fun f a=>Bo (HK _) O (Sl.bs ‹_› a) (by omega)) O ?_
   refine Bq O<|Bq O<|Ah (fun f a=>Bh BP O O (Sl.bs ‹_› a) _ O (by omega)) O ?_
   refine Ah (fun f a=>Bo (HK _) O (Sl.bs ‹_› a) (by omega)) O ?_
   refine Ah (fun f a=>F0 O O) O ?_
   refine C2 (fun B a=> ?_)
   refine Ar<|B9 ?_
   have j:=bt b a
   refine Aq O ?_ ?_
   ·intro h
    have d:l≠m:=fun e=>by subst e;simp at h
    exact Ad<|Ab rfl<|Ay<|Bj<|Av<|Av<|Bj<|Av<|As rfl rfl<|⟨by rw [decide_eq_false d],j⟩
   ·intro h
    refine Cj<|Bg<|B6<|Ac O<|B1 O (by omega)<|Ab O<|Bd ?_
    have p:l.take (k+1)=m.take (k+1):=by
     rw [take_succ_eq_append_getElem c,take_succ_eq_append_getElem g,q]
     simp [c,g] at h
     rw [h]
    exact Ar (Bp (k+1) ⟨rfl,rfl,rfl,trivial⟩ (⟨by omega,p,j⟩) (by omega))
  ·intro h
   have c:k=l.length:=by simp at h;omega
   subst c
   rw [take_length,i,take_length] at q
   exact Bk<|Aj<|Aj<|A0<|Cb<|Ab rfl<|Ay<|As rfl rfl<|⟨by rw [decide_eq_true q],b⟩

theorem NB {s:List Int} {l:List (BitVec 32)} (h:L1 s l=true):Shapes.ok s=true∧l.length=(Shapes.size s).toNat:=by
 simp only [L1,Bool.and_eq_true,decide_eq_true_eq] at h
 exact ⟨h.1,by omega⟩
def Ju (s:List Int) (l:List (BitVec 32)):Int:=if 1+(s.length:Int)≤1048576 then 1+(s.length:Int)+(l.length:Int) else 1+(s.length:Int)
theorem HW (u:Value) (l:List Int) (w:World) (b:BO (Value.int .i64) w u l):AK prog 224 [u] w (fun r a=>r= .int .i64 (l.length:Int)∧Below w.heap.size w a):=by
 refine Az (n:=5) func224 O<|Ad<|Ab O<|Be<|Ac O<|Aa (Ap AE O ‹_›) O ?_
 exact Ab rfl<|Ay<|As rfl rfl<|⟨rfl,Below.refl _ _⟩
theorem NX (u:Value) (l:List (BitVec 32)) (w:World) (b:BO i32 w u l):AK prog 225 [u] w (fun r a=>r= .int .i64 (l.length:Int)∧Below w.heap.size w a):=by
 refine Az (n:=5) func225 O<|Ad<|Ab O<|Be<|Ac O<|Aa (Ap BP O ‹_›) O ?_
 exact Ab rfl<|Ay<|As rfl rfl<|⟨rfl,Below.refl _ _⟩
theorem SV (a:T4) (w:World) (d:a.at w) (hs:a.s.length≤1125899906842624) (k:a.l.length≤1125899906842624):AK prog 139 [a.v] w (fun r i=>r= .int .i64 (Ju a.s a.l)∧Below w.heap.size w i):=by
 have e:=Below.refl w.heap.size w
 refine Az (n:=19) func139 O<|Ad<|Bc (Xw.box (cs:=[a.x,a.y]) O O) O ?_
 rintro _ h ⟨rfl,b,c, -⟩
 have e:=e.bs c
 have d:=d.bs c
 have m:=d.1
 refine Ab O<|Be<|Ab O<|Bi<|Ac O<|Aa (Dy O O) O<|Ak<|Bu O true (by decide)<|Bn<|Ac O<|Ba underlying75 O (AT _)<|Aa (Al (AN _) O ‹_› rfl) O ?_
 refine Ai O O (HW a.x a.s h d.1) ?_
 rintro _ j ⟨rfl,c⟩
 have e:=e.bs c
 have d:=d.bs c
 have b:=b.bs c
 refine B1 O (by omega)<|Ab O<|Bi<|Ac O<|Aa (Dy O O) O<|Ak<|Aq O ?_ ?_
 ·intro g
  have f:=AC g
  refine Bn<|Ac O<|Ba underlying75 O (CW _)<|Aa (Al (DC _) O ‹_› rfl) O ?_
  refine Ai O O (NX a.y a.l j d.2) ?_
  rintro _ l ⟨rfl,c⟩
  have e:=e.bs c
  have d:=d.bs c
  have b:=b.bs c
  refine B1 O (by omega)<|Ab O<|Be<|Ac O<|Ab O<|Ay<|As O O ?_
  exact ⟨by rw [Ju,if_pos f],e⟩
 ·intro g
  have f:=AD g
  exact Cs<|Ac rfl<|Ab rfl<|Ay<|As rfl rfl<|⟨by rw [Ju,if_neg f],e⟩

set_option maxRecDepth 100000
theorem T9 (u:Value) (l:List Int) (x:Int) (w:World) (b:BO (Value.int .i64) w u l):AK prog 290 [u, .int .i64 x] w (fun r c=>(∃j,r= .int .i64 j∧decide (0≤j)=l.contains x)∧c=w):=by
 have k:=b.le
 refine Az (n:=19) func290 O<|Ad<|Ab O<|Bi<|Ac O<|Aa (Ap AE O ‹_›) O ?_
 refine Ac O<|Ak<|An ?_
 refine Bl (S:=Nat) (fun i=>[(0,u),(1, .int .i64 x),(7, .int .i64 (l.length:Int)),(8, .int .i64 (i:Int))]) (fun i c=>i≤l.length∧(l.take i).contains x=false∧c=w) (fun i=>l.length - i) (0) ⟨rfl,rfl,rfl,rfl,trivial⟩ ?_ ?_
 ·exact ⟨Nat.zero_le _,rfl,rfl⟩
 rintro i m ⟨o,d,rfl⟩
 refine Ad<|Bz O<|Ak<|Ao<|Aq O ?_ ?_
 ·intro h
  have a:i<l.length:=by have:=AC h;omega
  have f:l.take (i+1)=l.take i++[l.getD i default]:=by rw [take_succ_eq_append_getElem a];simp [a]
  refine Bw<|Ao<|An<|Ad<|Ac O<|Ab O<|Be<|Ac O<|Ac O<|Ac O<|Aa (Bh AE O O ‹_› _ O (by omega)) O ?_
  refine Aa (Bo (AO _) O ‹_› (by omega)) O ?_
  refine Aa (C6 O O) O<|Ak<|Aq O ?_ ?_
  ·intro g
   have g:=AC g
   refine Ad<|Ac O<|Ab O<|Ay<|Bj<|Av<|Av<|Bj<|Av<|As O O ?_
   refine ⟨⟨(i:Int),rfl, ?_⟩,rfl⟩
   have e:x ∈ l:=by rw [g];simp [a]
   rw [decide_eq_true (by omega),List.contains_iff_mem.2 e]
  intro g
  have g:=AD g
  refine Cj<|Bg<|B6<|B1 O (by omega)<|Ac O<|Bd ?_
  exact Ar (Bp (i+1) ⟨rfl,rfl,rfl,rfl,trivial⟩ (⟨a,by rw [f,contains_append,d,Bool.false_or,contains_cons,beq_false_of_ne g];rfl,rfl⟩) (by omega))
 intro h
 have a:i=l.length:=by have:=AD h;omega
 subst a
 rw [take_length] at d
 refine Bk<|Aj<|Aj<|A0<|Cb<|Ab O<|Ay<|As O O ?_
 exact ⟨⟨-1,rfl,by rw [d];rfl⟩,rfl⟩
theorem OE (u:Value) (l:List Int) (x:Int) (w:World) (a:BO (Value.int .i64) w u l):AK prog 275 [u, .int .i64 x] w (fun r c=>r= .bool (l.contains x)∧Below w.heap.size w c):=by
 refine Az (n:=9) func275 O<|Ad<|Ab O<|Be<|Ac O<|Ac O<|Ai O O (T9 u l x w a) ?_
 rintro _ _ ⟨⟨j,rfl,b⟩,rfl⟩
 exact Aa (Eu rfl rfl) rfl<|Ab rfl<|Ay<|As rfl rfl<|⟨cngA Value.bool b,Below.refl _ _⟩

structure N5 where
 k:BitVec 8
 x:Value
 y:Value
 i:List Int
 s:List Int
 n:Int
 p:Int
def N5.cells (a:N5):List Value:=[b8 a.k,a.x,a.y, .int .i64 a.n, .int .i64 a.p]
abbrev N5.v (a:N5):Value:= .agg a.cells.toArray
structure N5.at (w:World) (a:N5):Prop where
 i:BO (Value.int .i64) w a.x a.i
 s:BO (Value.int .i64) w a.y a.s
theorem N5.at.bs {w b:World} {a:N5} (h:N5.at w a) (g:Below w.heap.size w b):N5.at b a:=⟨h.i.bs g,h.s.bs g⟩
theorem N5.at.ones {w:World} {a:N5} (h:N5.at w a):a.cells.all (·.oneCell')=true:=by
 unfold N5.cells
 rw [all_cons,all_cons,all_cons,h.i.one',h.s.one'];rfl
def TG (l:List Int):Bool:=(range l.length).all fun i=>l.contains (i:Int)
theorem IA {l:List Int}:TG l=true↔∀j,j<l.length→l.contains (j:Int)=true:=by
 unfold TG
 rw [all_eq_true]
 exact ⟨fun h j a=>h j (List.mem_range.2 a),fun h j a=>h j (List.mem_range.1 a)⟩
theorem UI {l:List Int} {j:Nat} (a:j<l.length) (h:l.contains (j:Int)=false):TG l=false:=by
 cases hk:TG l with
 |false=>rfl
 |true=>rw [IA.1 hk j a] at h;cases h
def HC (l:List Int):Bool:=TG l && decide (l.length≤4)
def GF (least most lo hi ar sh:Int) (i s:List Int) (n p:Int):Bool:=
 !(decide ((i.length:Int)<least)||decide (most<(i.length:Int))||decide (n<lo)||decide (hi<n)||decide (p<0)||decide (ar<p)) && (if sh=0 then decide (s.length=0) else if sh=1 then Shapes.ok s else HC s)
theorem Sb (v:Value) (l:List Int) (w:World) (p:BO (Value.int .i64) w v l):AK prog 248 [v] w (fun r k=>r= .bool (HC l)∧Below w.heap.size w k):=by
 have t:=p.le
 refine Az (n:=17) func248 O<|Ad<|Ab O<|Bi<|Ac O<|Aa (Ap AE O ‹_›) O ?_
 refine Ac O<|Ak<|An ?_
 refine Bl (S:=Nat) (fun i=>[(0,v),(5, .int .i64 (l.length:Int)),(6, .int .i64 (i:Int))]) (fun i k=>i≤l.length∧(∀j,j<i→l.contains (j:Int)=true)∧Below w.heap.size w k) (fun i=>l.length - i) (0) ⟨rfl,rfl,rfl,trivial⟩ ?_ ?_
 ·exact ⟨Nat.zero_le _,fun _ h=>by omega,Below.refl _ _⟩
 rintro i q ⟨y,o,c⟩
 have m:=p.bs c
 refine Ad<|Bz O<|Ak<|Ao<|Aq O ?_ ?_
 ·intro h
  have a:i<l.length:=by have:=AC h;omega
  refine Bw<|Ao<|An<|Ad<|Ac O<|Ab O<|Be<|Ac O<|Ac O<|Ai O O (OE v l (i:Int) q m) ?_
  rintro _ x ⟨rfl,u⟩
  have b:=c.trans (u.mono (AA c))
  refine Aa (Co O) O<|Ak<|Aq O ?_ ?_
  ·intro g
   have f:l.contains (i:Int)=false:=by simpa using g
   refine Ad<|Ab O<|Ay<|Bj<|Av<|Av<|Bj<|Av<|As O O ?_
   refine ⟨?_,b⟩
   unfold HC;rw [UI a f];rfl
  intro g
  have f:l.contains (i:Int)=true:=by simpa using g
  refine Cj<|Bg<|B6<|B1 O (by omega)<|Ac O<|Bd ?_
  exact Ar (Bp (i+1) ⟨rfl,rfl,rfl,trivial⟩ (⟨a,fun j s=>(Nat.lt_succ_iff_lt_or_eq.1 s).elim (o j) (fun e=>e ▸ f),b⟩) (by omega))
 intro h
 have a:i=l.length:=by have:=AD h;omega
 subst a
 have d:TG l=true:=IA.2 o
 refine Bk<|Aj<|Aj<|A0<|Cb<|Ac O<|Aa (Ap AE O ‹_›) O ?_
 refine Aa (Dy O O) O<|Ab O<|Ay<|As O O ?_
 refine ⟨?_,c⟩
 unfold HC;rw [d,Bool.true_and];congr 1;exact decide_eq_decide.2 (by omega)
theorem RJ (a b m l k i:Int) (x:N5) (w:World) (A:N5.at w x):
  AK prog 217 [kv [a,b,m,l,k,i],x.v] w (fun r C=>r= .bool (GF a b m l k i x.i x.s x.n x.p)∧Below w.heap.size w C):=by
 have d:=Below.refl w.heap.size w
 have h:=A.i
 have c:=A.s
 refine Az (n:=61) func217 O<|Ad<|Cr (cs:=[a,b,m,l,k,i].map (Value.int .i64)) O O O ?_
 rintro E w z j f -
 have d:=d.bs f
 have h:=h.bs f
 have c:=c.bs f
 refine Cr (cs:=x.cells) O O O ?_
 rintro D w B F f -
 have d:=d.bs f
 have h:=h.bs f
 have c:=c.bs f
 have j:=j.bs f
 refine Ab O<|Bi<|Ba underlying79 O (AT _)<|Aa (Al (AN _) O ‹_› rfl) O ?_
 refine Aa (Ap AE O ‹_›) O ?_
 refine Ab O<|Be<|Ac O<|Ba underlying275 O (BC _)<|Aa (Al (AO _) O ‹_› rfl) O ?_
 refine Bz O<|Ac O ?_
 refine Cc 13 O ?_ ?_
 ·intro g
  have g:=AC g
  refine Ae (dj:=13) O O O O<|Ae (dj:=13) O O O O<|Ae (dj:=13) O O O O<|Ae (dj:=13) O O O O<|B7 O<|Ac O<|Ae (dj:=19) O O O O<|Ae (dj:=19) O O O O<|Ae (dj:=19) O O O O<|Ae (dj:=19) O O O O<|Ae (dj:=19) O O O O<|B7 O<|Ac O<|Ae (dj:=26) O O O O<|Ae (dj:=26) O O O O<|Ae (dj:=26) O O O O<|Ae (dj:=26) O O O O<|Ae (dj:=26) O O O O<|B7 O<|Ac O<|Ae (dj:=33) O O O O<|Ae (dj:=33) O O O O<|Ae (dj:=33) O O O O<|B7 O<|Ac O<|Ae (dj:=38) O O O O<|Ae (dj:=38) O O O O<|Ae (dj:=38) O O O O<|Ae (dj:=38) O O O O<|Ae (dj:=38) O O O O<|B7 O<|Ak<|Ca O<|Ad<|Ab O<|B2<|As O O ?_
  refine ⟨?_,d⟩
  unfold GF
  simp [g]
 intro u
 have u:=AD u
 refine Ag (dj:=13) O O<|Ac O<|Ag (dj:=13) O O<|Ba underlying275 O (BC _)<|Ag (dj:=13) O O<|Aa (Al (AO _) O ‹_› rfl) O ?_
 refine Ag (dj:=13) O O<|Aa (Dh O O) O<|Ci O<|Ac O ?_
 refine Cc 19 O ?_ ?_
 ·intro g
  have g:=AC g
  refine Ae (dj:=19) O O O O<|Ae (dj:=19) O O O O<|Ae (dj:=19) O O O O<|Ae (dj:=19) O O O O<|Ae (dj:=19) O O O O<|B7 O<|Ac O<|Ae (dj:=26) O O O O<|Ae (dj:=26) O O O O<|Ae (dj:=26) O O O O<|Ae (dj:=26) O O O O<|Ae (dj:=26) O O O O<|B7 O<|Ac O<|Ae (dj:=33) O O O O<|Ae (dj:=33) O O O O<|Ae (dj:=33) O O O O<|B7 O<|Ac O<|Ae (dj:=38) O O O O<|Ae (dj:=38) O O O O<|Ae (dj:=38) O O O O<|Ae (dj:=38) O O O O<|Ae (dj:=38) O O O O<|B7 O<|Ak<|Ca O<|Ad<|Ab O<|B2<|As O O ?_
  refine ⟨?_,d⟩
  unfold GF
  simp [g]
 intro p
 have p:=AD p
 refine Ag (dj:=19) O O<|Ba underlying79 O (BC _)<|Ag (dj:=19) O O<|Aa (Al (AO _) O ‹_› rfl) O ?_
 refine Ag (dj:=19) O O<|Ba underlying275 O (BC _)<|Ag (dj:=19) O O<|Aa (Al (AO _) O ‹_› rfl) O ?_
 refine Ag (dj:=19) O O<|Bz O<|Ci O<|Ac O ?_
 refine Cc 26 O ?_ ?_
 ·intro g
  have g:=AC g
  refine Ae (dj:=26) O O O O<|Ae (dj:=26) O O O O<|Ae (dj:=26) O O O O<|Ae (dj:=26) O O O O<|Ae (dj:=26) O O O O<|B7 O<|Ac O<|Ae (dj:=33) O O O O<|Ae (dj:=33) O O O O<|Ae (dj:=33) O O O O<|B7 O<|Ac O<|Ae (dj:=38) O O O O<|Ae (dj:=38) O O O O<|Ae (dj:=38) O O O O<|Ae (dj:=38) O O O O<|Ae (dj:=38) O O O O<|B7 O<|Ak<|Ca O<|Ad<|Ab O<|B2<|As O O ?_
  refine ⟨?_,d⟩
  unfold GF
  simp [g]
 intro y
 have y:=AD y
 refine Ag (dj:=26) O O<|Ba underlying79 O (BC _)<|Ag (dj:=26) O O<|Aa (Al (AO _) O ‹_› rfl) O ?_
 refine Ag (dj:=26) O O<|Ba underlying275 O (BC _)<|Ag (dj:=26) O O<|Aa (Al (AO _) O ‹_› rfl) O ?_
 refine Ag (dj:=26) O O<|Aa (Dh O O) O<|Ci O<|Ac O ?_
 refine Cc 33 O ?_ ?_
 ·intro g
  have g:=AC g
  refine Ae (dj:=33) O O O O<|Ae (dj:=33) O O O O<|Ae (dj:=33) O O O O<|B7 O<|Ac O<|Ae (dj:=38) O O O O<|Ae (dj:=38) O O O O<|Ae (dj:=38) O O O O<|Ae (dj:=38) O O O O<|Ae (dj:=38) O O O O<|B7 O<|Ak<|Ca O<|Ad<|Ab O<|B2<|As O O ?_
  refine ⟨?_,d⟩
  unfold GF
  simp [g]
 intro t
 have t:=AD t
 refine Ag (dj:=33) O O<|Ba underlying79 O (BC _)<|Ag (dj:=33) O O<|Aa (Al (AO _) O ‹_› rfl) O ?_
 refine Ag (dj:=33) O O<|Bz O<|Ci O<|Ac O ?_
 refine Cc 38 O ?_ ?_
 ·intro g
  have g:=AC g
  refine Ae (dj:=38) O O O O<|Ae (dj:=38) O O O O<|Ae (dj:=38) O O O O<|Ae (dj:=38) O O O O<|Ae (dj:=38) O O O O<|B7 O<|Ak<|Ca O<|Ad<|Ab O<|B2<|As O O ?_
  refine ⟨?_,d⟩
  unfold GF
  simp [g]
 intro v
 have v:=AD v
 refine Ag (dj:=38) O O<|Ba underlying79 O (BC _)<|Ag (dj:=38) O O<|Aa (Al (AO _) O ‹_› rfl) O ?_
 refine Ag (dj:=38) O O<|Ba underlying275 O (BC _)<|Ag (dj:=38) O O<|Aa (Al (AO _) O ‹_› rfl) O ?_
 refine Ag (dj:=38) O O<|Aa (Dh O O) O<|Ci O<|Ak<|Aq O ?_ ?_
 ·intro g
  have g:=AC g
  refine Ad<|Ab O<|B2<|As O O ?_
  refine ⟨?_,d⟩
  unfold GF
  simp [g]
 intro o
 have o:=AD o
 have e:GF a b m l k i x.i x.s x.n x.p=if i=0 then decide (x.s.length=0) else if i=1 then Shapes.ok x.s else HC x.s:=by
  unfold GF
  rw [decide_eq_false u,decide_eq_false p,decide_eq_false y,decide_eq_false t,decide_eq_false v,decide_eq_false o];rfl
 rw [e]
 refine Bw<|Ao<|Ad<|Ba underlying275 O (BC _)<|Aa (Al (AO _) O ‹_› rfl) O ?_
 refine Ak<|An<|Ad<|Aa (C6 O O) O<|Ab O<|Ak<|Aq O ?_ ?_
 ·intro g
  have g:=AC g
  refine Ad<|Ba underlying79 O (AT _)<|Aa (Al (AN _) O ‹_› rfl) O ?_
  refine Aa (Ap AE O ‹_›) O ?_
  refine Aa (C6 O O) O<|Ab O<|Ay<|Bj<|Av<|As O O ?_
  refine ⟨?_,d⟩
  rw [if_pos g];congr 1;exact decide_eq_decide.2 (by omega)
 intro q
 have q:=AD q
 rw [if_neg q]
 refine Ad<|Aa (C6 O O) O<|Ab O<|Ak<|Aq O ?_ ?_
 ·intro g
  have g:=AC g
  rw [if_pos g]
  refine Ad<|Ba underlying79 O (AT _)<|Aa (Al (AN _) O ‹_› rfl) O ?_
  refine Ai O O (FU x.y x.s w c) ?_
  rintro _ w ⟨rfl,f⟩
  exact Ab rfl<|Ay<|Bj<|Av<|As rfl rfl<|⟨rfl,bt d f⟩
 intro s
 have s:=AD s
 rw [if_neg s]
 refine Cj<|Bg<|Cb<|Ba underlying79 O (AT _)<|Aa (Al (AN _) O ‹_› rfl) O ?_
 refine Ai O O (Sb x.y x.s w c) ?_
 rintro _ w ⟨rfl,f⟩
 exact Ab rfl<|Ay<|As rfl rfl<|⟨rfl,bt d f⟩
end Go.Proofs.YtblbopcaflaldaaGreatDoor

namespace Go.Proofs.YtblbopcaflaldaaGreatDoor
open Go Go.Dd Go.RowKit List
set_option maxRecDepth 100000
instance:Inhabited T4:=⟨⟨.slice none 0 0, .slice none 0 0,[],[]⟩⟩
structure LI (w:World) (v:Value) (ps:List (Value×List Int)):Prop where
 sl:BO (fun p:Value×List Int=>p.1) w v ps
 each:∀p ∈ ps,BO (Value.int .i64) w p.1 p.2
theorem LI.bs {w a:World} {v:Value} {ps:List (Value×List Int)} (h:LI w v ps) (g:Below w.heap.size w a):LI a v ps:=⟨h.sl.bs g,fun p b=>(h.each p b).bs g⟩
abbrev AW (ps:List (Value×List Int)):List (List Int):=ps.map (·.2)
def On (k:Nat) (s x:List Int):Option (List Int):=if x.length=s.length∧k<s.length∧(∀m,m<s.length→m≠k→s.getD m default=x.getD m default) then some (s.set k (s.getD k default+x.getD k default)) else none
def Ki (k:Nat):List Int→List (List Int)→Option (List Int)
 |s,[]=>some s
 |s,x::r=>match On k s x with
  |some s' =>Ki k s' r
  |none=>none
theorem VM {s:List Int} (h:Shapes.ok s=true) {i:Nat} (a:i<s.length):1≤s.getD i default∧s.getD i default≤64:=by
 rw [getD_eq_getElem?_getD,getElem?_eq_getElem a]
 exact ((Shapes.ok_iff s).1 h).2.1 _ (getElem_mem a)
end Go.Proofs.YtblbopcaflaldaaGreatDoor

namespace Go.Proofs.YtblbopcaflaldaaGreatDoor
open Go Go.Dd Go.RowKit List Go.Proofs.Tryz
set_option maxRecDepth 100000
theorem V1 (v:Value) (l:List Int) (i B:Nat) (w:World) (u:w.ownsRow B 3 1 v l.length (l.map (Value.int .i64))) (L:i<l.length) (S:B≤w.heap.size) (V:l.length≤1000000):
  AK prog 277 [v, .int .i64 (i:Int), .int .i64 ((i+1:Nat):Int)] w (fun r A=>A.ownsRow B 3 1 r (l.eraseIdx i).length ((l.eraseIdx i).map (Value.int .i64))∧Below B w A):=by
 have e:=AF u
 obtain ⟨b,D, -,I, -, -⟩:∃b cap,v= .slice (some ⟨b,0,none⟩) l.length cap∧v.ownBlock=some b∧True∧True:=by
  rcases u.2 with ⟨_,U⟩|⟨g,cap,c,rfl, -⟩
  ·omega
  ·exact ⟨g,cap,rfl,rfl,trivial,trivial⟩
 obtain ⟨cap,c,rfl,H,j,E,C,x,p⟩:=FH u I
 rw [Nat.mul_one] at j x
 have e:BO (Value.int .i64) w (.slice (some ⟨b,0,none⟩) l.length cap) l:=e
 have h:=BO.drop e (show i+1≤l.length by omega)
 obtain ⟨a,d⟩:∃a,a=(l.drop (i+1)).map (Value.int .i64):=⟨_,rfl⟩
 have X:a.length=l.length - (i+1):=by rw [d,length_map,length_drop]
 have h:Sl w 1 (cut (.slice (some ⟨b,0,none⟩) l.length cap) 1 (i+1) l.length) (l.length - (i+1)) a:=by
  have:=h;unfold BO at this
  rwa [length_drop,← d] at this
 have o:cut (.slice (some ⟨b,0,none⟩) l.length cap) 1 0 i= .slice (some ⟨b,0,none⟩) i cap:=by
  unfold cut
  simp only [Nat.sub_zero]
  split
  ·rfl
  ·simp [add_lit]
 refine Az (n:=33) func277 O<|Ad<|Ab O<|Be<|Ac O<|Ac O<|Ac O<|Ac O<|Aa (Ap AE O ‹_›) O ?_
 refine Bc (Xw.cut3 AE O O O O (by omega) (by omega) E) O ?_
 rintro _ w rfl
 refine Bi<|Ac O<|Ac O<|Aa (Ex.as (C6 O O) (cngA Value.bool (decide_eq_false (by omega)))) O<|Ak<|Bu O false (rfl)<|Cs<|Ac O<|Aa (Ap AE O ‹_›) O ?_
 refine Ab O<|Ak<|Ao<|Cw.tail 6 BB (by kernel_rfl)<|Bq O<|Bq O<|Ah (fun z f=>Ex.as (Gf AE O O e.shp (by omega)) o) O<|Bq O<|Bq O<|Ah (fun z f=>Fj (i:=i+1) AE O O e.shp (by omega)) O ?_
 refine D0 (fun z f=> ?_)
 refine Bc (Gl AE DO O O (H.bs f) x (h.bs f) (by rw [d];exact BL (fun _=>rfl) _) (by omega)) O ?_
 rintro _ Y ⟨rfl,k,t,J⟩
 have N:i+(l.length - (i+1))=l.length - 1:=by omega
 rw [N]
 have l2:(GO c i a).length=cap:=by rw [Ir (by omega)];exact x
 have W:(l.length:Int)=((l.length - 1+1:Nat):Int):=by omega
 refine Ab O<|Be<|Ac O<|Ac O<|Aa (Ap AE O (AF (Ix (base:=B) (sz:=1) k (by rw [Nat.mul_one];exact l2) (by omega) C p))) O<|Ac O<|Aa (Ex.cutLHc AE O O O (show l.length - 1≤l.length by omega) E (by omega)) O ?_
 have K:l.length - (l.length - 1)=0+1:=by omega
 rw [K]
 refine Lw.valU (Xw.clear (m:=0) AE DO O O k (by omega)) ?_
 rintro _ T ⟨y,q,M⟩
 have s:((l.eraseIdx i).length)=l.length - 1:=by rw [length_eraseIdx,if_pos L]
 have AS:(GO (GO c i a) (l.length - 1) (replicate (0+1) (Value.int .i64 0))).take ((l.length - 1)*1)=(l.eraseIdx i).map (Value.int .i64):=by
  have Q:GO (GO c i a) (l.length - 1) (replicate (0+1) (Value.int .i64 0))=(GO c i a).take (l.length - 1)++(replicate (0+1) (Value.int .i64 0)++(GO c i a).drop (l.length - 1+1)):=by simp [GO]
  rw [Nat.mul_one,Q,take_left' (by rw [length_take];omega)]
  have R:GO c i a=(c.take i++a)++c.drop (i+a.length):=by simp [GO]
  rw [R,take_left' (by rw [length_append,length_take];omega)]
  have G:c.take i=(l.take i).map (Value.int .i64):=by
   have:=cngA (take i) j
   rw [take_take,Nat.min_eq_left (by omega)] at this
   rw [this,map_take]
  rw [G,d,← map_append,eraseIdx_eq_take_drop_succ]
 have F:=Ix (base:=B) (sz:=1) (n:=l.length - 1) y (by rw [Nat.mul_one,Ir (by simp;omega)];exact l2) (by omega) C p
 rw [AS] at F
 refine Be<|Ac O<|Ab O<|Ay<|As O O ?_
 rw [s]
 exact ⟨F,(((Below.refl B w).trans (f.mono S)).grown t (by have:=f.size;omega) (by rintro _ ⟨⟩;exact p)).grown q (by have:=f.size;omega) (by rintro _ ⟨⟩;exact p)⟩
def SP (s:List Int) (k:Int):List Int:=if (s.length:Int)≤k then [] else if s.length=1 then [1] else s.eraseIdx k.toNat
theorem Ot (u:Value) (s:List Int) (k:Int) (w:World) (l:BO (Value.int .i64) w u s) (m:0≤k) (j:s.length≤1000000):
  AK prog 255 [u, .int .i64 k] w (fun r h=>BO (Value.int .i64) h r (SP s k)∧Below w.heap.size w h):=by
 refine Az (n:=21) func255 O<|Ad<|Ab O<|Ak<|Ao<|An<|Ad<|Ac O<|Ac O<|Aa (Ap AE O ‹_›) O ?_
 refine Aa (Eu O O) O<|Ab O<|Ak<|Aq O ?_ ?_
 ·intro g
  have g:=AC g
  refine Ad<|Ab O<|Ay<|Bj<|Av<|As O O ?_
  exact ⟨by rw [SP,if_pos (by omega)];exact Ck _ _,Below.refl _ _⟩
 intro g
 have g:=AD g
 refine Ad<|Ac O<|Aa (Ap AE O ‹_›) O ?_
 refine Aa (C6 O O) O<|Ab O<|Ak<|Aq O ?_ ?_
 ·intro b
  have b:=AC b
  refine Ad<|Bc (Cv (vs:=[(1:Int)].map (Value.int .i64)) AE DO O O O O O) O ?_
  rintro v f ⟨a, -,c, -⟩
  refine Ab O<|Ay<|Bj<|Av<|As O O ?_
  exact ⟨by rw [SP,if_neg (by omega),if_pos (by omega)];exact BD a,c⟩
 intro b
 have b:=AD b
 obtain ⟨i,rfl⟩:∃i:Nat,k=(i:Int):=⟨k.toNat,by omega⟩
 refine Cj<|Bg<|Cb<|Ac O<|Ai O O (J9 u s w l (by omega)) ?_
 rintro v f ⟨a,c⟩
 refine Ac O<|Ac O<|Aa (Ex.as (Dp O O (by omega)) (cngA (Value.int .i64) (show (i:Int)+1=((i+1:Nat):Int) by omega))) O<|Ai O O (V1 v s i w.heap.size f a (by omega) c.size j) ?_
 rintro r o ⟨d,e⟩
 refine Ab O<|Ay<|As O O ?_
 refine ⟨?_,c.trans e⟩
 rw [SP,if_neg (by omega),if_neg (by omega),Int.toNat_natCast]
 exact BD d
def Mu (s o:List Int):List Int:=if s.length=o.length then o.map (fun k=>s.getD k.toNat default) else []
theorem Qk (u v:Value) (s o:List Int) (w:World) (E:BO (Value.int .i64) w u s) (I:BO (Value.int .i64) w v o) (D:∀k ∈ o,0≤k∧k<(o.length:Int)) (N:o.length≤1000000):
  AK prog 253 [u,v] w (fun r f=>BO (Value.int .i64) f r (Mu s o)∧Below w.heap.size w f):=by
 refine Az (n:=27) func253 O<|Ad<|Ab O<|Bi<|Ac O<|Aa (Ap AE O ‹_›) O ?_
 refine Ac O<|Aa (Ap AE O ‹_›) O ?_
 refine Aa (Ct O O) O<|Ak<|Aq O ?_ ?_
 ·intro g
  have x:¬s.length=o.length:=fun e=>by rw [e] at g;simp at g
  refine Ad<|Ab O<|B2<|As O O ?_
  exact ⟨by rw [Mu,if_neg x];exact Ck _ _,Below.refl _ _⟩
 intro g
 have x:s.length=o.length:=by simp at g;omega
 refine Bw<|Ao<|Ad<|Ac O<|Aa (Ap AE O ‹_›) O ?_
 refine Ac O<|Ak<|An ?_
 refine Bl (S:=(Nat×Value)) (fun z=>[(0,u),(1,v),(4,z.2),(12,v),(13, .int .i64 (o.length:Int)),(14, .int .i64 (z.1:Int))]) (fun z f=>z.1≤o.length∧Below w.heap.size w f∧f.ownsRow w.heap.size 3 1 z.2 z.1 (((o.take z.1).map (fun k=>s.getD k.toNat default)).map (Value.int .i64))) (fun z=>o.length - z.1) ((0, .slice none 0 0)) ⟨rfl,rfl,rfl,rfl,rfl,rfl,trivial⟩ ?_ ?_
 ·exact ⟨Nat.zero_le _,Below.refl _ _,⟨rfl, .inl ⟨rfl,rfl⟩⟩⟩
 rintro ⟨i,r⟩ J ⟨G,d,b⟩
 dsimp only at G d b ⊢
 have j:=E.bs d
 have m:=I.bs d
 refine Ad<|Bz O<|Ak<|Ao<|Aq O ?_ ?_
 ·intro h
  have a:i<o.length:=by have:=AC h;omega
  obtain ⟨k,p⟩:∃k,k=o.getD i default:=⟨_,rfl⟩
  have l:k ∈ o:=by rw [p,getD_eq_getElem?_getD,getElem?_eq_getElem a];exact getElem_mem a
  have F:=D k l
  refine Bw<|Ao<|An<|Ad<|Aa (Bh AE O O ‹_› _ O (by omega)) O ?_
  refine Aa (Ex.as (Bo (AO _) O m a) (cngA (Value.int .i64) p.symm)) O<|Ab O<|Ak<|Bn<|Ac O<|Ac O<|Ac O<|Aa (Bh AE O O j k.toNat (by omega) (by omega)) O<|Aa (Bo (AO _) O j (show k.toNat<s.length by omega)) O<|Bc (Cv (vs:=[s.getD k.toNat default].map (Value.int .i64)) AE DO O O O O O) O ?_
  rintro q Q ⟨t, -,A, -⟩
  have y:=d.trans (A.mono (AA d))
  have M:=AA d
  have L:=A.size
  refine Bc (De (base:=w.heap.size) AE DO O (by decide) O O (AI b A) (AF t) (BL (fun _=>rfl) _) (by omega) (by omega) (by omega)) O ?_
  rintro C K ⟨c,B, -⟩
  have H:((o.take i).map (fun k=>s.getD k.toNat default)).map (Value.int .i64)++[s.getD k.toNat default].map (Value.int .i64)=((o.take (i+1)).map (fun k=>s.getD k.toNat default)).map (Value.int .i64):=by
   rw [take_succ_eq_append_getElem a,map_append,map_append]
   have:o[i]=k:=by rw [p,getD_eq_getElem?_getD,getElem?_eq_getElem a];rfl
   rw [this];rfl
  rw [H] at c
  refine Ab O<|Bd<|Bg<|B6<|B1 O (by omega)<|Ac O<|Bd ?_
  exact Ar (Bp ((i+1,C)) ⟨rfl,rfl,rfl,rfl,rfl,rfl,trivial⟩ (⟨a,y.trans B,c⟩) (by simp only;omega))
 intro h
 have a:i=o.length:=by have:=AD h;omega
 subst a
 rw [take_length] at b
 refine Bk<|Aj<|Aj<|A0<|Cb<|Ac O<|Ab O<|Ay<|As O O ?_
 refine ⟨?_,d⟩
 rw [Mu,if_pos x]
 exact BD b
def Pk (l:List (List Int)) (k:Nat):List Int:=match Ki k (l.headD []) l.tail with
 |some s=>if k<s.length then s else []
 |none=>[]
theorem Tc {l:List Int} {j:Nat} {z:Int} (h:j<l.length):GO (l.map (Value.int .i64)) j [.int .i64 z]=(l.set j z).map (Value.int .i64):=by
 rw [Pb (by rw [length_map];exact h),map_set]
theorem IQ {l:List Int} {j:Nat} (h:j<l.length):l.getD j default ∈ l:=by
 rw [getD_eq_getElem?_getD,getElem?_eq_getElem h];exact getElem_mem h
theorem Qr (v:Value) (ps:List (Value×List Int)) (k:Nat) (w:World) (h:LI w v ps) (h0:0<ps.length) (h4:ps.length≤4) (hb:∀p ∈ ps,p.2.length≤4∧∀x ∈ p.2,0≤x∧x≤64):
  AK prog 254 [v, .int .i64 (k:Int)] w (fun r L=>BO (Value.int .i64) L r (Pk (AW ps) k)∧Below w.heap.size w L):=by
 obtain ⟨d,a,rfl⟩:∃d a,ps=d::a:=by
  cases ps with
  |nil=>simp at h0
  |cons d a=>exact ⟨d,a,rfl⟩
 have s_0:=h.each d (by simp)
 have F:=hb d (by simp)
 have U:=h.sl
 have C:BO (fun p:Value×List Int=>p.1) w (cut v 1 1 (a.length+1)) a:=BO.drop h.sl (show 1≤(d::a).length by simp)
 have Q:∀s,Ki k d.2 (AW a)=some s→Pk (AW (d::a)) k=if k<s.length then s else []:=fun s hs=>by
  show (match Ki k d.2 (AW a) with|some s=>if k<s.length then s else []|none=>[])=_
  rw [hs]
 have D:Ki k d.2 (AW a)=none→Pk (AW (d::a)) k=[]:=fun hs=>by
  show (match Ki k d.2 (AW a) with|some s=>if k<s.length then s else []|none=>[])=_
  rw [hs]
 obtain ⟨Z,hs0⟩:∃Z,Z=d.2:=⟨_,rfl⟩
 rw [← hs0] at s_0 F Q D
 obtain ⟨W,hRES⟩:∃W,W=Pk (AW (d::a)) k:=⟨_,rfl⟩
 rw [← hRES] at Q D ⊢
 simp only [length_cons] at h4
 refine Az (n:=64) func254 O<|Ad<|Ab O<|Be<|Ac O<|Aa (Bh AX O O U 0 O (by simp)) O<|Aa (Ex.as (Bo (AN _) O U (show 0<(d::a).length by simp)) O) O<|Ai O O (J9 d.1 Z w s_0 (by omega)) ?_
 rintro u w1 ⟨b,N⟩
 have ub:=AB b
 have E:=C.bs N
 refine Ab O<|Bi<|Ac O<|Aa (Ex.as (Fj (i:=1) AX O O (U.bs N).shp (by simp)) O) O<|Aa (Ap AX O E) O<|Ac O<|Ak<|An ?_
 refine Bl (S:=(Nat×List Int)) (fun z=>[(0,v),(1, .int .i64 (k:Int)),(5,u),(15,cut v 1 1 (a.length+1)),(16, .int .i64 (a.length:Int)),(17, .int .i64 (z.1:Int))]) (fun z L=>z.1≤a.length∧Below w.heap.size w L∧L.ownsRow w.heap.size 3 1 u z.2.length (z.2.map (Value.int .i64))∧Ki k z.2 (AW (a.drop z.1))=Ki k Z (AW a)∧z.2.length≤4∧(∀m,m<z.2.length→0≤z.2.getD m default∧z.2.getD m default≤64*((z.1:Int)+1))) (fun z=>a.length - z.1) ((0,Z)) ⟨rfl,rfl,rfl,rfl,rfl,rfl,trivial⟩ ?_ ?_
 ·exact ⟨Nat.zero_le _,N,b,rfl,F.1,fun m V=>⟨(F.2 _ (IQ V)).1,by have:=(F.2 _ (IQ V)).2;simp only;omega⟩⟩
 clear b
 rintro ⟨i,s⟩ w2 ⟨hi,J,b,hj,hs4,X⟩
 dsimp only at hi J b hj hs4 X ⊢
 have c:=C.bs J
 have s_u:BO (Value.int .i64) w2 u s:=BD b
 refine Ad<|Bz O<|Ak<|Ao<|Aq O ?_ ?_
 ·intro g
  have f:i<a.length:=by have:=AC g;omega
  obtain ⟨p,hp⟩:∃p,p=a[i]:=⟨_,rfl⟩
  have R:p ∈ d::a:=mem_cons_of_mem _ (by rw [hp];exact getElem_mem f)
  have G:=(h.each p R).bs J
  obtain ⟨x,hx⟩:∃x,x=p.2:=⟨_,rfl⟩
  have b_x:=hb p R
  rw [← hx] at G b_x
  have eg:(a.getD i default).1=p.1:=by rw [hp,getD_eq_getElem?_getD,getElem?_eq_getElem f];rfl
  have ed:AW (a.drop i)=x::AW (a.drop (i+1)):=by rw [drop_eq_getElem_cons f,AW,map_cons,← hp,← hx]
  have hst:Ki k Z (AW a)=match On k s x with|some B=>Ki k B (AW (a.drop (i+1)))|none=>none:=by rw [← hj,ed];rfl
  have T:On k s x=none→W=[]:=fun e=>D (by rw [hst,e])
  refine Bw<|Ao<|An<|Ad<|Aa (Bh AX O O c i O f) O<|Aa (Ex.as (Bo (AN _) O c f) eg) O<|Ab O<|Bi<|Ac O<|Aa (Ap AE O ‹_›) O ?_
  refine Ac O<|Aa (Ap AE O ‹_›) O ?_
  refine Aa (Ct O O) O<|Ac O ?_
  refine Cc 26 O ?_ ?_
  ·intro M
   have M:¬x.length=s.length:=fun e=>by rw [e] at M;simp at M
   refine Ae (dj:=26) O O O O<|Ae (dj:=26) O O O O<|Ae (dj:=26) O O O O<|Ae (dj:=26) O O O O<|B7 O<|Ak<|Ca O<|Ad<|Ab O<|B2<|Bj<|Av<|Av<|Bj<|Av<|As O O ?_
   exact ⟨by rw [T (by unfold On;rw [if_neg (fun h=>M h.1)])];exact Ck _ _,J⟩
  intro M
  have M:x.length=s.length:=by simp at M;omega
  refine Ag (dj:=26) O O<|Ac O<|Ag (dj:=26) O O<|Ac O<|Ag (dj:=26) O O<|Aa (Ap AE O ‹_›) O ?_
  refine Ag (dj:=26) O O<|Aa (Eu O O) O<|Ci O<|Ak<|Aq O ?_ ?_
  ·intro o
   have o:¬k<s.length:=by have:=AC o;omega
   refine Ad<|Ab O<|B2<|Bj<|Av<|Av<|Bj<|Av<|As O O ?_
   exact ⟨by rw [T (by unfold On;rw [if_neg (fun h=>o h.2.1)])];exact Ck _ _,J⟩
  intro o
  have o:k<s.length:=by have:=AD o;omega
  have bk:=X k o
  have xk:=b_x.2 _ (IQ (show k<x.length by omega))
  refine Cs<|Ac O<|Aa (Ap AE O ‹_›) O ?_
  refine Ac O<|Ak<|An ?_
  refine Bl (S:=(Nat×List Int)) (fun y=>[(0,v),(1, .int .i64 (k:Int)),(5,u),(7,p.1),(15,cut v 1 1 (a.length+1)),(16, .int .i64 (a.length:Int)),(17, .int .i64 (i:Int)),(32,p.1),(33, .int .i64 (x.length:Int)),(34, .int .i64 (y.1:Int))]) (fun y L=>y.1≤x.length∧Below w.heap.size w L∧L.ownsRow w.heap.size 3 1 u y.2.length (y.2.map (Value.int .i64))∧y.2=(if k<y.1 then s.set k (s.getD k default+x.getD k default) else s)∧(∀m,m<y.1→m≠k→s.getD m default=x.getD m default)) (fun y=>x.length - y.1) ((0,s)) ⟨rfl,rfl,rfl,rfl,rfl,rfl,rfl,rfl,rfl,rfl,trivial⟩ ?_ ?_
  ·exact ⟨Nat.zero_le _,J,b,by rw [if_neg (by omega)],fun _ h=>by omega⟩
  clear b s_u G c
  rintro ⟨j,B⟩ w3 ⟨hjx,q,b,l,V⟩
  dsimp only at hjx q b l V ⊢
  have G:=(h.each p R).bs q
  rw [← hx] at G
  have ls' :B.length=s.length:=by rw [l];split<;>simp
  refine Ad<|Bz O<|Ak<|Ao<|Aq O ?_ ?_
  ·intro g3
   have t:j<x.length:=by have:=AC g3;omega
   obtain ⟨gb,_, -,A, -,hgb⟩:∃gb cap,u= .slice (some ⟨gb,0,none⟩) B.length cap∧u.ownBlock=some gb∧True∧w.heap.size≤gb:=by
    rcases b.2 with ⟨_,h0⟩|⟨g,cap,cur,rfl,hbb, -⟩
    ·omega
    ·exact ⟨g,cap,rfl,rfl,trivial,hbb⟩
   have e_j:B.getD j default=s.getD j default:=by
    rw [l]
    split
    ·rw [getD_eq_getElem?_getD,getElem?_set_ne (by omega),← getD_eq_getElem?_getD]
    ·rfl
   have cj:(B.map (Value.int .i64))[j*1]? =some (.int .i64 (s.getD j default)):=by
    rw [Nat.mul_one,getElem?_map,getElem?_eq_getElem (by omega),← e_j,getD_eq_getElem?_getD,getElem?_eq_getElem (by omega)];rfl
   refine Bw<|Ao<|An<|Ad<|Ac O<|Aa (Bh AE O O ‹_› _ O (by omega)) O ?_
   refine Aa (Bo (AO _) O ‹_› (by omega)) O ?_
   refine Ab O<|Ab O<|Ak<|An<|Ad<|Ac O<|Ac O<|Aa (C6 O O) O<|Ab O<|Ak<|Aq O ?_ ?_
   ·intro Y
    have Y:j=k:=by have:=AC Y;omega
    subst Y
    refine Bn<|Ac O<|Ac O<|Aa (F8 AE O O b A j O (by omega)) O<|Aa (Ex.ldO (AO _) O b A cj) O<|Ac O<|B1 O (by omega)<|Aa (F8 AE O O b A j O (by omega)) O<|Bv (Xu.stO1 (BC _) O O O b A (show j*1<_ by rw [length_map];omega)) ?_
    rintro w4 ⟨H,hg,hz⟩
    rw [Nat.mul_one,Tc (by omega)] at H
    have hB4:=q.grown hg (AA q) (by rintro _ e;cases e;exact hgb)
    refine Bd<|Bg<|Bg<|B6<|B1 O (by omega)<|Ac O<|Bd ?_
    exact Ar (Bp ((j+1,B.set j (s.getD j default+x.getD j default))) ⟨rfl,rfl,rfl,rfl,rfl,rfl,rfl,rfl,rfl,rfl,trivial⟩ (⟨t,hB4,by rw [length_set];exact H,by rw [if_pos (by omega),l,if_neg (by omega)],fun m h1 h2=>V m (by omega) h2⟩) (by simp only;omega))
   intro Y
   have Y:j≠k:=by have:=AD Y;omega
   refine Ad<|Ac O<|Ac O<|Aa (F8 AE O O b A j O (by omega)) O<|Aa (Ex.ldO (AO _) O b A cj) O<|Ac O<|Aa (Ct O O) O<|Ab O<|Ak<|Aq O ?_ ?_
   ·intro I
    have I:¬s.getD j default=x.getD j default:=fun e=>by rw [e] at I;simp at I
    refine Ad<|Ab O<|Ay<|Bj<|Bj<|Av<|Av<|Bj<|Bj<|Av<|Av<|Bj<|Av<|As O O ?_
    exact ⟨by rw [T (by unfold On;rw [if_neg (fun h=>I (h.2.2 j (by omega) Y))])];exact Ck _ _,q⟩
   intro I
   have I:s.getD j default=x.getD j default:=by simpa using I
   refine Cj<|Bg<|Bg<|B6<|B1 O (by omega)<|Ac O<|Bd ?_
   exact Ar (Bp ((j+1,B)) ⟨rfl,rfl,rfl,rfl,rfl,rfl,rfl,rfl,rfl,rfl,trivial⟩ (⟨t,q,b,by rw [l];by_cases e:k<j;rw [if_pos e,if_pos (by omega)];rw [if_neg e,if_neg (by omega)],fun m h1 h2=>(Nat.lt_succ_iff_lt_or_eq.1 h1).elim (fun h=>V m h h2) (fun e=>e ▸ I)⟩) (by simp only;omega))
  intro g3
  have t:j=x.length:=by have:=AD g3;omega
  subst t
  rw [if_pos (by omega)] at l
  have e1:On k s x=some B:=by unfold On;rw [if_pos ⟨M,o,fun m h1 h2=>V m (by omega) h2⟩,l]
  have hbd:∀m,m<B.length→0≤B.getD m default∧B.getD m default≤64*(((i+1:Nat):Int)+1):=fun m hm' =>by
   have b1:=X m (by omega)
   rw [l]
   by_cases e:m=k
   ·subst e
    rw [getD_eq_getElem?_getD,getElem?_set_self (by omega),Option.getD_some]
    omega
   ·rw [getD_eq_getElem?_getD,getElem?_set_ne (by omega),← getD_eq_getElem?_getD]
    omega
  refine Bk<|Aj<|Aj<|A0<|Bg<|B6<|B1 O (by omega)<|Ac O<|Bd ?_
  exact Ar (Bp ((i+1,B)) ⟨rfl,rfl,rfl,rfl,rfl,rfl,trivial⟩ (⟨f,q,b,by rw [hst,e1],by simp only;omega,hbd⟩) (by simp only;omega))
 intro g
 have f:i=a.length:=by have:=AD g;omega
 subst f
 have K:=Q s (by rw [← hj,drop_length];rfl)
 refine Bk<|Aj<|Aj<|A0<|Ar<|B9<|Ao<|Ad<|Ac O<|Ac O<|Aa (Ap AE O ‹_›) O ?_
 refine Aa (Eu O O) O<|Ak<|Aq O ?_ ?_
 ·intro o
  have o:¬k<s.length:=by have:=AC o;omega
  refine Ad<|Ab O<|B2<|As O O ?_
  exact ⟨by rw [K,if_neg o];exact Ck _ _,J⟩
 intro o
 have o:k<s.length:=by have:=AD o;omega
 refine Cs<|Ac O<|Ab O<|Ay<|As O O ?_
 exact ⟨by rw [K,if_pos o];exact s_u,J⟩

def Gy (a b:List Int):Int:=if Shapes.ok a && Shapes.ok b then (if a.length=2∧b.length=2∧a.getD 1 default=b.getD 0 default then 0 else 10) else 1
theorem J3 {a b:List Int} (h:Shapes.ok a=false∨Shapes.ok b=false):Gy a b=1:=by
 unfold Gy
 rw [if_neg]
 rcases h with h|h<;>simp [h]
theorem GP {a b:List Int} (c:Shapes.ok a=true) (d:Shapes.ok b=true) (h:¬(a.length=2∧b.length=2∧a.getD 1 default=b.getD 0 default)):Gy a b=10:=by
 unfold Gy
 rw [c,d,if_neg h];rfl
theorem M5 {a b:List Int} (c:Shapes.ok a=true) (d:Shapes.ok b=true) (h:a.length=2∧b.length=2∧a.getD 1 default=b.getD 0 default):Gy a b=0:=by
 unfold Gy
 rw [c,d,if_pos h];rfl
def V4 (W w:World) (r:Value) (a b:List Int):Prop:=
 ∃x,r= .tuple #[x, .int .i64 (Gy a b)]∧(Gy a b≠0→x= .slice none 0 0)∧(Gy a b=0→w.ownsRow W.heap.size 3 1 x 2 ([a.getD 0 default,b.getD 1 default].map (Value.int .i64)))
theorem Rv (u v:Value) (a b:List Int) (W:World) (j:BO (Value.int .i64) W u a) (i:BO (Value.int .i64) W v b):
  AK prog 250 [u,v] W (fun r o=>Below W.heap.size W o∧V4 W o r a b):=by
 have f:=Below.refl W.heap.size W
 refine Az (n:=40) func250 O<|Ad<|Ab O<|Ab O<|Ak<|Ao<|An<|Ad<|Ac O<|Ai O O (FU u a _ j) ?_
 rintro _ w ⟨rfl,k⟩
 have f:=f.bs k
 have j:=j.bs k
 have i:=i.bs k
 refine Aa (Co O) O<|Ac O ?_
 refine Cc 10 O ?_ ?_
 ·intro g
  have e:=J3 (a:=a) (b:=b) (.inl (by simpa using g))
  refine Ae (dj:=10) O O O O<|Ae (dj:=10) O O O O<|Ae (dj:=10) O O O O<|B7 O<|Ab O<|Ak<|Ca O<|Ad<|Ab O<|Ab O<|Ay<|Bj<|Av<|Bx O O O ?_
  exact ⟨f,_,by rw [e],fun _=>rfl,fun h=>by rw [e] at h;cases h⟩
 intro g
 have l:Shapes.ok a=true:=by simpa using g
 refine Ag (dj:=10) O O<|Ac O<|Ag (dj:=10) O O<|Ai O O (FU v b _ i) ?_
 rintro _ w ⟨rfl,k⟩
 have f:=f.bs k
 have j:=j.bs k
 have i:=i.bs k
 refine Ag (dj:=10) O O<|Aa (Co O) O<|Ci O<|Ab O<|Ak<|Aq O ?_ ?_
 ·intro g
  have e:=J3 (a:=a) (b:=b) (.inr (by simpa using g))
  refine Ad<|Ab O<|Ab O<|Ay<|Bj<|Av<|Bx O O O ?_
  exact ⟨f,_,by rw [e],fun _=>rfl,fun h=>by rw [e] at h;cases h⟩
 intro g
 have m:Shapes.ok b=true:=by simpa using g
 refine Ao<|Da BB (by kernel_rfl)<|Bq O<|Ah (fun d c=>Ap AE O (Sl.bs ‹_› c)) O ?_
 refine Ah (fun d c=>Ct O O) O<|Bq O ?_
 refine Dj 19 O ?_ ?_
 ·intro g
  have e:Gy a b=10:=GP l m fun h=>by simp [h.1] at g
  refine Au (dj:=19) O O O O<|Au (dj:=19) O O O O<|Au (dj:=19) O O O O<|Ah (fun d c=>C3 O O) O<|Bq O<|Au (dj:=24) O O O O<|Au (dj:=24) O O O O<|Au (dj:=24) O O O O<|Au (dj:=24) O O O O<|Au (dj:=24) O O O O<|Au (dj:=24) O O O O<|Au (dj:=24) O O O O<|Ah (fun d c=>C3 O O) O<|Dx O ?_
  refine C2 (fun p c=> ?_)
  refine Ar<|B9<|Ca O<|Ad<|Ab O<|Ab O<|Ay<|Bj<|Av<|Bx O O O ?_
  exact ⟨bt f c,_,by rw [e],fun _=>rfl,fun h=>by rw [e] at h;cases h⟩
 intro g
 have s:a.length=2:=by simp at g;omega
 refine Bb (dj:=19) O O<|Bq O<|Bb (dj:=19) O O<|Ah (fun d c=>Ap AE O (Sl.bs ‹_› c)) O ?_
 refine Bb (dj:=19) O O<|Ah (fun d c=>Ct O O) O<|Ah (fun d c=>C0 O O) O<|Bq O ?_
 refine Dj 24 O ?_ ?_
 ·intro g
  have e:Gy a b=10:=GP l m fun h=>by simp [h.2.1] at g
  refine Au (dj:=24) O O O O<|Au (dj:=24) O O O O<|Au (dj:=24) O O O O<|Au (dj:=24) O O O O<|Au (dj:=24) O O O O<|Au (dj:=24) O O O O<|Au (dj:=24) O O O O<|Ah (fun d c=>C3 O O) O<|Dx O ?_
  refine C2 (fun p c=> ?_)
  refine Ar<|B9<|Ca O<|Ad<|Ab O<|Ab O<|Ay<|Bj<|Av<|Bx O O O ?_
  exact ⟨bt f c,_,by rw [e],fun _=>rfl,fun h=>by rw [e] at h;cases h⟩
 intro g
 have lb:b.length=2:=by simp at g;omega
 refine Bb (dj:=24) O O<|Bq O<|Bb (dj:=24) O O<|Ah (fun d c=>Bh AE O O (Sl.bs ‹_› c) 1 O (by omega)) O ?_
 refine Bb (dj:=24) O O<|Ah (fun d c=>Bo (AO _) O (Sl.bs ‹_› c) (by omega)) O ?_
 refine Bb (dj:=24) O O<|Bq O<|Bb (dj:=24) O O<|Ah (fun d c=>Bh AE O O (Sl.bs ‹_› c) 0 O (by omega)) O ?_
 refine Bb (dj:=24) O O<|Ah (fun d c=>Bo (AO _) O (Sl.bs ‹_› c) (by omega)) O ?_
 refine Bb (dj:=24) O O<|Ah (fun d c=>Ct O O) O<|Ah (fun d c=>C0 O O) O<|Dx O ?_
 refine C2 (fun p c=> ?_)
 refine Ar<|B9<|Aq O ?_ ?_
 ·intro g
  have e:Gy a b=10:=GP l m fun h=>by simp at g;exact g (by simpa using h.2.2)
  refine Ad<|Ab O<|Ab O<|Ay<|Bj<|Av<|Bx O O O ?_
  exact ⟨bt f c,_,by rw [e],fun _=>rfl,fun h=>by rw [e] at h;cases h⟩
 intro g
 have e:Gy a b=0:=M5 l m ⟨s,lb,by simpa using g⟩
 have f:=f.bs c
 have j:=j.bs c
 have i:=i.bs c
 clear c
 refine Cj<|Bg<|Ar<|B9<|Ao<|Cw.tail 6 BB (by kernel_rfl)<|Bq O<|Ah (fun d c=>Bh AE O O (Sl.bs ‹_› c) 0 O (by omega)) O ?_
 refine Ah (fun d c=>Bo (AO _) O (Sl.bs ‹_› c) (by omega)) O ?_
 refine Bq O<|Ah (fun d c=>Bh AE O O (Sl.bs ‹_› c) 1 O (by omega)) O ?_
 refine Ah (fun d c=>Bo (AO _) O (Sl.bs ‹_› c) (by omega)) O ?_
 refine D0 (fun y c=> ?_)
 have f:=f.bs c
 have j:=j.bs c
 have i:=i.bs c
 refine Bc (Cv (vs:=[a.getD 0 default,b.getD 1 default].map (Value.int .i64)) AE DO O O O O O) O ?_
 rintro x t ⟨q, -,k, -⟩
 have z:=f.size
 have f:=f.bs k
 have j:=j.bs k
 have i:=i.bs k
 exact Ab rfl<|Ab rfl<|Ay<|Bx rfl rfl rfl<|⟨f,x,by rw [e],fun h=>absurd e h,fun _=>BY q z⟩
-- DD STOPPED

theorem Iu (a Ke b:Int) (w:World) (f:0≤a∧a≤1000000) (d:0≤Ke∧Ke≤1000000) (i:1≤b∧b≤1000000):
  AK prog 276 [.int .i64 a, .int .i64 Ke, .int .i64 b] w (fun r c=>r= .int .i64 (He a Ke b)∧Below w.heap.size w c):=by
 refine Az (n:=16) func276 O<|Ad<|Ab O<|Bi<|Ac O<|Ac O<|Bz O<|Ak<|Aq O ?_ ?_
 ·intro g
  have g:=AC g
  exact Ad<|Ab rfl<|B2<|As rfl rfl<|⟨by rw [He,if_pos g],Below.refl _ _⟩
 intro g
 have g:=AD g
 have e:=Int.ediv_le_self b (show 0≤a - Ke by omega)
 have h:=Int.ediv_nonneg (show 0≤a - Ke by omega) (show 0≤b by omega)
 refine Cs<|Ac O<|Ac O<|Aa (D2 O O (by omega)) O<|Ac O<|Aa (Ff O O (by omega) (by omega)) O<|B1 O (by omega)<|Ab O<|Ay<|As O O ?_
 exact ⟨by rw [He,if_neg g],Below.refl _ _⟩
def SL (W w:World) (r:Value) (e:Int) (l:List Int):Prop:=
 ∃(x:Value) (m:List Int),r= .tuple #[x, .int .i64 e]∧w.ownsRow W.heap.size 3 1 x m.length (m.map (Value.int .i64))∧(e≠0→x= .slice none 0 0∧m=[])∧(e=0→m=l)
theorem BN {W w:World} {e:Int} {l:List Int} (h:e≠0):SL W w (.tuple #[.slice none 0 0, .int .i64 e]) e l:=⟨_,[],rfl,World.ownsRow_nil _ _ _ _,fun _=>⟨rfl,rfl⟩,fun a=>absurd a h⟩
theorem QC {t s:List Int} (h:¬t.length=3):JC t s=false:=by simp only [JC,decide_eq_false h,Bool.false_and]
theorem QB {t s:List Int} (h:¬s.length=4):JC t s=false:=by simp only [JC,decide_eq_false h,Bool.false_and,Bool.and_false]
theorem QA {t s:List Int} (h:¬t.getD 0 default=s.getD 1 default):JC t s=false:=by simp only [JC,decide_eq_false h,Bool.and_false]
theorem Q8 (t s:List Int) (a c:Int) (u v:Value) (W:World) (f:BO (Value.int .i64) W u t) (e:BO (Value.int .i64) W v s):
  AK prog 251 [u,v, .int .i64 a, .int .i64 c] W (fun r C=>Below W.heap.size W C∧SL W C r (CI t s a c) (Hi t s a c)):=by
 have i:=Below.refl W.heap.size W
 refine Az (n:=84) func251 O<|Ad<|Ab O<|Ab O<|Ak<|Ao<|An<|Ad<|Ac O<|Ai O O (FU u t _ f) ?_
 rintro _ w ⟨rfl,j⟩
 have i:=i.bs j
 have f:=f.bs j
 have e:=e.bs j
 refine Aa (Co O) O<|Ac O ?_
 refine Cc 15 O ?_ ?_
 ·intro q
  refine Ae (dj:=15) O O O O<|Ae (dj:=15) O O O O<|Ae (dj:=15) O O O O<|B7 O<|Ac O<|Ae (dj:=20) O O O O<|Ae (dj:=20) O O O O<|B7 O<|Ac O<|Ae (dj:=24) O O O O<|Ae (dj:=24) O O O O<|B7 O<|Ac O<|Ae (dj:=28) O O O O<|Ae (dj:=28) O O O O<|B7 O<|Ac O<|Ae (dj:=32) O O O O<|Ae (dj:=32) O O O O<|B7 O<|Ab O<|Ak<|Ca O<|Ad<|Ab O<|Ab O<|Ay<|Bj<|Av<|Bx O O O ?_
  rw [show CI t s a c=1 by simp [CI,show EW t s a c=true by simp_all [EW]]]
  exact ⟨i,BN (by decide)⟩
 intro q
 refine Ag (dj:=15) O O<|Ac O<|Ag (dj:=15) O O<|Ai O O (FU v s _ e) ?_
 rintro _ w ⟨rfl,j⟩
 have i:=i.bs j
 have f:=f.bs j
 have e:=e.bs j
 refine Ag (dj:=15) O O<|Aa (Co O) O<|Ci O<|Ac O ?_
 refine Cc 20 O ?_ ?_
 ·intro o
  refine Ae (dj:=20) O O O O<|Ae (dj:=20) O O O O<|B7 O<|Ac O<|Ae (dj:=24) O O O O<|Ae (dj:=24) O O O O<|B7 O<|Ac O<|Ae (dj:=28) O O O O<|Ae (dj:=28) O O O O<|B7 O<|Ac O<|Ae (dj:=32) O O O O<|Ae (dj:=32) O O O O<|B7 O<|Ab O<|Ak<|Ca O<|Ad<|Ab O<|Ab O<|Ay<|Bj<|Av<|Bx O O O ?_
  rw [show CI t s a c=1 by simp [CI,show EW t s a c=true by simp_all [EW]]]
  exact ⟨i,BN (by decide)⟩
 intro o
 refine Ag (dj:=20) O O<|Ac O<|Ag (dj:=20) O O<|Bz O<|Ci O<|Ac O ?_
 refine Cc 24 O ?_ ?_
 ·intro B
  refine Ae (dj:=24) O O O O<|Ae (dj:=24) O O O O<|B7 O<|Ac O<|Ae (dj:=28) O O O O<|Ae (dj:=28) O O O O<|B7 O<|Ac O<|Ae (dj:=32) O O O O<|Ae (dj:=32) O O O O<|B7 O<|Ab O<|Ak<|Ca O<|Ad<|Ab O<|Ab O<|Ay<|Bj<|Av<|Bx O O O ?_
  rw [show CI t s a c=1 by simp [CI,show EW t s a c=true by simp_all [EW]]]
  exact ⟨i,BN (by decide)⟩
 intro B
 refine Ag (dj:=24) O O<|Ac O<|Ag (dj:=24) O O<|Aa (Dh O O) O<|Ci O<|Ac O ?_
 refine Cc 28 O ?_ ?_
 ·intro p
  refine Ae (dj:=28) O O O O<|Ae (dj:=28) O O O O<|B7 O<|Ac O<|Ae (dj:=32) O O O O<|Ae (dj:=32) O O O O<|B7 O<|Ab O<|Ak<|Ca O<|Ad<|Ab O<|Ab O<|Ay<|Bj<|Av<|Bx O O O ?_
  rw [show CI t s a c=1 by simp [CI,show EW t s a c=true by simp_all [EW]]]
  exact ⟨i,BN (by decide)⟩
 intro p
 refine Ag (dj:=28) O O<|Ac O<|Ag (dj:=28) O O<|Bz O<|Ci O<|Ac O ?_
 refine Cc 32 O ?_ ?_
 ·intro z
  refine Ae (dj:=32) O O O O<|Ae (dj:=32) O O O O<|B7 O<|Ab O<|Ak<|Ca O<|Ad<|Ab O<|Ab O<|Ay<|Bj<|Av<|Bx O O O ?_
  rw [show CI t s a c=1 by simp [CI,show EW t s a c=true by simp_all [EW]]]
  exact ⟨i,BN (by decide)⟩
 intro z
 have L:Shapes.ok t=true:=by simpa using q
 have I:Shapes.ok s=true:=by simpa using o
 have J:1≤a:=by simpa using B
 have F:a≤8:=by simpa using p
 have Q:0≤c:=by simpa using z
 refine Ag (dj:=32) O O<|Ac O<|Ag (dj:=32) O O<|Aa (Dh O O) O<|Ci O<|Ab O<|Ak<|Aq O ?_ ?_
 ·intro m
  refine Ad<|Ab O<|Ab O<|Ay<|Bj<|Av<|Bx O O O ?_
  rw [show CI t s a c=1 by simp [CI,show EW t s a c=true by simp_all [EW]]]
  exact ⟨i,BN (by decide)⟩
 intro m
 have M:c≤8:=by simpa using m
 have y:EW t s a c=false:=by simp_all [EW]
 clear q o B p z m
 have E:=(Shapes.ok_iff t).1 L
 have A:=(Shapes.ok_iff s).1 I
 refine Ao<|Da BB (by kernel_rfl)<|Bq O<|Ah (fun d b=>Ap AE O (Sl.bs ‹_› b)) O ?_
 refine Ah (fun d b=>Ct O O) O<|Bq O ?_
 refine Dj 40 O ?_ ?_
 ·intro g
  refine Au (dj:=40) O O O O<|Au (dj:=40) O O O O<|Au (dj:=40) O O O O<|Ah (fun d b=>C3 O O) O<|Bq O<|Au (dj:=45) O O O O<|Au (dj:=45) O O O O<|Au (dj:=45) O O O O<|Au (dj:=45) O O O O<|Au (dj:=45) O O O O<|Au (dj:=45) O O O O<|Au (dj:=45) O O O O<|Ah (fun d b=>C3 O O) O<|Dx O ?_
  refine C2 (fun d b=> ?_)
  refine Ar<|B9<|Ca O<|Ad<|Ab O<|Ab O<|Ay<|Bj<|Av<|Bx O O O ?_
  rw [show CI t s a c=10 by rw [CI,y,QC (fun h=>by simp [h] at g)];rfl]
  exact ⟨bt i b,BN (by decide)⟩
 intro G
 have lt:t.length=3:=by have:=G;simp at this;omega
 refine Bb (dj:=40) O O<|Bq O<|Bb (dj:=40) O O<|Ah (fun d b=>Ap AE O (Sl.bs ‹_› b)) O ?_
 refine Bb (dj:=40) O O<|Ah (fun d b=>Ct O O) O<|Ah (fun d b=>C0 O O) O<|Bq O ?_
 refine Dj 45 O ?_ ?_
 ·intro g
  refine Au (dj:=45) O O O O<|Au (dj:=45) O O O O<|Au (dj:=45) O O O O<|Au (dj:=45) O O O O<|Au (dj:=45) O O O O<|Au (dj:=45) O O O O<|Au (dj:=45) O O O O<|Ah (fun d b=>C3 O O) O<|Dx O ?_
  refine C2 (fun d b=> ?_)
  refine Ar<|B9<|Ca O<|Ad<|Ab O<|Ab O<|Ay<|Bj<|Av<|Bx O O O ?_
  rw [show CI t s a c=10 by rw [CI,y,QB (fun h=>by simp [h] at g)];rfl]
  exact ⟨bt i b,BN (by decide)⟩
 intro H
 have ls:s.length=4:=by have:=H;simp at this;omega
 refine Bb (dj:=45) O O<|Bq O<|Bb (dj:=45) O O<|Ah (fun d b=>Bh AE O O (Sl.bs ‹_› b) 0 O (by omega)) O ?_
 refine Bb (dj:=45) O O<|Ah (fun d b=>Bo (AO _) O (Sl.bs ‹_› b) (by omega)) O ?_
 refine Bb (dj:=45) O O<|Bq O<|Bb (dj:=45) O O<|Ah (fun d b=>Bh AE O O (Sl.bs ‹_› b) 1 O (by omega)) O ?_
 refine Bb (dj:=45) O O<|Ah (fun d b=>Bo (AO _) O (Sl.bs ‹_› b) (by omega)) O ?_
 refine Bb (dj:=45) O O<|Ah (fun d b=>Ct O O) O<|Ah (fun d b=>C0 O O) O<|Dx O ?_
 refine C2 (fun d b=> ?_)
 refine Ar<|B9<|Aq O ?_ ?_
 ·intro g
  refine Ad<|Ab O<|Ab O<|Ay<|Bj<|Av<|Bx O O O ?_
  rw [show CI t s a c=10 by rw [CI,y,QA (fun h=>by rw [decide_eq_true h] at g;cases g)];rfl]
  exact ⟨bt i b,BN (by decide)⟩
 intro D
 have T:JC t s=true:=by
  have:t.getD 0 default=s.getD 1 default:=by simpa only [Bool.not_eq_false',decide_eq_true_eq] using D
  rw [JC,decide_eq_true lt,decide_eq_true ls,decide_eq_true this];rfl
 have i:=i.bs b
 have f:=f.bs b
 have e:=e.bs b
 clear b G H D
 have U:=CM E.2.1 (k:=1) (by omega)
 have N:=CM E.2.1 (k:=2) (by omega)
 have S:=CM A.2.1 (k:=0) (by omega)
 have R:=CM A.2.1 (k:=2) (by omega)
 have V:=CM A.2.1 (k:=3) (by omega)
 refine Cj<|Bg<|Ar<|B9<|Ao<|Cw.tail 25 BB (by kernel_rfl)<|Bq O<|Ah (fun d b=>Bh AE O O (Sl.bs ‹_› b) 0 O (by omega)) O ?_
 refine Ah (fun d b=>Bo (AO _) O (Sl.bs ‹_› b) (by omega)) O ?_
 refine Bq O<|Ah (fun d b=>Bh AE O O (Sl.bs ‹_› b) 1 O (by omega)) O ?_
 refine Ah (fun d b=>Bo (AO _) O (Sl.bs ‹_› b) (by omega)) O ?_
 refine Bq O<|Ah (fun d b=>Dv O O (by omega)) O<|Ah (fun d b=>Dp O O (by omega)) O<|Bq O<|Ah (fun d b=>Bh AE O O (Sl.bs ‹_› b) 2 O (by omega)) O ?_
 refine Ah (fun d b=>Bo (AO _) O (Sl.bs ‹_› b) (by omega)) O ?_
 refine Bq O<|Db O O (fun d b=>(Iu (t.getD 1 default+2*c) (s.getD 2 default) a d (by omega) (by omega) (by omega)).q b)<|Bq O<|Ah (fun d b=>Bh AE O O (Sl.bs ‹_› b) 2 O (by omega)) O ?_
 refine Ah (fun d b=>Bo (AO _) O (Sl.bs ‹_› b) (by omega)) O ?_
 refine Bq O<|Ah (fun d b=>Dv O O (by omega)) O<|Ah (fun d b=>Dp O O (by omega)) O<|Bq O<|Ah (fun d b=>Bh AE O O (Sl.bs ‹_› b) 3 O (by omega)) O ?_
 refine Ah (fun d b=>Bo (AO _) O (Sl.bs ‹_› b) (by omega)) O ?_
 refine Bq O<|Db O O (fun d b=>(Iu (t.getD 2 default+2*c) (s.getD 3 default) a d (by omega) (by omega) (by omega)).q b) ?_
 refine D0 (fun X b=> ?_)
 have i:=i.bs b
 have f:=f.bs b
 have e:=e.bs b
 have K:=AA i
 refine Bc (Cv (vs:=(Hi t s a c).map (Value.int .i64)) AE DO O O O O O) O ?_
 rintro x w ⟨l, -,j, -⟩
 have l:=BY l K
 have i:=i.bs j
 have f:=f.bs j
 have e:=e.bs j
 refine Ab O<|Bi<|Ac O<|Ai O O (FU x (Hi t s a c) _ (BD l)) ?_
 rintro _ w ⟨rfl,j⟩
 have i:=i.bs j
 have f:=f.bs j
 have e:=e.bs j
 have l:=l.bs j
 refine Aa (Co O) O<|Ak<|Aq O ?_ ?_
 ·intro g
  refine Ad<|Ab O<|Ab O<|B2<|Bx O O O ?_
  rw [show CI t s a c=10 by simp_all [CI]]
  exact ⟨i,BN (by decide)⟩
 intro g
 refine Cs<|Ac O<|Ab O<|Ab O<|Ay<|Bx O O O ?_
 rw [show CI t s a c=0 by simp_all [CI]]
 exact ⟨i,x,_,rfl,l,fun h=>absurd rfl h,fun _=>rfl⟩
theorem P0 (t:List Int) (a:Int) (u:Value) (W:World) (d:BO (Value.int .i64) W u t):
  AK prog 252 [u, .int .i64 a] W (fun r v=>Below W.heap.size W v∧SL W v r (CK t a) (HR t a)):=by
 have e:=Below.refl W.heap.size W
 refine Az (n:=47) func252 O<|Ad<|Ab O<|Ab O<|Bi<|Ac O<|Ai O O (FU u t _ d) ?_
 rintro _ w ⟨rfl,f⟩
 have e:=e.bs f
 have d:=d.bs f
 refine Aa (Co O) O<|Ac O ?_
 refine Cc 9 O ?_ ?_
 ·intro p
  refine Ae (dj:=9) O O O O<|Ae (dj:=9) O O O O<|B7 O<|Ac O<|Ae (dj:=13) O O O O<|Ae (dj:=13) O O O O<|B7 O<|Ak<|Ca O<|Ad<|Ab O<|Ab O<|B2<|Bx O O O ?_
  rw [show CK t a=1 by simp [CK,show GQ t a=true by simp_all [GQ]]]
  exact ⟨e,BN (by decide)⟩
 intro p
 refine Ag (dj:=9) O O<|Ac O<|Ag (dj:=9) O O<|Bz O<|Ci O<|Ac O ?_
 refine Cc 13 O ?_ ?_
 ·intro j
  refine Ae (dj:=13) O O O O<|Ae (dj:=13) O O O O<|B7 O<|Ak<|Ca O<|Ad<|Ab O<|Ab O<|B2<|Bx O O O ?_
  rw [show CK t a=1 by simp [CK,show GQ t a=true by simp_all [GQ]]]
  exact ⟨e,BN (by decide)⟩
 intro j
 refine Ag (dj:=13) O O<|Ac O<|Ag (dj:=13) O O<|Aa (Dh O O) O<|Ci O<|Ak<|Aq O ?_ ?_
 ·intro s
  refine Ad<|Ab O<|Ab O<|B2<|Bx O O O ?_
  rw [show CK t a=1 by simp [CK,show GQ t a=true by simp_all [GQ]]]
  exact ⟨e,BN (by decide)⟩
 intro s
 have q:GQ t a=false:=by simp_all [GQ]
 have C:Shapes.ok t=true:=by simpa using p
 have c:1≤a:=by simpa using j
 have H:a≤64:=by simpa using s
 have l:=(Shapes.ok_iff t).1 C
 clear p j s
 refine Bw<|Ao<|Ao<|Da BB (by kernel_rfl)<|Bq O<|Ah (fun c b=>Ap AE O (Sl.bs ‹_› b)) O ?_
 refine Ah (fun c b=>Ct O O) O<|Bq O ?_
 refine Dj 20 O ?_ ?_
 ·intro g
  refine Au (dj:=20) O O O O<|Au (dj:=20) O O O O<|Au (dj:=20) O O O O<|Au (dj:=20) O O O O<|Au (dj:=20) O O O O<|Au (dj:=20) O O O O<|Au (dj:=20) O O O O<|Au (dj:=20) O O O O<|Au (dj:=20) O O O O<|Ah (fun c b=>C3 O O) O ?_
  refine C2 (fun z b=> ?_)
  refine Ar<|B9<|Ca O<|Ad<|Ab O<|Ab O<|B2<|Bx O O O ?_
  rw [show CK t a=10 by rw [CK,q,Hp,decide_eq_false (show ¬t.length=3 from fun h=>by simp [h] at g)];rfl]
  exact ⟨bt e b,BN (by decide)⟩
 intro y
 have lt:t.length=3:=by have:=y;simp at this;omega
 have F:=CM l.2.1 (k:=0) (by omega)
 have G:=CM l.2.1 (k:=1) (by omega)
 have D:=CM l.2.1 (k:=2) (by omega)
 refine Bb (dj:=20) O O<|Bq O<|Bb (dj:=20) O O<|Ah (fun c b=>Bh AE O O (Sl.bs ‹_› b) 1 O (by omega)) O ?_
 refine Bb (dj:=20) O O<|Ah (fun c b=>Bo (AO _) O (Sl.bs ‹_› b) (by omega)) O ?_
 refine Bb (dj:=20) O O<|Bq O<|Bb (dj:=20) O O<|Ah (fun c b=>Bh AE O O (Sl.bs ‹_› b) 2 O (by omega)) O ?_
 refine Bb (dj:=20) O O<|Ah (fun c b=>Bo (AO _) O (Sl.bs ‹_› b) (by omega)) O ?_
 refine Bb (dj:=20) O O<|Ah (fun c b=>Ex.min2 O O) O<|Bb (dj:=20) O O<|Bq O<|Bb (dj:=20) O O<|Ah (fun c b=>Er O O) O<|Ah (fun c b=>C0 O O) O ?_
 refine C2 (fun z b=> ?_)
 refine Ar<|B9<|Aq O ?_ ?_
 ·intro g
  have g:=AC g
  refine Ad<|Ab O<|Ab O<|B2<|Bx O O O ?_
  rw [show CK t a=10 by
   have:Hp t a=false:=by
    unfold Hp
    by_cases m:a≤t.getD 1 default
    ·have i:¬a≤t.getD 2 default:=fun i=>by split at g<;>omega
     simp only [decide_eq_false i,Bool.and_false]
    ·simp only [decide_eq_false m,Bool.and_false,Bool.false_and]
   simp [CK,q,this]]
  exact ⟨bt e b,BN (by decide)⟩
 intro g
 have g:=AD g
 have A:Hp t a=true:=by
  have m:a≤t.getD 1 default:=by split at g<;>omega
  have i:a≤t.getD 2 default:=by split at g<;>omega
  rw [Hp,decide_eq_true lt,decide_eq_true m,decide_eq_true i];rfl
 have e:=e.bs b
 have d:=d.bs b
 clear b y g
 refine Bw<|Ao<|Cw.tail 15 BB (by kernel_rfl)<|Bq O<|Ah (fun c b=>Bh AE O O (Sl.bs ‹_› b) 0 O (by omega)) O ?_
 refine Ah (fun c b=>Bo (AO _) O (Sl.bs ‹_› b) (by omega)) O ?_
 refine Bq O<|Ah (fun c b=>Bh AE O O (Sl.bs ‹_› b) 1 O (by omega)) O ?_
 refine Ah (fun c b=>Bo (AO _) O (Sl.bs ‹_› b) (by omega)) O ?_
 refine Bq O<|Bq O<|Db O O (fun c b=>(Iu (t.getD 1 default) a a c (by omega) (by omega) (by omega)).q b)<|Bq O<|Ah (fun c b=>Bh AE O O (Sl.bs ‹_› b) 2 O (by omega)) O ?_
 refine Ah (fun c b=>Bo (AO _) O (Sl.bs ‹_› b) (by omega)) O ?_
 refine Bq O<|Bq O<|Db O O (fun c b=>(Iu (t.getD 2 default) a a c (by omega) (by omega) (by omega)).q b) ?_
 refine D0 (fun E b=> ?_)
 have e:=e.bs b
 have d:=d.bs b
 have B:=AA e
 refine Bc (Cv (vs:=(HR t a).map (Value.int .i64)) AE DO O O O O O) O ?_
 rintro x w ⟨o, -,f, -⟩
 have o:=BY o B
 have e:=e.bs f
 have d:=d.bs f
 refine Ab O<|Ab O<|Ay<|Bx O O O ?_
 rw [show CK t a=0 by simp [CK,q,A]]
 exact ⟨e,x,_,rfl,o,fun h=>absurd rfl h,fun _=>rfl⟩
-- DD STOPPED

def DI (k:BitVec 8):Option (List Int):=(Lk.find? (fun p=>decide (p.2.1=(k.toNat:Int)))).map (·.2.2)
def CU (k:BitVec 8) (i s:List Int) (n p:Int):Bool:=match DI k with
 |some [a,b,c,d,e,f]=>GF a b c d e f i s n p
 |_=>false
theorem H9 {l m d e c b:Int} {i s:List Int} {n p:Int}:GF l m d e c b i s n p=true↔(l≤(i.length:Int)∧(i.length:Int)≤m∧d≤n∧n≤e∧0≤p∧p≤c)∧(if b=0 then decide (s.length=0) else if b=1 then Shapes.ok s else HC s)=true:=by
 unfold GF
 rw [Bool.and_eq_true,Bool.not_eq_true',Bool.or_eq_false_iff,Bool.or_eq_false_iff,Bool.or_eq_false_iff,Bool.or_eq_false_iff,Bool.or_eq_false_iff]
 simp only [decide_eq_false_iff_not]
 constructor
 ·rintro ⟨⟨⟨⟨⟨⟨j,g⟩,o⟩,h⟩,k⟩,f⟩,a⟩
  exact ⟨⟨by omega,by omega,by omega,by omega,by omega,by omega⟩,a⟩
 ·rintro ⟨⟨j,g,o,h,k,f⟩,a⟩
  exact ⟨⟨⟨⟨⟨⟨by omega,by omega⟩,by omega⟩,by omega⟩,by omega⟩,by omega⟩,a⟩
def Kw (k:BitVec 8) (s:List Int) (n p:Int) (VA:List (List Int)):List Int:=
 let a:=VA.getD 0 []
 let b:=VA.getD 1 []
 if k=1#8∨k=2#8 then s else if k=5#8∨k=6#8 then a else if k=3#8∨k=4#8 then (if a=b then a else [])
 else if k=10#8 then (if Shapes.size a=Shapes.size s then s else []) else if k=7#8 then (if Gy a b=0 then [a.getD 0 default,b.getD 1 default] else [])
 else if k=8#8 then (if CI a b n p=0 then Hi a b n p else []) else if k=9#8 then (if CK a n=0 then HR a n else [])
 else if k=11#8 then Mu a s else if k=12#8 then Pk VA n.toNat else if k=13#8 then SP a n else []
theorem Ul (v:Value) (ps:List (Value×List Int)) (j:Int) (w:World) (h:LI w v ps) (i:0≤j∧j<(ps.length:Int)):
  AK prog 221 [.agg [v].toArray, .int .i64 j] w (fun r f=>r=(ps.getD j.toNat default).1∧Below w.heap.size w f):=by
 have b:=Below.refl w.heap.size w
 have a:=h.sl
 refine Az (n:=10) func221 O<|Ad<|Cr (cs:=[v]) O O O ?_
 rintro g w c e d -
 have b:=b.bs d
 have a:=a.bs d
 refine Ab O<|Be<|Ba underlying273 O (JH _)<|Aa (Al (OR _) O ‹_› rfl) O ?_
 refine Ac O<|Aa (Bh AX O O a j.toNat (show j=((j.toNat:Nat):Int) by omega) (show j.toNat<ps.length by omega)) O<|Aa (Ex.as (Bo (AN _) O a (show j.toNat<ps.length by omega)) O) O<|Ab O<|Ay<|As O O ?_
 exact ⟨rfl,b⟩
theorem Gv {s:List Int} (h:Shapes.ok s=true):1≤s.length∧s.length≤4:=((Shapes.ok_iff s).1 h).1
theorem Vm {s:List Int} (h:Shapes.ok s=true):∀x ∈ s,1≤x∧x≤64:=((Shapes.ok_iff s).1 h).2.1
theorem LO {k:Nat}:∀(l:List (List Int)) (s a:List Int),Ki k s l=some a→a.length=s.length
 |[],s,a,h=>by cases h;rfl
 |x::l,s,a,h=>by
  unfold Ki at h
  cases e:On k s x with
  |none=>rw [e] at h;cases h
  |some t=>
   rw [e] at h
   have b:=LO l t a h
   unfold On at e
   split at e
   ·cases e;rw [b,length_set]
   ·cases e
theorem T6 {l:List (List Int)} {k:Nat} (h:(l.headD []).length≤4):(Pk l k).length≤4:=by
 unfold Pk
 cases e:Ki k (l.headD []) l.tail with
 |none=>simp
 |some s=>
  have:=LO _ _ _ e
  simp only
  split
  ·omega
  ·simp
theorem So {l:List Int} (h:TG l=true) (n:l.length≤4):∀k ∈ l,0≤k∧k<(l.length:Int):=by
 rw [IA] at h
 have m:∀j,j<l.length→(j:Int) ∈ l:=fun j p=>by simpa using h j p
 match l,n with
 |[],_=>intro k o;cases o
 |[a],_=>
  have:=m 0 (by simp)
  simp at this ⊢;omega
 |[a,b],_=>
  have g:=m 0 (by simp);have f:=m 1 (by simp)
  simp at g f ⊢;omega
 |[a,b,c],_=>
  have g:=m 0 (by simp);have f:=m 1 (by simp);have i:=m 2 (by simp)
  simp at g f i ⊢;omega
 |[a,b,c,d],_=>
  have g:=m 0 (by simp);have f:=m 1 (by simp);have i:=m 2 (by simp);have q:=m 3 (by simp)
  simp at g f i q ⊢;omega
 |a::b::c::d::e::l,n=>simp at n
theorem AY {k:BitVec 8} {i s:List Int} {n p:Int} (h:CU k i s n p=true) {a b c d e f:Int} (g:DI k=some [a,b,c,d,e,f]):(a≤(i.length:Int)∧(i.length:Int)≤b∧c≤n∧n≤d∧0≤p∧p≤e)∧(if f=0 then decide (s.length=0) else if f=1 then Shapes.ok s else HC s)=true:=by
 unfold CU at h
 rw [g] at h
 exact H9.1 h
theorem T2:DI 1#8=some [0,0,0,0,0,1]:=by decide
theorem T1:DI 2#8=some [0,0,0,0,0,1]:=by decide
theorem Tz:DI 3#8=some [2,2,0,0,0,0]:=by decide
theorem Ty:DI 4#8=some [2,2,0,0,0,0]:=by decide
theorem U6:DI 5#8=some [1,1,0,0,0,0]:=by decide
theorem Tx:DI 6#8=some [1,1,0,31,0,0]:=by decide
theorem Tw:DI 7#8=some [2,2,0,0,0,0]:=by decide
theorem RM:DI 8#8=some [2,2,1,8,8,0]:=by decide
theorem Tv:DI 9#8=some [1,1,1,64,0,0]:=by decide
theorem Lj:DI 10#8=some [1,1,0,0,0,1]:=by decide
theorem Li:DI 11#8=some [1,1,0,0,0,2]:=by decide
theorem MQ:DI 12#8=some [1,4,0,3,0,0]:=by decide
theorem Lh:DI 13#8=some [1,1,0,3,0,0]:=by decide
theorem J6:∀k:BitVec 8,(DI k).isSome=true→(k=1#8∨k=2#8∨k=3#8∨k=4#8∨k=5#8∨k=6#8∨k=7#8∨k=8#8∨k=9#8∨k=10#8∨k=11#8∨k=12#8∨k=13#8):=by decide+kernel
theorem Vw (n:Int) (h:0≤n):(n.toNat:Int)=n:=by omega
set_option maxHeartbeats 1000000 in
theorem RY (x:N5) (v:Value) (ps:List (Value×List Int)) (w:World) (hx:N5.at w x) (h:LI w v ps) (E:CU x.k x.i x.s x.n x.p=true) (hi:∀j ∈ x.i,0≤j∧j<(ps.length:Int)) (M:∀p ∈ ps,Shapes.ok p.2=true):
  AK prog 220 [x.v, .func (.func 221) #[.agg [v].toArray] #[]] w (fun r X=>BO (Value.int .i64) X r (Kw x.k x.s x.n x.p (x.i.map fun j=>(ps.getD j.toNat default).2))∧Below w.heap.size w X∧∀b,r.ownBlock=some b→w.heap.size≤b∧b<X.heap.size):=by
 obtain ⟨G,hG⟩:∃G,G=Kw x.k x.s x.n x.p (x.i.map fun j=>(ps.getD j.toNat default).2):=⟨_,rfl⟩
 rw [← hG]
 obtain ⟨W,hW⟩:∃W,W=w:=⟨_,rfl⟩
 have N:=Below.refl W.heap.size W
 have h_i:=hx.i
 have V:=hx.s
 have hli:=h_i.le
 obtain ⟨s,hqs⟩:∃s,s=x.i.map fun j=>ps.getD j.toNat default:=⟨_,rfl⟩
 have hq2:AW s=x.i.map fun j=>(ps.getD j.toNat default).2:=by rw [hqs];simp [AW]
 have lq:s.length=x.i.length:=by rw [hqs,length_map]
 have K:∀p ∈ s,p ∈ ps:=fun p hp=>by
  rw [hqs] at hp
  obtain ⟨j,hj,rfl⟩:=List.mem_map.1 hp
  have:=hi j hj
  rw [getD_eq_getElem?_getD,getElem?_eq_getElem (by omega)]
  exact getElem_mem _
 have li4:x.i.length≤4:=by
  unfold CU at E
  split at E
  ·rename_i a b c d e f he
   have h1:=(H9.1 E).1
   have h2:∀p ∈ Lk,p.2.2.getD 1 0≤4:=by decide
   unfold DI at he
   cases hf:Lk.find? (fun p=>decide (p.2.1=(x.k.toNat:Int))) with
   |none=>rw [hf] at he;cases he
   |some p=>
    rw [hf] at he
    have h3:=h2 p (mem_of_find?_eq_some hf)
    have h4:p.2.2=[a,b,c,d,e,f]:=by simpa using he
    rw [h4] at h3
    simp at h3
    omega
  ·cases E
 rw [← hW] at hx h h_i V
 rw [← hW]
 refine Az (n:=124) func220 O<|Ad<|Cr (cs:=x.cells) O O O ?_
 rintro A_x w eA_x Y hn -
 have N:=N.bs hn
 have h_i:=h_i.bs hn
 have V:=V.bs hn
 refine Ab O<|Be<|Ab O<|Bi<|Ba underlying79 O (AT _)<|Aa (Al (AN _) O ‹_› rfl) O ?_
 refine Aa (Ap AE O ‹_›) O ?_
 refine Ac O<|Ak<|An ?_
 have zx:=BA Y
 have zW:=AA N
 obtain ⟨B,hBd⟩:∃B,B=w.heap.size:=⟨_,rfl⟩
 rw [← hBd] at zx zW
 refine Bl (S:=(Nat×Value)) (fun z=>[(1, .func (.func 221) #[.agg [v].toArray] #[]),(2, .pointer (some ⟨A_x,0,none⟩)),(4, .slice none 0 0),(5,z.2),(9,x.x),(10, .int .i64 (x.i.length:Int)),(11, .int .i64 (z.1:Int))]) (fun z X=>z.1≤x.i.length∧Below W.heap.size W X∧AP X A_x 79 x.cells∧X.ownsRow B 70 1 z.2 z.1 ((s.take z.1).map (·.1))∧B≤X.heap.size) (fun z=>x.i.length - z.1) ((0, .slice none 0 0)) ⟨rfl,rfl,rfl,rfl,rfl,rfl,rfl,trivial⟩ ?_ ?_
 ·exact ⟨Nat.zero_le _,N,Y,⟨rfl, .inl ⟨rfl,rfl⟩⟩,by omega⟩
 rintro ⟨i,u⟩ k ⟨hi1,N,Y,o_u,hAx⟩
 dsimp only at hi1 N Y o_u ⊢
 have h1:=h.bs N
 have h_i:=hx.i.bs N
 have V:=hx.s.bs N
 have zB:=AA N
 refine Ad<|Bz O<|Ak<|Ao<|Aq O ?_ ?_
 ·intro g
  have hi' :i<x.i.length:=by have:=AC g;omega
  obtain ⟨j,hj⟩:∃j,j=x.i.getD i default:=⟨_,rfl⟩
  have hjm:j ∈ x.i:=by rw [hj];exact GU hi'
  obtain ⟨q,hq⟩:∃q,q=ps.getD j.toNat default:=⟨_,rfl⟩
  have hqi:s[i]'(by omega)=q:=by
   have ej:x.i[i]=j:=by rw [hj,getD_eq_getElem?_getD,getElem?_eq_getElem hi'];rfl
   simp only [hqs,getElem_map,ej];exact hq.symm
  refine Bw<|Ao<|An<|Ad<|Aa (Bh AE O O ‹_› _ O (by omega)) O ?_
  refine Aa (Ex.as (Bo (AO _) O h_i hi') (cngA (Value.int .i64) hj.symm)) O<|Ab O<|Ak<|Bn<|Ac O<|Ac O<|Ac O<|Eo (p:=[.agg [v].toArray]) (q:=[]) O O O (Ul v ps j k h1 (hi j hjm)) ?_
  rintro _ w2 ⟨rfl,hn⟩
  rw [← hq]
  have s_q:BO (Value.int .i64) w2 q.1 q.2:=(h1.bs hn).each q (K q (hqi ▸ getElem_mem _))
  have o_u:=AI o_u hn
  have Y:=Y.bs hn
  have z2:=hn.size
  refine Bc (Cv (vs:=[q.1]) AX Jg O O O (by rw [all_cons,s_q.one'];rfl) O) O ?_
  rintro r Z ⟨o_r, -,o, -⟩
  have o_u:=AI o_u o
  have Y:=Y.bs o
  have z3:=o.size
  refine Bc (Cn (base:=B) AX Jg O (by decide) O O o_u (AF o_r) (by rw [all_cons,s_q.one'];rfl) (by omega) (by omega) (by omega)) O ?_
  rintro u' w4 ⟨o_u',hn4,hg4, -⟩
  have ub:=AB o_u
  have Y:=Y.by hg4 (fun e=>by have:=ub _ e.symm;omega)
  have e1:(s.take i).map (·.1)++[q.1]=(s.take (i+1)).map (·.1):=by
   rw [take_succ_eq_append_getElem (by omega),map_append,hqi];rfl
  rw [e1] at o_u'
  refine Ab O<|Bd<|Bg<|B6<|B1 O (by omega)<|Ac O<|Bd ?_
  exact Ar (Bp ((i+1,u')) ⟨rfl,rfl,rfl,rfl,rfl,rfl,rfl,trivial⟩ (⟨hi',((N.trans (hn.mono zB)).trans (o.mono (by omega))).trans (hn4.mono zW),Y,o_u',by have:=hn4.size;omega⟩) (by simp only;omega))
 intro g
 have hi' :i=x.i.length:=by have:=AD g;omega
 subst hi'
 rw [← lq,take_length] at o_u
 have Q:LI k u s:=⟨BD o_u,fun p hp=>h1.each p (K p hp)⟩
 have hq4:∀p ∈ s,p.2.length≤4∧∀y ∈ p.2,0≤y∧y≤64:=fun p hp=>⟨(Gv (M p (K p hp))).2,fun y hy=>by have:=Vm (M p (K p hp)) y hy;omega⟩
 have h0:∀(hl:0<s.length),∃q,s.getD 0 default=q∧(AW s).getD 0 []=q.2∧q ∈ s:=fun hl=>⟨s[0],by rw [getD_eq_getElem?_getD,getElem?_eq_getElem hl];rfl,by rw [getD_eq_getElem?_getD,getElem?_map,getElem?_eq_getElem hl];rfl,getElem_mem hl⟩
 have h1q:∀(hl:1<s.length),∃q,s.getD 1 default=q∧(AW s).getD 1 []=q.2∧q ∈ s:=fun hl=>⟨s[1],by rw [getD_eq_getElem?_getD,getElem?_eq_getElem hl];rfl,by rw [getD_eq_getElem?_getD,getElem?_map,getElem?_eq_getElem hl];rfl,getElem_mem hl⟩
 have A:=Q.sl
 rw [← hq2] at hG
 refine Bk<|Aj<|Aj<|A0<|Ar<|B9<|Ao<|Ad<|Ba underlying79 O (EA _)<|Aa (Al (ED _) O ‹_› rfl) O ?_
 refine Ak ?_
 refine Fm (St:=Value) (fun y=>[(4,y)]) (fun y X=>Below W.heap.size W X∧BO (Value.int .i64) X y G∧G.length≤4) ?_ ?_
 ·refine An<|Ao<|Ad<|Aa (Ch O (show _=some (b8 (1#8)) from rfl)) O<|Ab O<|Ak<|Aq O ?_ ?_
  ·intro g
   have g:x.k=1#8:=AC g
   refine Em 24 (v' := .bool true) O (cngA Value.bool (decide_eq_true g))<|Bw<|Ca O<|Bn<|Ba underlying79 O (AT _)<|Aa (Al (AN _) O ‹_› rfl) O ?_
   refine Ab O<|Bd<|Bg ?_
   have k_s:Shapes.ok x.s=true:=(AY (by rw [g] at E;exact E) T2).2
   have F:G=x.s:=by rw [hG,g];rfl
   exact Df (x.y) ⟨rfl,trivial⟩ (⟨N,by rw [F];exact V,by rw [F];exact (Gv k_s).2⟩)
  intro g1
  have g1:¬x.k=1#8:=AD g1
  refine Bn<|Aa (Ch O (show _=some (b8 (2#8)) from rfl)) O<|Ab O<|Ak<|Aq O ?_ ?_
  ·intro g
   have g:x.k=2#8:=AC g
   refine Bn<|Ba underlying79 O (AT _)<|Aa (Al (AN _) O ‹_› rfl) O ?_
   refine Ab O<|Bd<|Bg ?_
   have k_s:Shapes.ok x.s=true:=(AY (by rw [g] at E;exact E) T1).2
   have F:G=x.s:=by rw [hG,g];rfl
   exact Df (x.y) ⟨rfl,trivial⟩ (⟨N,by rw [F];exact V,by rw [F];exact (Gv k_s).2⟩)
  intro g2
  have g2:¬x.k=2#8:=AD g2
  refine Ao<|Ad<|Aa (Ch O (show _=some (b8 (5#8)) from rfl)) O<|Ab O<|Ak<|Aq O ?_ ?_
  ·intro g
   have g:x.k=5#8:=AC g
   have H:0<s.length:=by have:=(AY (by rw [g] at E;exact E) U6).1;omega
   obtain ⟨a,ea,ga,U⟩:=h0 H
   have J:=Q.each a U
   have T:=M a (K a U)
   have I:(s.getD 0 default).1=a.1:=by rw [ea]
   have F:G=a.2:=by rw [hG,g];exact ga
   refine Em 29 (v' := .bool true) O (cngA Value.bool (decide_eq_true g))<|Bw<|Ca O<|Bn<|Ac O<|Aa (Bh AX O O A 0 O H) O<|Aa (Ex.as (Bo (AN _) O A H) I) O<|Ab O<|Bd<|Bg ?_
   exact Df (a.1) ⟨rfl,trivial⟩ (⟨N,by rw [F];exact J,by rw [F];exact (Gv T).2⟩)
  intro g5
  have g5:¬x.k=5#8:=AD g5
  refine Bn<|Aa (Ch O (show _=some (b8 (6#8)) from rfl)) O<|Ab O<|Ak<|Aq O ?_ ?_
  ·intro g
   have g:x.k=6#8:=AC g
   have H:0<s.length:=by have:=(AY (by rw [g] at E;exact E) Tx).1;omega
   obtain ⟨a,ea,ga,U⟩:=h0 H
   have J:=Q.each a U
   have T:=M a (K a U)
   have I:(s.getD 0 default).1=a.1:=by rw [ea]
   have F:G=a.2:=by rw [hG,g];exact ga
   refine Bn<|Ac O<|Aa (Bh AX O O A 0 O H) O<|Aa (Ex.as (Bo (AN _) O A H) I) O<|Ab O<|Bd<|Bg ?_
   exact Df (a.1) ⟨rfl,trivial⟩ (⟨N,by rw [F];exact J,by rw [F];exact (Gv T).2⟩)
  intro g6
  have g6:¬x.k=6#8:=AD g6
  refine Ao<|Ad<|Aa (Ch O (show _=some (b8 (3#8)) from rfl)) O<|Ab O<|Ak<|Aq O ?_ ?_
  ·intro g
   have g:x.k=3#8:=AC g
   refine Em 35 (v' := .bool true) O (cngA Value.bool (decide_eq_true g))<|Bw<|Ca O<|Ao ?_
   have H:0<s.length:=by have:=(AY (by rw [g] at E;exact E) Tz).1;omega
   obtain ⟨a,ea,ga,U⟩:=h0 H
   have J:=Q.each a U
   have T:=M a (K a U)
   have I:(s.getD 0 default).1=a.1:=by rw [ea]
   have l2:1<s.length:=by have:=(AY (by rw [g] at E;exact E) Tz).1;omega
   obtain ⟨b,eb,gb,mb⟩:=h1q l2
   have s_b:=Q.each b mb
   have k_b:=M b (K b mb)
   have eb' :(s.getD 1 default).1=b.1:=by rw [eb]
   have F:G=if a.2=b.2 then a.2 else []:=by rw [hG,g,← ga,← gb];rfl
   refine Cw.any BB (fun w2 t _=> ?_)
   refine Dg (fun X=>Below k.heap.size k X) (fun hC=> ?_) (t)
   have C:=N.trans (t.mono (AA N))
   have R:=V.bs t
   have D:=J.bs t
   have s_b2:=s_b.bs t
   refine Cf (Am (Bf Dc))<|Af 0 O (fun k l=>B4 O) O<|Af 1 O (fun k l=>Bh AX O O (A.bs l) 0 O H) O<|Af 2 O (fun k l=>Ex.as (Bo (AN _) O (A.bs l) H) I) O<|Af 3 O (fun k l=>B4 O) O<|Af 4 O (fun k l=>Bh AX O O (A.bs l) 1 O l2) O<|Af 5 O (fun k l=>Ex.as (Bo (AN _) O (A.bs l) l2) eb') O<|B5<|AR.only ‹_› (i:=6) (by kernel_rfl) O ?_
   refine Ai O O (Hv a.1 b.1 a.2 b.2 w2 D s_b2) ?_
   rintro _ Z ⟨rfl,o⟩
   have hd3:Below k.heap.size k Z:=t.trans (o.mono t.size)
   have L:=C.trans (o.mono (AA C))
   have hql3:=(A.bs t).bs o
   refine AR.back<|Cq ‹_› (by kernel_rfl) ?_
   refine Ar<|B9<|Aq O ?_ ?_
   ·intro e
    have e:a.2=b.2:=AC e
    refine Bn<|Ac O<|Aa (Bh AX O O hql3 0 O H) O<|Aa (Ex.as (Bo (AN _) O hql3 H) I) O<|Ab O<|Bd<|Bg ?_
    exact Df (a.1) ⟨rfl,trivial⟩ (⟨L,by rw [F,if_pos e];exact D.bs o,by rw [F,if_pos e];exact (Gv T).2⟩)
   intro e
   have e:¬a.2=b.2:=AD e
   refine Cj<|Bg ?_
   exact Df ((.slice none 0 0)) ⟨rfl,trivial⟩ (⟨L,by rw [F,if_neg e];exact Ck _ _,by rw [F,if_neg e];exact Nat.zero_le _⟩)
  intro g3
  have g3:¬x.k=3#8:=AD g3
  refine Bn<|Aa (Ch O (show _=some (b8 (4#8)) from rfl)) O<|Ab O<|Ak<|Aq O ?_ ?_
  ·intro g
   have g:x.k=4#8:=AC g
   refine Ao ?_
   have H:0<s.length:=by have:=(AY (by rw [g] at E;exact E) Ty).1;omega
   obtain ⟨a,ea,ga,U⟩:=h0 H
   have J:=Q.each a U
   have T:=M a (K a U)
   have I:(s.getD 0 default).1=a.1:=by rw [ea]
   have l2:1<s.length:=by have:=(AY (by rw [g] at E;exact E) Ty).1;omega
   obtain ⟨b,eb,gb,mb⟩:=h1q l2
   have s_b:=Q.each b mb
   have k_b:=M b (K b mb)
   have eb' :(s.getD 1 default).1=b.1:=by rw [eb]
   have F:G=if a.2=b.2 then a.2 else []:=by rw [hG,g,← ga,← gb];rfl
   refine Cw.any BB (fun w2 t _=> ?_)
   refine Dg (fun X=>Below k.heap.size k X) (fun hC=> ?_) (t)
   have C:=N.trans (t.mono (AA N))
   have R:=V.bs t
   have D:=J.bs t
   have s_b2:=s_b.bs t
   refine Cf (Am (Bf Dc))<|Af 0 O (fun k l=>B4 O) O<|Af 1 O (fun k l=>Bh AX O O (A.bs l) 0 O H) O<|Af 2 O (fun k l=>Ex.as (Bo (AN _) O (A.bs l) H) I) O<|Af 3 O (fun k l=>B4 O) O<|Af 4 O (fun k l=>Bh AX O O (A.bs l) 1 O l2) O<|Af 5 O (fun k l=>Ex.as (Bo (AN _) O (A.bs l) l2) eb') O<|B5<|AR.only ‹_› (i:=6) (by kernel_rfl) O ?_
   refine Ai O O (Hv a.1 b.1 a.2 b.2 w2 D s_b2) ?_
   rintro _ Z ⟨rfl,o⟩
   have hd3:Below k.heap.size k Z:=t.trans (o.mono t.size)
   have L:=C.trans (o.mono (AA C))
   have hql3:=(A.bs t).bs o
   refine AR.back<|Cq ‹_› (by kernel_rfl) ?_
   refine Ar<|B9<|Aq O ?_ ?_
   ·intro e
    have e:a.2=b.2:=AC e
    refine Bn<|Ac O<|Aa (Bh AX O O hql3 0 O H) O<|Aa (Ex.as (Bo (AN _) O hql3 H) I) O<|Ab O<|Bd<|Bg ?_
    exact Df (a.1) ⟨rfl,trivial⟩ (⟨L,by rw [F,if_pos e];exact D.bs o,by rw [F,if_pos e];exact (Gv T).2⟩)
   intro e
   have e:¬a.2=b.2:=AD e
   refine Cj<|Bg ?_
   exact Df ((.slice none 0 0)) ⟨rfl,trivial⟩ (⟨L,by rw [F,if_neg e];exact Ck _ _,by rw [F,if_neg e];exact Nat.zero_le _⟩)
  intro g4
  have g4:¬x.k=4#8:=AD g4
  refine Ad<|Aa (Ch O (show _=some (b8 (10#8)) from rfl)) O<|Ab O<|Ak<|Aq O ?_ ?_
  ·intro g
   have g:x.k=10#8:=AC g
   refine Ao ?_
   have H:0<s.length:=by have:=(AY (by rw [g] at E;exact E) Lj).1;omega
   obtain ⟨a,ea,ga,U⟩:=h0 H
   have J:=Q.each a U
   have T:=M a (K a U)
   have I:(s.getD 0 default).1=a.1:=by rw [ea]
   have k_s:Shapes.ok x.s=true:=(AY (by rw [g] at E;exact E) Lj).2
   have F:G=if Shapes.size a.2=Shapes.size x.s then x.s else []:=by rw [hG,g,← ga];rfl
   refine Cw.any BB (fun w2 t _=> ?_)
   refine Dg (fun X=>Below k.heap.size k X) (fun hC=> ?_) (t)
   have C:=N.trans (t.mono (AA N))
   have R:=V.bs t
   have D:=J.bs t
   refine Cf (Am (Bf Dc))<|Af 0 O (fun k l=>B4 O) O<|Af 1 O (fun k l=>Bh AX O O (A.bs l) 0 O H) O<|Af 2 O (fun k l=>Ex.as (Bo (AN _) O (A.bs l) H) I) O<|Af 4 O (fun k l=>B8 underlying79 O (AT _)) O<|Af 5 O (fun k l=>Al (AN _) O (AP.bs ‹_› l) O) O<|B5 ?_
   refine AR.only ‹_› (i:=3) (by kernel_rfl) O ?_
   refine Ai O O (JM a.1 a.2 w2 D) ?_
   rintro _ Z ⟨rfl,o⟩
   have hd3:Below k.heap.size k Z:=t.trans (o.mono t.size)
   refine AR.back<|AR.only ‹_› (i:=6) (by kernel_rfl) O ?_
   refine Ai O O (JM x.y x.s Z (R.bs o)) ?_
   rintro _ w4 ⟨rfl,hn4⟩
   have hn34:=o.trans (hn4.mono o.size)
   have hB4:=C.trans (hn34.mono (AA C))
   have hd4:Below k.heap.size k w4:=t.trans (hn34.mono t.size)
   have Y:=(Y.bs t).bs hn34
   refine AR.back<|Cf (Am (Bf Dc))<|Af 7 O (fun k l=>C6 O O) O<|B5<|Cq ‹_› (by kernel_rfl) ?_
   refine Ar<|B9<|Aq O ?_ ?_
   ·intro e
    have e:Shapes.size a.2=Shapes.size x.s:=by have:=AC e;omega
    refine Bn<|Ba underlying79 O (AT _)<|Aa (Al (AN _) O ‹_› rfl) O ?_
    refine Ab O<|Bd<|Bg ?_
    exact Df (x.y) ⟨rfl,trivial⟩ (⟨hB4,by rw [F,if_pos e];exact R.bs hn34,by rw [F,if_pos e];exact (Gv k_s).2⟩)
   intro e
   have e:¬Shapes.size a.2=Shapes.size x.s:=by have:=AD e;omega
   refine Cj<|Bg ?_
   exact Df ((.slice none 0 0)) ⟨rfl,trivial⟩ (⟨hB4,by rw [F,if_neg e];exact Ck _ _,by rw [F,if_neg e];exact Nat.zero_le _⟩)
  intro g10
  have g10:¬x.k=10#8:=AD g10
  refine Ad<|Aa (Ch O (show _=some (b8 (7#8)) from rfl)) O<|Ab O<|Ak<|Aq O ?_ ?_
  ·intro g
   have g:x.k=7#8:=AC g
   have F:G=if Gy ((AW s).getD 0 []) ((AW s).getD 1 [])=0 then [((AW s).getD 0 []).getD 0 default,((AW s).getD 1 []).getD 1 default] else []:=by rw [hG,g];rfl
   have H:0<s.length:=by have:=(AY (by rw [g] at E;exact E) Tw).1;omega
   obtain ⟨a,ea,ga,U⟩:=h0 H
   have J:=Q.each a U
   have T:=M a (K a U)
   have I:(s.getD 0 default).1=a.1:=by rw [ea]
   have l2:1<s.length:=by have:=(AY (by rw [g] at E;exact E) Tw).1;omega
   obtain ⟨b,eb,gb,mb⟩:=h1q l2
   have s_b:=Q.each b mb
   have k_b:=M b (K b mb)
   have eb' :(s.getD 1 default).1=b.1:=by rw [eb]
   refine Cw.any BB (fun w2 t _=> ?_)
   refine Dg (fun X=>Below k.heap.size k X) (fun hC=> ?_) (t)
   have C:=N.trans (t.mono (AA N))
   have R:=V.bs t
   have D:=J.bs t
   have s_b2:=s_b.bs t
   refine Cf (Bf Dc)<|Af 0 O (fun k l=>B4 O) O<|Af 1 O (fun k l=>Bh AX O O (A.bs l) 0 O H) O<|Af 2 O (fun k l=>Ex.as (Bo (AN _) O (A.bs l) H) I) O<|Af 3 O (fun k l=>B4 O) O<|Af 4 O (fun k l=>Bh AX O O (A.bs l) 1 O l2) O<|Af 5 O (fun k l=>Ex.as (Bo (AN _) O (A.bs l) l2) eb') O<|B5<|AR.only ‹_› (i:=6) (by kernel_rfl) O ?_
   rw [ga,gb] at F
   refine Ai O O (Rv a.1 b.1 a.2 b.2 w2 D s_b2) ?_
   rintro _ Z ⟨o,y,rfl,hy0,hy1⟩
   have hd3:Below k.heap.size k Z:=t.trans (o.mono t.size)
   have L:=C.trans (o.mono (AA C))
   have hy:BO (Value.int .i64) Z y G∧G.length≤4:=by
    by_cases e:Gy a.2 b.2=0
    ·rw [F,if_pos e];exact ⟨BD (hy1 e),by simp⟩
    ·rw [F,if_neg e,hy0 e];exact ⟨Ck _ _,by simp⟩
   refine AR.back<|Cf (Bf Dc)<|Af 7 O (fun k l=>B4 O) O<|Af 8 O (fun k l=>Bt (i:=0) O O) O<|Af 9 O (fun k l=>Bt (i:=1) O O) O<|Af 10 O (fun k l=>Ce O) O<|B5<|Cq ‹_› (by kernel_rfl) ?_
   exact Bg<|Df (y) ⟨rfl,trivial⟩ (⟨L,hy.1,hy.2⟩)
  intro g7
  have g7:¬x.k=7#8:=AD g7
  refine Ad<|Aa (Ch O (show _=some (b8 (8#8)) from rfl)) O<|Ab O<|Ak<|Aq O ?_ ?_
  ·intro g
   have g:x.k=8#8:=AC g
   have F:G=if CI ((AW s).getD 0 []) ((AW s).getD 1 []) x.n x.p=0 then Hi ((AW s).getD 0 []) ((AW s).getD 1 []) x.n x.p else []:=by rw [hG,g];rfl
   have H:0<s.length:=by have:=(AY (by rw [g] at E;exact E) RM).1;omega
   obtain ⟨a,ea,ga,U⟩:=h0 H
   have J:=Q.each a U
   have T:=M a (K a U)
   have I:(s.getD 0 default).1=a.1:=by rw [ea]
   have l2:1<s.length:=by have:=(AY (by rw [g] at E;exact E) RM).1;omega
   obtain ⟨b,eb,gb,mb⟩:=h1q l2
   have s_b:=Q.each b mb
   have k_b:=M b (K b mb)
   have eb' :(s.getD 1 default).1=b.1:=by rw [eb]
   refine Cw.any BB (fun w2 t _=> ?_)
   refine Dg (fun X=>Below k.heap.size k X) (fun hC=> ?_) (t)
   have C:=N.trans (t.mono (AA N))
   have R:=V.bs t
   have D:=J.bs t
   have s_b2:=s_b.bs t
   refine Cf (Bf Dc)<|Af 0 O (fun k l=>B4 O) O<|Af 1 O (fun k l=>Bh AX O O (A.bs l) 0 O H) O<|Af 2 O (fun k l=>Ex.as (Bo (AN _) O (A.bs l) H) I) O<|Af 3 O (fun k l=>B4 O) O<|Af 4 O (fun k l=>Bh AX O O (A.bs l) 1 O l2) O<|Af 5 O (fun k l=>Ex.as (Bo (AN _) O (A.bs l) l2) eb') O<|Af 6 O (fun k l=>B8 underlying79 O (BC _)) O<|Af 7 O (fun k l=>Al (AO _) O (AP.bs ‹_› l) O) O<|Af 8 O (fun k l=>B8 underlying79 O (BC _)) O<|Af 9 O (fun k l=>Al (AO _) O (AP.bs ‹_› l) O) O<|B5 ?_
   refine AR.only ‹_› (i:=10) (by kernel_rfl) O ?_
   rw [ga,gb] at F
   refine Ai O O (Q8 a.2 b.2 x.n x.p a.1 b.1 w2 D s_b2) ?_
   rintro _ Z ⟨o,y,m,rfl,o_y,hy0,hy1⟩
   have hd3:Below k.heap.size k Z:=t.trans (o.mono t.size)
   have L:=C.trans (o.mono (AA C))
   have hy:BO (Value.int .i64) Z y G∧G.length≤4:=by
    by_cases e:CI a.2 b.2 x.n x.p=0
    ·rw [F,if_pos e,← hy1 e];exact ⟨BD o_y,by rw [hy1 e];simp [Hi]⟩
    ·rw [F,if_neg e,(hy0 e).1];exact ⟨Ck _ _,by simp⟩
   refine AR.back<|Cf (Bf Dc)<|Af 11 O (fun k l=>B4 O) O<|Af 12 O (fun k l=>Bt (i:=0) O O) O<|Af 13 O (fun k l=>Bt (i:=1) O O) O<|Af 14 O (fun k l=>Ce O) O<|B5<|Cq ‹_› (by kernel_rfl) ?_
   exact Bg<|Df (y) ⟨rfl,trivial⟩ (⟨L,hy.1,hy.2⟩)
  intro g8
  have g8:¬x.k=8#8:=AD g8
  refine Ad<|Aa (Ch O (show _=some (b8 (9#8)) from rfl)) O<|Ab O<|Ak<|Aq O ?_ ?_
  ·intro g
   have g:x.k=9#8:=AC g
   have F:G=if CK ((AW s).getD 0 []) x.n=0 then HR ((AW s).getD 0 []) x.n else []:=by rw [hG,g];rfl
   have H:0<s.length:=by have:=(AY (by rw [g] at E;exact E) Tv).1;omega
   obtain ⟨a,ea,ga,U⟩:=h0 H
   have J:=Q.each a U
   have T:=M a (K a U)
   have I:(s.getD 0 default).1=a.1:=by rw [ea]
   refine Cw.any BB (fun w2 t _=> ?_)
   refine Dg (fun X=>Below k.heap.size k X) (fun hC=> ?_) (t)
   have C:=N.trans (t.mono (AA N))
   have R:=V.bs t
   have D:=J.bs t
   refine Cf (Bf Dc)<|Af 0 O (fun k l=>B4 O) O<|Af 1 O (fun k l=>Bh AX O O (A.bs l) 0 O H) O<|Af 2 O (fun k l=>Ex.as (Bo (AN _) O (A.bs l) H) I) O<|Af 3 O (fun k l=>B8 underlying79 O (BC _)) O<|Af 4 O (fun k l=>Al (AO _) O (AP.bs ‹_› l) O) O<|B5 ?_
   refine AR.only ‹_› (i:=5) (by kernel_rfl) O ?_
   rw [ga] at F
   refine Ai O O (P0 a.2 x.n a.1 w2 D) ?_
   rintro _ Z ⟨o,y,m,rfl,o_y,hy0,hy1⟩
   have hd3:Below k.heap.size k Z:=t.trans (o.mono t.size)
   have L:=C.trans (o.mono (AA C))
   have hy:BO (Value.int .i64) Z y G∧G.length≤4:=by
    by_cases e:CK a.2 x.n=0
    ·rw [F,if_pos e,← hy1 e];exact ⟨BD o_y,by rw [hy1 e];simp [HR]⟩
    ·rw [F,if_neg e,(hy0 e).1];exact ⟨Ck _ _,by simp⟩
   refine AR.back<|Cf (Bf Dc)<|Af 6 O (fun k l=>B4 O) O<|Af 7 O (fun k l=>Bt (i:=0) O O) O<|Af 8 O (fun k l=>Bt (i:=1) O O) O<|Af 9 O (fun k l=>Ce O) O<|B5<|Cq ‹_› (by kernel_rfl) ?_
   exact Bg<|Df (y) ⟨rfl,trivial⟩ (⟨L,hy.1,hy.2⟩)
  intro g9
  have g9:¬x.k=9#8:=AD g9
  refine Ad<|Aa (Ch O (show _=some (b8 (11#8)) from rfl)) O<|Ab O<|Ak<|Aq O ?_ ?_
  ·intro g
   have g:x.k=11#8:=AC g
   have k_s:HC x.s=true:=(AY (by rw [g] at E;exact E) Li).2
   have k_c:TG x.s=true∧x.s.length≤4:=by unfold HC at k_s;rw [Bool.and_eq_true] at k_s;exact ⟨k_s.1,AC k_s.2⟩
   have F:G=Mu ((AW s).getD 0 []) x.s:=by rw [hG,g];rfl
   have H:0<s.length:=by have:=(AY (by rw [g] at E;exact E) Li).1;omega
   obtain ⟨a,ea,ga,U⟩:=h0 H
   have J:=Q.each a U
   have T:=M a (K a U)
   have I:(s.getD 0 default).1=a.1:=by rw [ea]
   refine Cw.any BB (fun w2 t _=> ?_)
   refine Dg (fun X=>Below k.heap.size k X) (fun hC=> ?_) (t)
   have C:=N.trans (t.mono (AA N))
   have R:=V.bs t
   have D:=J.bs t
   refine Cf (Bf Dc)<|Af 0 O (fun k l=>B4 O) O<|Af 1 O (fun k l=>Bh AX O O (A.bs l) 0 O H) O<|Af 2 O (fun k l=>Ex.as (Bo (AN _) O (A.bs l) H) I) O<|Af 3 O (fun k l=>B8 underlying79 O (AT _)) O<|Af 4 O (fun k l=>Al (AN _) O (AP.bs ‹_› l) O) O<|B5 ?_
   refine AR.only ‹_› (i:=5) (by kernel_rfl) O ?_
   rw [ga] at F
   refine Ai O O (Qk a.1 x.y a.2 x.s w2 D R (So k_c.1 k_c.2) (by omega)) ?_
   rintro y Z ⟨s_y,o⟩
   have hd3:Below k.heap.size k Z:=t.trans (o.mono t.size)
   have L:=C.trans (o.mono (AA C))
   have lG:G.length≤4:=by rw [F];unfold Mu;split;rw [length_map];exact k_c.2;simp
   refine AR.back<|Cf (Bf Dc)<|Af 6 O (fun k l=>Ce O) O<|B5<|Cq ‹_› (by kernel_rfl) ?_
   refine Bg ?_
   exact Df (y) ⟨rfl,trivial⟩ (⟨L,by rw [F];exact s_y,lG⟩)
  intro g11
  have g11:¬x.k=11#8:=AD g11
  refine Ad<|Aa (Ch O (show _=some (b8 (12#8)) from rfl)) O<|Ab O<|Ak<|Aq O ?_ ?_
  ·intro g
   have g:x.k=12#8:=AC g
   refine Bn<|Ac O<|Ba underlying79 O (BC _)<|Aa (Al (AO _) O ‹_› rfl) O ?_
   have H:0<s.length:=by have:=(AY (by rw [g] at E;exact E) MQ).1;omega
   have n0:0≤x.n:=by have:=(AY (by rw [g] at E;exact E) MQ).1;omega
   have F:G=Pk (AW s) x.n.toNat:=by rw [hG,g];rfl
   have hj:=Qr u s x.n.toNat k Q H (by omega) hq4
   rw [Vw x.n n0] at hj
   have lG:G.length≤4:=by
    rw [F]
    obtain ⟨a, -,ga,U⟩:=h0 H
    refine T6 ?_
    have:(AW s).headD []=(AW s).getD 0 []:=by cases AW s<;>rfl
    rw [this,ga];exact (hq4 a U).1
   refine Ai O O (hj) ?_
   rintro y Z ⟨s_y,o⟩
   have L:=N.trans (o.mono (AA N))
   refine Ab O<|Bd<|Bg ?_
   exact Df (y) ⟨rfl,trivial⟩ (⟨L,by rw [F];exact s_y,lG⟩)
  intro g12
  have g12:¬x.k=12#8:=AD g12
  refine Ad<|Aa (Ch O (show _=some (b8 (13#8)) from rfl)) O<|Ab O<|Ak<|Aq O ?_ ?_
  ·intro g
   have g:x.k=13#8:=AC g
   have n0:0≤x.n:=by have:=(AY (by rw [g] at E;exact E) Lh).1;omega
   have F:G=SP ((AW s).getD 0 []) x.n:=by rw [hG,g];rfl
   have H:0<s.length:=by have:=(AY (by rw [g] at E;exact E) Lh).1;omega
   obtain ⟨a,ea,ga,U⟩:=h0 H
   have J:=Q.each a U
   have T:=M a (K a U)
   have I:(s.getD 0 default).1=a.1:=by rw [ea]
   refine Cw.any BB (fun w2 t _=> ?_)
   refine Dg (fun X=>Below k.heap.size k X) (fun hC=> ?_) (t)
   have C:=N.trans (t.mono (AA N))
   have R:=V.bs t
   have D:=J.bs t
   refine Cf (Bf Dc)<|Af 0 O (fun k l=>B4 O) O<|Af 1 O (fun k l=>Bh AX O O (A.bs l) 0 O H) O<|Af 2 O (fun k l=>Ex.as (Bo (AN _) O (A.bs l) H) I) O<|Af 3 O (fun k l=>B8 underlying79 O (BC _)) O<|Af 4 O (fun k l=>Al (AO _) O (AP.bs ‹_› l) O) O<|B5 ?_
   refine AR.only ‹_› (i:=5) (by kernel_rfl) O ?_
   rw [ga] at F
   refine Ai O O (Ot a.1 a.2 x.n w2 D n0 (by have:=(Gv T).2;omega)) ?_
   rintro y Z ⟨s_y,o⟩
   have hd3:Below k.heap.size k Z:=t.trans (o.mono t.size)
   have L:=C.trans (o.mono (AA C))
   have lG:G.length≤4:=by
    have:=(Gv T).2
    rw [F];unfold SP
    split
    ·simp
    ·split
     ·simp
     ·rw [length_eraseIdx];split<;>omega
   refine AR.back<|Cf (Bf Dc)<|Af 6 O (fun k l=>Ce O) O<|B5<|Cq ‹_› (by kernel_rfl) ?_
   refine Bg ?_
   exact Df (y) ⟨rfl,trivial⟩ (⟨L,by rw [F];exact s_y,lG⟩)
  intro g13
  have g13:¬x.k=13#8:=AD g13
  exfalso
  have hs:(DI x.k).isSome=true:=by
   cases e:DI x.k with
   |some _=>rfl
   |none=>unfold CU at E;rw [e] at E;cases E
  rcases J6 x.k hs with e|e|e|e|e|e|e|e|e|e|e|e|e
  ·exact g1 e
  ·exact g2 e
  ·exact g3 e
  ·exact g4 e
  ·exact g5 e
  ·exact g6 e
  ·exact g7 e
  ·exact g8 e
  ·exact g9 e
  ·exact g10 e
  ·exact g11 e
  ·exact g12 e
  ·exact g13 e
 rintro y w2 ⟨C,s_y,hG4⟩
 refine Ad<|Ac O<|Ai O O (J9 y G w2 s_y (by omega)) ?_
 rintro r Z ⟨o_r,o⟩
 refine Ai O O (Ma r G Z (BD o_r)) ?_
 rintro _ w4 ⟨rfl,hn4⟩
 refine Ab O<|Ay<|As O O ?_
 have kr:=(AQ.clip o_r).bs hn4
 have z2:=AA C
 exact ⟨kr.slT,(C.trans (o.mono (AA C))).trans (hn4.mono (by have:=o.size;omega)),fun b e=>by have:=kr.lt b e;omega⟩
end Go.Proofs.YtblbopcaflaldaaGreatDoor
