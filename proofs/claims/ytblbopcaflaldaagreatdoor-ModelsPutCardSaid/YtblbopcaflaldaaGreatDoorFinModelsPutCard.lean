/- The card on Put and Get of models. -/
import Derived.Test.YtblbopcaflaldaaGreatDoorPk6
namespace Go.Proofs.YtblbopcaflaldaaGreatDoor
open Go Go.Dd Go.RowKit Go.ChangeShapes Go.WideShapes Go.ChangeAt List Go.Proofs.Tryz
set_option maxRecDepth 100000
-- dd: joined
def Qd:DataW Unit→Array Value
 | .agg l=>(l.map fun d=>match d with| .lit (.int k n)=>Value.int k n|_=>Value.bool false).toArray
 |_=> #[]
noncomputable def Lf (os:Os):World:=
 {World.holding prog os ⟨#[], #[],[]⟩ with heap:=Rows.modelsPutRow.laid.foldl (fun h x=>h.modify ((Tryz.prog.globalNamed x.1).getD 0) fun| .cells _ t fz=> .cells (Qd x.2) t fz|o=>o) (World.holding prog os ⟨#[], #[],[]⟩).heap}
theorem RH (os:Os) (args:Array Value):laidMetH prog Rows.modelsPutRow.laid ((Lf os).forCall (fun _ _=>0) ⟨#[],args,[]⟩).memory:=
 laidMetH_of_parts (laidMet_of_run' 8 (by kernel_rfl) (by kernel_rfl)) (by kernel_rfl)
set_option maxRecDepth 100000 in
set_option maxHeartbeats 2000000 in
theorem IJ (os:Os) (a:os.Started) (H:Type) (enc:TypeId×Value→H):
  ReturnsInHanded {} Tryz.checked os 3 .any (fun w args=>(Rows.modelsPutSpec.pre enc prog Tryz.f3 Rows.modelsPutRow.domain false w args∧laidMetH prog Rows.modelsPutRow.laid w)∧sizedMet enc prog Tryz.f3 (OpenSpec.ofChange Rows.modelsPutSpec) false w args) (Rows.modelsPutSpec.post enc prog Tryz.f3 false true false false):=by
 refine returnsInHanded_of_change_and (C:=Tryz.checked) (X:=fun w _=>laidMetH prog Rows.modelsPutRow.laid w) (fun _ _ _ hh h=>h.of_heap hh) own a (by kernel_rfl) func3
  (ChangeSpec.witness_at (enc:=enc) (C:=Tryz.checked) (os:=os) (X:=fun w _=>laidMetH prog Rows.modelsPutRow.laid w) false (Lf os) #[.agg #[.slice none 0 0, .slice none 0 0], .slice none 0 0] 8 rfl (by kernel_rfl) (by kernel_rfl) (by kernel_rfl) (by kernel_rfl) (by kernel_rfl) (RH os _)) ?_
 intro W base args ds S n c E I f _ _
 have b:∀(j:Nat) t v,Tryz.f3.params[j]? =some t→args[j]? =some v→Value.okWide prog W .any base t v:=c
 have y:=E
 obtain ⟨p,q,i,hV,rfl,hfz,hnd⟩:=E
 have G:DataW.TrodAll enc prog W 0 (fun _=>true) true Tryz.f3.params.toList args.toList ds p:=i
 have d:(DataW.weightsEach prog (Tryz.f3.params.toList++Rows.modelsPutSpec.plain.varTypes prog) (ds++S)).all (·≤reachBytes)=true:=f
 rw [Tryz.params3] at G b d
 obtain ⟨J,vs0,d0,N,p0,q0,s,rfl,rfl,D,R⟩:=trodAll_cons G
 obtain ⟨r,M,d1,ds1,Y,q1,rfl,rfl,rfl,k,L⟩:=trodAll_cons R
 obtain ⟨rfl,rfl,rfl⟩:=trodAll_nil L
 obtain rfl:args= #[J,r]:=by cases args;simp_all
 obtain ⟨rfl,rfl⟩:=trodVars_none hV
 have F:=D
 have o:∀x ∈ p0,x.block<W.heap.size:=by obtain ⟨m,z⟩:=F;exact DataW.trod_lt m _ _ _ z
 have V:=TZ (j:=0) (t:=27) d rfl rfl D
 have o0:=b 0 27 J rfl rfl
 have B:=k
 have A:∀x ∈ Y,x.block<W.heap.size:=by obtain ⟨m,z⟩:=B;exact DataW.trod_lt m _ _ _ z
 have i1:=TZ (j:=1) (t:=28) d rfl rfl k
 have Z:=b 1 28 r rfl rfl
 clear i c f d
 obtain ⟨v,u,ls,ws,rfl,k,K,h3,Q,T,h6⟩:=Q4 o0 V
 obtain ⟨l,U, -⟩:=TP Va (by kernel_rfl) (fun cs h=>In.num (BitVec.ofInt 8) b8 (fun _ h=>TT h) GM h) Z i1
 refine (Qc (MI v u r ls ws l W k K h3 Q T h6 U)).mono fun e W' ⟨he,g⟩=> ?_
 subst he
 exact ⟨_,rfl,_,_,_,[],_,[],y,trodAll_mk1 (shut_bool VD _),(trodAll_cons_mk (Below.trod Pj (by kernel_rfl) (AC (by kernel_rfl)) F g o) (trodAll_cons_mk (Below.trod Pj (by kernel_rfl) (AC (by kernel_rfl)) B g A) trodAll_mk0)),rfl,g.frame _,fun h=>by cases h⟩
theorem UL {a b:Bool} (h:a=true) (k:b=true):(a && b)=true:=by rw [h,k];rfl
set_option maxRecDepth 100000 in
set_option maxHeartbeats 40000000 in
theorem IK:joinedFacts Tryz.pinned.checked.prog 3 Tryz.f3 Rows.modelsPutSpec Rows.modelsPutRow=true:=by
 unfold joinedFacts
 repeat' with_reducible refine UL ?_ ?_
 all_goals as_aux_lemma=>kernel_rfl
theorem Jv:Rows.ModelsPutSaid:=
 OpenClaim.holds_of_wide 3 Tryz.f3 rfl rfl rfl rfl rfl rfl rfl ⟨rfl,rfl,rfl,rfl,rfl⟩ rfl rfl rfl rfl rfl (by kernel_rfl) func3 IK
  (AC (by kernel_rfl)) (by unfold Func.isWrapper;first|(rw [if_pos (by decide+kernel)];kernel_rfl)|(rw [if_neg (by decide+kernel)];exact ⟨rfl,rfl⟩))
  (fun os a H enc _=>IJ os a H enc)
theorem modelsPut_proved:Rows.ModelsPutCardSaid:=
 Claim7.holds_tied_plain_at .later [] [.data, .data, .data] true (true, "339cb06303f4fb3caa7f7332b200a530f232afd8be97a6eeaafabf058d1c6c2d") true
  Jv (fun _ h=>by cases h) (by kernel_rfl) (fun _ h=>by cases h) modelsPut_row_tie rfl ⟨rfl,rfl⟩ (by kernel_rfl) rfl
  (fun f d c a=>by
   obtain rfl : f = 3 := Option.some.inj ((show Tryz.prog.funcNamed "drydock/drydocklaw11.ModelsPut" = some 3 by kernel_rfl).symm.trans c) |>.symm
   obtain rfl:d=Tryz.f3:=(Option.some.inj (Tryz.func3.symm.trans a)).symm
   refine ⟨by kernel_rfl,fun j t b=> ?_⟩
   rw [Tryz.params3] at b
   have g:t ∈ [27,28]:=mem_of_getElem? (by simpa using b)
   have e:([27,28]:List TypeId).all (fun t=>Tryz.prog.wantsStandIn t==false)=true:=by kernel_rfl
   exact eq_of_beq (List.all_eq_true.1 e t g))
  (by kernel_rfl)
#print axioms modelsPut_proved
end Go.Proofs.YtblbopcaflaldaaGreatDoor
