/- The card on what is put and got. -/
import Derived.Test.YtblbopcaflaldaaGreatDoorPk5

namespace Go.Proofs.YtblbopcaflaldaaGreatDoor
open Go Go.Dd Go.RowKit Go.ChangeShapes Go.WideShapes Go.ChangeAt List Go.Proofs.Tryz
set_option maxRecDepth 100000
-- dd: joined
-- dd: laidx
set_option maxRecDepth 100000 in
set_option maxHeartbeats 2000000 in
theorem HJ (os:Os) (a:os.Started) (H:Type) (enc:TypeId×Value→H):
  ReturnsInHanded {} Tryz.checked os 6 .any (fun w args=>(Rows.modelsBackSpec.pre enc prog Tryz.f6 Rows.modelsBackRow.domain false w args∧laidMetH prog Rows.modelsBackRow.laid w)∧sizedMet enc prog Tryz.f6 (OpenSpec.ofChange Rows.modelsBackSpec) false w args) (Rows.modelsBackSpec.post enc prog Tryz.f6 false true false false):=by
 refine Om (C:=Tryz.checked) own a (by kernel_rfl) func6
  (ChangeSpec.witness_at (enc:=enc) (C:=Tryz.checked) (os:=os) (X:=fun w _=>laidMetH prog Rows.modelsBackRow.laid w) false (J6 os) #[.agg #[.slice none 0 0, .slice none 0 0]] 8 rfl (by kernel_rfl) (by kernel_rfl) (by kernel_rfl) (by kernel_rfl) (by kernel_rfl) (Oo os _)) ?_
 intro W base args ds J l b y d A k
 have R:IK W:=LQ A k
 clear A k
 have c:∀(j:Nat) t v,Tryz.f6.params[j]? =some t→args[j]? =some v→Value.okWide prog W .any base t v:=b
 have r:=y
 obtain ⟨p,q,g,hV,rfl,hfz,N⟩:=y
 have B:DataW.TrodAll enc prog W 0 (fun _=>true) true Tryz.f6.params.toList args.toList ds p:=g
 have f:(DataW.weightsEach prog (Tryz.f6.params.toList++Rows.modelsBackSpec.plain.varTypes prog) (ds++J)).all (·≤reachBytes)=true:=d
 rw [Tryz.params6] at B c f
 obtain ⟨D,V,d0,F,U,q0,o,rfl,rfl,s,I⟩:=trodAll_cons B
 obtain ⟨rfl,rfl,rfl⟩:=trodAll_nil I
 obtain rfl:args= #[D]:=by cases args;simp_all
 obtain ⟨rfl,rfl⟩:=trodVars_none hV
 have z:=s
 have n:∀x ∈ U,x.block<W.heap.size:=by obtain ⟨m,S⟩:=z;exact DataW.trod_lt m _ _ _ S
 have M:=TC (j:=0) (t:=27) f rfl rfl s
 have Y:=c 0 27 D rfl rfl
 clear g b d f
 obtain ⟨v,u,ls,ws,rfl,K,E,Q,G,L,T⟩:=OJ Y M
 refine (On (KL v u ls ws W R K E Q G L T)).mono fun e W' ⟨Z,i⟩=> ?_
 subst Z
 exact ⟨_,rfl,_,_,_,[],_,[],r,trodAll_mk1 (shut_bool RS _),(trodAll_cons_mk (Below.trod Rb (by kernel_rfl) (AF (by kernel_rfl)) z i n) trodAll_mk0),rfl,i.frame _,fun h=>by cases h⟩
theorem SR {a b:Bool} (h:a=true) (k:b=true):(a && b)=true:=by rw [h,k];rfl
set_option maxRecDepth 100000 in
set_option maxHeartbeats 40000000 in
theorem HK:joinedFacts Tryz.pinned.checked.prog 6 Tryz.f6 Rows.modelsBackSpec Rows.modelsBackRow=true:=by
 unfold joinedFacts
 repeat' with_reducible refine SR ?_ ?_
 all_goals as_aux_lemma=>kernel_rfl
theorem Ix:Rows.ModelsBackSaid:=
 OpenClaim.holds_of_wide 6 Tryz.f6 rfl rfl rfl rfl rfl rfl rfl ⟨rfl,rfl,rfl,rfl,rfl⟩ rfl rfl rfl rfl rfl (by kernel_rfl) func6 HK
  (AF (by kernel_rfl)) (by unfold Func.isWrapper;first|(rw [if_pos (by decide+kernel)];kernel_rfl)|(rw [if_neg (by decide+kernel)];exact ⟨rfl,rfl⟩))
  (fun os a H enc _=>HJ os a H enc)
theorem modelsBack_proved:Rows.ModelsBackCardSaid:=
 Claim7.holds_tied_plain_at .later [] [.data, .data, .data, .data, .sentinel, .sentinel, .pinned] true (true, "339cb06303f4fb3caa7f7332b200a530f232afd8be97a6eeaafabf058d1c6c2d") true
  Ix (fun _ h=>by cases h) (by kernel_rfl) (fun _ h=>by cases h) modelsBack_row_tie rfl ⟨rfl,rfl⟩ (by kernel_rfl) rfl
  (fun f d c a=>by
   obtain rfl : f = 6 := Option.some.inj ((show Tryz.prog.funcNamed "drydock/drydocklaw11.ModelsBack" = some 6 by kernel_rfl).symm.trans c) |>.symm
   obtain rfl:d=Tryz.f6:=(Option.some.inj (Tryz.func6.symm.trans a)).symm
   refine ⟨by kernel_rfl,fun j t b=> ?_⟩
   rw [Tryz.params6] at b
   have g:t ∈ [27]:=mem_of_getElem? (by simpa using b)
   have e:([27]:List TypeId).all (fun t=>Tryz.prog.wantsStandIn t==false)=true:=by kernel_rfl
   exact eq_of_beq (List.all_eq_true.1 e t g))
  (by kernel_rfl)
#print axioms modelsBack_proved
end Go.Proofs.YtblbopcaflaldaaGreatDoor
