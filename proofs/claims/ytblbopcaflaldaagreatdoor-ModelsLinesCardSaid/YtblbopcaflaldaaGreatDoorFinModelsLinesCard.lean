/- The card on what is written and read. -/
import Derived.Test.YtblbopcaflaldaaGreatDoorPk4

namespace Go.Proofs.YtblbopcaflaldaaGreatDoor
open Go Go.Dd Go.RowKit Go.ChangeShapes Go.WideShapes Go.ChangeAt List Go.Proofs.Tryz
set_option maxRecDepth 100000
-- dd: joined
-- dd: laidx
theorem Pi {w:World} {base:Nat} {v:Value} (h:Value.okWide prog w .any base 9 v):∃s:List UInt8,v=st s:=by
 obtain ⟨b,rfl⟩:=okWide_string HX h
 exact ⟨_,Lh b⟩
set_option maxRecDepth 100000 in
set_option maxHeartbeats 2000000 in
theorem GV (os:Os) (a:os.Started) (H:Type) (enc:TypeId×Value→H):
  ReturnsInHanded {} Tryz.checked os 5 .any (fun w args=>(Rows.modelsLinesSpec.pre enc prog Tryz.f5 Rows.modelsLinesRow.domain false w args∧laidMetH prog Rows.modelsLinesRow.laid w)∧sizedMet enc prog Tryz.f5 (OpenSpec.ofChange Rows.modelsLinesSpec) false w args) (Rows.modelsLinesSpec.post enc prog Tryz.f5 false true false false):=by
 refine Na (C:=Tryz.checked) own a (by kernel_rfl) func5
  (ChangeSpec.witness_at (enc:=enc) (C:=Tryz.checked) (os:=os) (X:=fun w _=>laidMetH prog Rows.modelsLinesRow.laid w) false (IH os) #[.agg #[.slice none 0 0], .string ⟨#[]⟩] 8 rfl (by kernel_rfl) (by kernel_rfl) (by kernel_rfl) (by kernel_rfl) (by kernel_rfl) (Nf os _)) ?_
 intro W base args ds S n c E f I k
 have hG:HZ W:=KW I k
 clear I k
 have b:∀(j:Nat) t v,Tryz.f5.params[j]? =some t→args[j]? =some v→Value.okWide prog W .any base t v:=c
 have y:=E
 obtain ⟨p,q,i,hV,rfl,hfz,Z⟩:=E
 have J:DataW.TrodAll enc prog W 0 (fun _=>true) true Tryz.f5.params.toList args.toList ds p:=i
 have d:(DataW.weightsEach prog (Tryz.f5.params.toList++Rows.modelsLinesSpec.plain.varTypes prog) (ds++S)).all (·≤reachBytes)=true:=f
 rw [Tryz.params5] at J b d
 obtain ⟨K,vs0,d0,Q,p0,q0,r,rfl,rfl,D,R⟩:=trodAll_cons J
 obtain ⟨G,N,d1,Y,U,q1,rfl,rfl,rfl,l,M⟩:=trodAll_cons R
 obtain ⟨rfl,rfl,rfl⟩:=trodAll_nil M
 obtain rfl:args= #[K,G]:=by cases args;simp_all
 obtain ⟨rfl,rfl⟩:=trodVars_none hV
 have F:=D
 have o:∀x ∈ p0,x.block<W.heap.size:=by obtain ⟨m,z⟩:=F;exact DataW.trod_lt m _ _ _ z
 have T:=Qs (j:=0) (t:=24) d rfl rfl D
 have o0:=b 0 24 K rfl rfl
 have B:=l
 have A:∀x ∈ U,x.block<W.heap.size:=by obtain ⟨m,z⟩:=B;exact DataW.trod_lt m _ _ _ z
 have i1:=Qs (j:=1) (t:=9) d rfl rfl l
 have V:=b 1 9 G rfl rfl
 clear i c f d
 obtain ⟨cs,rfl,u⟩:=LX underlying24 o0 T
 obtain ⟨s,rfl⟩:=Pi V
 obtain ⟨v,rfl,ls,l,L,h3⟩:=OI u
 refine (Nb (Jo v ls s W hG l L h3)).mono fun e W' ⟨he,g⟩=> ?_
 subst he
 exact ⟨_,rfl,_,_,_,[],_,[],y,trodAll_mk1 (shut_bool R2 _),(trodAll_cons_mk (Below.trod Mu (by kernel_rfl) (AE (by kernel_rfl)) F g o) (trodAll_cons_mk (Below.trod Mu (by kernel_rfl) (AE (by kernel_rfl)) B g A) trodAll_mk0)),rfl,g.frame _,fun h=>by cases h⟩
theorem Rn {a b:Bool} (h:a=true) (k:b=true):(a && b)=true:=by rw [h,k];rfl
set_option maxRecDepth 100000 in
set_option maxHeartbeats 40000000 in
theorem GW:joinedFacts Tryz.pinned.checked.prog 5 Tryz.f5 Rows.modelsLinesSpec Rows.modelsLinesRow=true:=by
 unfold joinedFacts
 repeat' with_reducible refine Rn ?_ ?_
 all_goals as_aux_lemma=>kernel_rfl
theorem Hm:Rows.ModelsLinesSaid:=
 OpenClaim.holds_of_wide 5 Tryz.f5 rfl rfl rfl rfl rfl rfl rfl ⟨rfl,rfl,rfl,rfl,rfl⟩ rfl rfl rfl rfl rfl (by kernel_rfl) func5 GW
  (AE (by kernel_rfl)) (by unfold Func.isWrapper;first|(rw [if_pos (by decide+kernel)];kernel_rfl)|(rw [if_neg (by decide+kernel)];exact ⟨rfl,rfl⟩))
  (fun os a H enc _=>GV os a H enc)
theorem modelsLines_proved:Rows.ModelsLinesCardSaid:=
 Claim7.holds_tied_plain_at .later [] [.data, .data, .data, .data, .sentinel, .sentinel, .pinned] true (true, "339cb06303f4fb3caa7f7332b200a530f232afd8be97a6eeaafabf058d1c6c2d") true
  Hm (fun _ h=>by cases h) (by kernel_rfl) (fun _ h=>by cases h) modelsLines_row_tie rfl ⟨rfl,rfl⟩ (by kernel_rfl) rfl
  (fun f d c a=>by
   obtain rfl : f = 5 := Option.some.inj ((show Tryz.prog.funcNamed "drydock/drydocklaw11.ModelsLines" = some 5 by kernel_rfl).symm.trans c) |>.symm
   obtain rfl:d=Tryz.f5:=(Option.some.inj (Tryz.func5.symm.trans a)).symm
   refine ⟨by kernel_rfl,fun j t b=> ?_⟩
   rw [Tryz.params5] at b
   have g:t ∈ [24,9]:=mem_of_getElem? (by simpa using b)
   have e:([24,9]:List TypeId).all (fun t=>Tryz.prog.wantsStandIn t==false)=true:=by kernel_rfl
   exact eq_of_beq (List.all_eq_true.1 e t g))
  (by kernel_rfl)
#print axioms modelsLines_proved
end Go.Proofs.YtblbopcaflaldaaGreatDoor
