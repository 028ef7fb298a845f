/- The card on Text and Parse. -/
import Derived.Test.YtblbopcaflaldaaGreatDoorPk6

namespace Go.Proofs.YtblbopcaflaldaaGreatDoor
open Go Go.Dd Go.RowKit Go.ChangeShapes Go.WideShapes Go.ChangeAt List Go.Proofs.Tryz
set_option maxRecDepth 100000
-- dd: joined
-- dd: laidx
theorem R3 {w:World} {base:Nat} {v:Value} (h:Value.okWide prog w .any base 9 v):∃s:List UInt8,v=st s:=by
 obtain ⟨b,rfl⟩:=okWide_string FC h
 exact ⟨_,MI b⟩
set_option maxRecDepth 100000 in
set_option maxHeartbeats 2000000 in
theorem Iq (os:Os) (a:os.Started) (H:Type) (enc:TypeId×Value→H):
  ReturnsInHanded {} Tryz.checked os 4 .any (fun w args=>(Rows.modelsTextSpec.pre enc prog Tryz.f4 Rows.modelsTextRow.domain false w args∧laidMetH prog Rows.modelsTextRow.laid w)∧sizedMet enc prog Tryz.f4 (OpenSpec.ofChange Rows.modelsTextSpec) false w args) (Rows.modelsTextSpec.post enc prog Tryz.f4 false true false false):=by
 refine Pl (C:=Tryz.checked) own a (by kernel_rfl) func4
  (ChangeSpec.witness_at (enc:=enc) (C:=Tryz.checked) (os:=os) (X:=fun w _=>laidMetH prog Rows.modelsTextRow.laid w) false (Ka os) #[.agg #[.slice none 0 0], .string ⟨#[]⟩] 8 rfl (by kernel_rfl) (by kernel_rfl) (by kernel_rfl) (by kernel_rfl) (by kernel_rfl) (Pn os _)) ?_
 intro W base args ds S n c E f I k
 have hG:Jr W:=M5 I k
 clear I k
 have b:∀(j:Nat) t v,Tryz.f4.params[j]? =some t→args[j]? =some v→Value.okWide prog W .any base t v:=c
 have y:=E
 obtain ⟨p,q,i,hV,rfl,hfz,Z⟩:=E
 have J:DataW.TrodAll enc prog W 0 (fun _=>true) true Tryz.f4.params.toList args.toList ds p:=i
 have d:(DataW.weightsEach prog (Tryz.f4.params.toList++Rows.modelsTextSpec.plain.varTypes prog) (ds++S)).all (·≤reachBytes)=true:=f
 rw [Tryz.params4] at J b d
 obtain ⟨K,vs0,d0,Q,p0,q0,r,rfl,rfl,D,R⟩:=trodAll_cons J
 obtain ⟨G,N,d1,Y,U,q1,rfl,rfl,rfl,l,M⟩:=trodAll_cons R
 obtain ⟨rfl,rfl,rfl⟩:=trodAll_nil M
 obtain rfl:args= #[K,G]:=by cases args;simp_all
 obtain ⟨rfl,rfl⟩:=trodVars_none hV
 have F:=D
 have o:∀x ∈ p0,x.block<W.heap.size:=by obtain ⟨m,z⟩:=F;exact DataW.trod_lt m _ _ _ z
 have T:=SR (j:=0) (t:=24) d rfl rfl D
 have o0:=b 0 24 K rfl rfl
 have B:=l
 have A:∀x ∈ U,x.block<W.heap.size:=by obtain ⟨m,z⟩:=B;exact DataW.trod_lt m _ _ _ z
 have i1:=SR (j:=1) (t:=9) d rfl rfl l
 have V:=b 1 9 G rfl rfl
 clear i c f d
 obtain ⟨cs,rfl,u⟩:=Oh underlying24 o0 T
 obtain ⟨s,rfl⟩:=R3 V
 obtain ⟨v,rfl,ls,l,L,h3⟩:=Re u
 refine (Pm (Lo v ls s W hG l L h3)).mono fun e W' ⟨he,g⟩=> ?_
 subst he
 exact ⟨_,rfl,_,_,_,[],_,[],y,trodAll_mk1 (shut_bool UY _),(trodAll_cons_mk (Below.trod O8 (by kernel_rfl) (AC (by kernel_rfl)) F g o) (trodAll_cons_mk (Below.trod O8 (by kernel_rfl) (AC (by kernel_rfl)) B g A) trodAll_mk0)),rfl,g.frame _,fun h=>by cases h⟩
theorem Uf {a b:Bool} (h:a=true) (k:b=true):(a && b)=true:=by rw [h,k];rfl
set_option maxRecDepth 100000 in
set_option maxHeartbeats 40000000 in
theorem Ir:joinedFacts Tryz.pinned.checked.prog 4 Tryz.f4 Rows.modelsTextSpec Rows.modelsTextRow=true:=by
 unfold joinedFacts
 repeat' with_reducible refine Uf ?_ ?_
 all_goals as_aux_lemma=>kernel_rfl
theorem IQ:Rows.ModelsTextSaid:=
 OpenClaim.holds_of_wide 4 Tryz.f4 rfl rfl rfl rfl rfl rfl rfl ⟨rfl,rfl,rfl,rfl,rfl⟩ rfl rfl rfl rfl rfl (by kernel_rfl) func4 Ir
  (AC (by kernel_rfl)) (by unfold Func.isWrapper;first|(rw [if_pos (by decide+kernel)];kernel_rfl)|(rw [if_neg (by decide+kernel)];exact ⟨rfl,rfl⟩))
  (fun os a H enc _=>Iq os a H enc)
theorem modelsText_proved:Rows.ModelsTextCardSaid:=
 Claim7.holds_tied_plain_at .later [] [.data, .data, .data, .data, .sentinel, .sentinel, .pinned] true (true, "339cb06303f4fb3caa7f7332b200a530f232afd8be97a6eeaafabf058d1c6c2d") true
  IQ (fun _ h=>by cases h) (by kernel_rfl) (fun _ h=>by cases h) modelsText_row_tie rfl ⟨rfl,rfl⟩ (by kernel_rfl) rfl
  (fun f d c a=>by
   obtain rfl : f = 4 := Option.some.inj ((show Tryz.prog.funcNamed "drydock/drydocklaw11.ModelsText" = some 4 by kernel_rfl).symm.trans c) |>.symm
   obtain rfl:d=Tryz.f4:=(Option.some.inj (Tryz.func4.symm.trans a)).symm
   refine ⟨by kernel_rfl,fun j t b=> ?_⟩
   rw [Tryz.params4] at b
   have g:t ∈ [24,9]:=mem_of_getElem? (by simpa using b)
   have e:([24,9]:List TypeId).all (fun t=>Tryz.prog.wantsStandIn t==false)=true:=by kernel_rfl
   exact eq_of_beq (List.all_eq_true.1 e t g))
  (by kernel_rfl)
#print axioms modelsText_proved
end Go.Proofs.YtblbopcaflaldaaGreatDoor
