/- The card on bytes that turn. -/
import Derived.Test.YtblbopcaflaldaaGreatDoorPk5

namespace Go.Proofs.YtblbopcaflaldaaGreatDoor
open Go Go.Dd Go.RowKit Go.ChangeShapes Go.WideShapes Go.ChangeAt List Go.Proofs.Tryz
set_option maxRecDepth 100000
-- dd: joined
-- dd: laidx
set_option maxRecDepth 100000 in
set_option maxHeartbeats 2000000 in
theorem Hu (os:Os) (b:os.Started) (H:Type) (enc:TypeId×Value→H):
  ReturnsInHanded {} Tryz.checked os 7 .any (fun w args=>(Rows.modelsTurnedSpec.pre enc prog Tryz.f7 Rows.modelsTurnedRow.domain false w args∧laidMetH prog Rows.modelsTurnedRow.laid w)∧sizedMet enc prog Tryz.f7 (OpenSpec.ofChange Rows.modelsTurnedSpec) false w args) (Rows.modelsTurnedSpec.post enc prog Tryz.f7 false true false false):=by
 refine OE (C:=Tryz.checked) own b (by kernel_rfl) func7
  (ChangeSpec.witness_at (enc:=enc) (C:=Tryz.checked) (os:=os) (X:=fun w _=>laidMetH prog Rows.modelsTurnedRow.laid w) false (JC os) #[.agg #[.slice none 0 0, .slice none 0 0], .slice none 0 0, .agg #[.int .u16 0, .int .u32 0]] 8 rfl (by kernel_rfl) (by kernel_rfl) (by kernel_rfl) (by kernel_rfl) (by kernel_rfl) (OG os _)) ?_
 intro W base args ds gs o d G g K n
 have hG:IU W:=Ml K n
 clear K n
 have a:∀(j:Nat) t v,Tryz.f7.params[j]? =some t→args[j]? =some v→Value.okWide prog W .any base t v:=d
 have A:=G
 obtain ⟨p,q,i,hV,rfl,hfz,hnd⟩:=G
 have L:DataW.TrodAll enc prog W 0 (fun _=>true) true Tryz.f7.params.toList args.toList ds p:=i
 have c:(DataW.weightsEach prog (Tryz.f7.params.toList++Rows.modelsTurnedSpec.plain.varTypes prog) (ds++gs)).all (·≤reachBytes)=true:=g
 rw [Tryz.params7] at L a c
 obtain ⟨Q,vs0,d0,V,p0,q0,z,rfl,rfl,F,r0⟩:=trodAll_cons L
 obtain ⟨s,U,d1,ds1,p1,q1,rfl,rfl,rfl,J,S⟩:=trodAll_cons r0
 obtain ⟨M,Z,d2,ds2,R,q2,rfl,rfl,rfl,E,r2⟩:=trodAll_cons S
 obtain ⟨rfl,rfl,rfl⟩:=trodAll_nil r2
 obtain rfl:args= #[Q,s,M]:=by cases args;simp_all
 obtain ⟨rfl,rfl⟩:=trodVars_none hV
 have I:=F
 have r:∀x ∈ p0,x.block<W.heap.size:=by obtain ⟨m,k⟩:=I;exact DataW.trod_lt m _ _ _ k
 have i0:=Q5 (j:=0) (t:=27) c rfl rfl F
 have o0:=a 0 27 Q rfl rfl
 have D:=J
 have B:∀x ∈ p1,x.block<W.heap.size:=by obtain ⟨m,k⟩:=D;exact DataW.trod_lt m _ _ _ k
 have i1:=Q5 (j:=1) (t:=28) c rfl rfl J
 have o1:=a 1 28 s rfl rfl
 have N:=E
 have y:∀x ∈ R,x.block<W.heap.size:=by obtain ⟨m,k⟩:=N;exact DataW.trod_lt m _ _ _ k
 have T:=Q5 (j:=2) (t:=84) c rfl rfl E
 have o2:=a 2 84 M rfl rfl
 clear i d g c
 obtain ⟨v,u,ls,ws,rfl,f1,f2,f3,f4,f5,f6⟩:=Pm o0 i0
 obtain ⟨l,Y, -⟩:=Si TN (by kernel_rfl) (fun cs h=>In.num (BitVec.ofInt 8) b8 (fun _ h=>Sk h) GP h) o1 i1
 obtain ⟨q,x,rfl⟩:=QY o2 T
 refine (OF (J5 v u s ls ws l q x W hG f1 f2 f3 f4 f5 f6 Y)).mono fun e W' ⟨he,f⟩=> ?_
 subst he
 exact ⟨_,rfl,_,_,_,[],_,[],A,trodAll_mk1 (shut_bool TM _),(trodAll_cons_mk (Below.trod Lk (by kernel_rfl) (AE (by kernel_rfl)) I f r) (trodAll_cons_mk (Below.trod Lk (by kernel_rfl) (AE (by kernel_rfl)) D f B) (trodAll_cons_mk (Below.trod Lk (by kernel_rfl) (AE (by kernel_rfl)) N f y) trodAll_mk0))),rfl,f.frame _,fun h=>by cases h⟩
theorem T5 {a b:Bool} (h:a=true) (k:b=true):(a && b)=true:=by rw [h,k];rfl
set_option maxRecDepth 100000 in
set_option maxHeartbeats 40000000 in
theorem Hv:joinedFacts Tryz.pinned.checked.prog 7 Tryz.f7 Rows.modelsTurnedSpec Rows.modelsTurnedRow=true:=by
 unfold joinedFacts
 repeat' with_reducible refine T5 ?_ ?_
 all_goals as_aux_lemma=>kernel_rfl
theorem H8:Rows.ModelsTurnedSaid:=
 OpenClaim.holds_of_wide 7 Tryz.f7 rfl rfl rfl rfl rfl rfl rfl ⟨rfl,rfl,rfl,rfl,rfl⟩ rfl rfl rfl rfl rfl (by kernel_rfl) func7 Hv
  (AE (by kernel_rfl)) (by unfold Func.isWrapper;first|(rw [if_pos (by decide+kernel)];kernel_rfl)|(rw [if_neg (by decide+kernel)];exact ⟨rfl,rfl⟩))
  (fun os a H enc _=>Hu os a H enc)
theorem modelsTurned_proved:Rows.ModelsTurnedCardSaid:=
 Claim7.holds_tied_plain_at .later [] [.data, .data, .data, .data, .sentinel, .sentinel, .pinned] true (true, "339cb06303f4fb3caa7f7332b200a530f232afd8be97a6eeaafabf058d1c6c2d") true
  H8 (fun _ h=>by cases h) (by kernel_rfl) (fun _ h=>by cases h) modelsTurned_row_tie rfl ⟨rfl,rfl⟩ (by kernel_rfl) rfl
  (fun f d c a=>by
   obtain rfl : f = 7 := Option.some.inj ((show Tryz.prog.funcNamed "drydock/drydocklaw11.ModelsTurned" = some 7 by kernel_rfl).symm.trans c) |>.symm
   obtain rfl:d=Tryz.f7:=(Option.some.inj (Tryz.func7.symm.trans a)).symm
   refine ⟨by kernel_rfl,fun j t b=> ?_⟩
   rw [Tryz.params7] at b
   have g:t ∈ [27,28,84]:=mem_of_getElem? (by simpa using b)
   have e:([27,28,84]:List TypeId).all (fun t=>Tryz.prog.wantsStandIn t==false)=true:=by kernel_rfl
   exact eq_of_beq (List.all_eq_true.1 e t g))
  (by kernel_rfl)
#print axioms modelsTurned_proved
end Go.Proofs.YtblbopcaflaldaaGreatDoor
