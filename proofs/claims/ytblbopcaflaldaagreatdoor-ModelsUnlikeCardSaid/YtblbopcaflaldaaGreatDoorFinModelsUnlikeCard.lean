/- The card on unlike models. -/
import Derived.Test.YtblbopcaflaldaaGreatDoorPk5

namespace Go.Proofs.YtblbopcaflaldaaGreatDoor
open Go Go.Dd Go.RowKit Go.ChangeShapes Go.WideShapes Go.ChangeAt List Go.Proofs.Tryz
set_option maxRecDepth 100000
-- dd: joined
-- dd: laidx
set_option maxRecDepth 100000 in
set_option maxHeartbeats 2000000 in
theorem HF (os:Os) (b:os.Started) (H:Type) (enc:TypeId×Value→H):
  ReturnsInHanded {} Tryz.checked os 8 .any (fun w args=>(Rows.modelsUnlikeSpec.pre enc prog Tryz.f8 Rows.modelsUnlikeRow.domain false w args∧laidMetH prog Rows.modelsUnlikeRow.laid w)∧sizedMet enc prog Tryz.f8 (OpenSpec.ofChange Rows.modelsUnlikeSpec) false w args) (Rows.modelsUnlikeSpec.post enc prog Tryz.f8 false true false false):=by
 refine Py (C:=Tryz.checked) own b (by kernel_rfl) func8
  (ChangeSpec.witness_at (enc:=enc) (C:=Tryz.checked) (os:=os) (X:=fun w _=>laidMetH prog Rows.modelsUnlikeRow.laid w) false (Kf os) #[.agg #[.slice none 0 0, .slice none 0 0], .agg #[.slice none 0 0, .slice none 0 0], .agg #[.int .u16 0, .int .u32 0]] 8 rfl (by kernel_rfl) (by kernel_rfl) (by kernel_rfl) (by kernel_rfl) (by kernel_rfl) (P0 os _)) ?_
 intro W base args ds Y n d N g J l
 have Z:Jv W:=MJ J l
 clear J l
 have a:∀(j:Nat) t v,Tryz.f8.params[j]? =some t→args[j]? =some v→Value.okWide prog W .any base t v:=d
 have z:=N
 obtain ⟨p,q,i,hV,rfl,hfz,hnd⟩:=N
 have G:DataW.TrodAll enc prog W 0 (fun _=>true) true Tryz.f8.params.toList args.toList ds p:=i
 have c:(DataW.weightsEach prog (Tryz.f8.params.toList++Rows.modelsUnlikeSpec.plain.varTypes prog) (ds++Y)).all (·≤reachBytes)=true:=g
 rw [Tryz.params8] at G a c
 obtain ⟨F,vs0,d0,U,p0,q0,s,rfl,rfl,M,V⟩:=trodAll_cons G
 obtain ⟨D,T,d1,ds1,p1,q1,rfl,rfl,rfl,R,r1⟩:=trodAll_cons V
 obtain ⟨K,vs2,d2,ds2,S,q2,rfl,rfl,rfl,I,r2⟩:=trodAll_cons r1
 obtain ⟨rfl,rfl,rfl⟩:=trodAll_nil r2
 obtain rfl:args= #[F,D,K]:=by cases args;simp_all
 obtain ⟨rfl,rfl⟩:=trodVars_none hV
 have Q:=M
 have o:∀x ∈ p0,x.block<W.heap.size:=by obtain ⟨m,k⟩:=Q;exact DataW.trod_lt m _ _ _ k
 have i0:=Ri (j:=0) (t:=27) c rfl rfl M
 have o0:=a 0 27 F rfl rfl
 have L:=R
 have r:∀x ∈ p1,x.block<W.heap.size:=by obtain ⟨m,k⟩:=L;exact DataW.trod_lt m _ _ _ k
 have i1:=Ri (j:=1) (t:=27) c rfl rfl R
 have o1:=a 1 27 D rfl rfl
 have E:=I
 have A:∀x ∈ S,x.block<W.heap.size:=by obtain ⟨m,k⟩:=E;exact DataW.trod_lt m _ _ _ k
 have i2:=Ri (j:=2) (t:=84) c rfl rfl I
 have o2:=a 2 84 K rfl rfl
 clear i d g c
 obtain ⟨v,u,ls,ws,rfl,f1,f2,f3,f4,f5,f6⟩:=Lm o0 i0
 obtain ⟨v',u',y,B,rfl,g1,g2,g3,g4,g5,g6⟩:=Lm o1 i1
 obtain ⟨q,x,rfl⟩:=RC o2 i2
 refine (Pz (JW v u v' u' ls y ws B q x W Z f1 f2 f3 f4 f5 f6 g1 g2 g3 g4 g5 g6)).mono fun e W' ⟨he,f⟩=> ?_
 subst he
 exact ⟨_,rfl,_,_,_,[],_,[],z,trodAll_mk1 (shut_bool RS _),(trodAll_cons_mk (Below.trod LD (by kernel_rfl) (AE (by kernel_rfl)) Q f o) (trodAll_cons_mk (Below.trod LD (by kernel_rfl) (AE (by kernel_rfl)) L f r) (trodAll_cons_mk (Below.trod LD (by kernel_rfl) (AE (by kernel_rfl)) E f A) trodAll_mk0))),rfl,f.frame _,fun h=>by cases h⟩
theorem Uo {a b:Bool} (h:a=true) (k:b=true):(a && b)=true:=by rw [h,k];rfl
set_option maxRecDepth 100000 in
set_option maxHeartbeats 40000000 in
theorem HG:joinedFacts Tryz.pinned.checked.prog 8 Tryz.f8 Rows.modelsUnlikeSpec Rows.modelsUnlikeRow=true:=by
 unfold joinedFacts
 repeat' with_reducible refine Uo ?_ ?_
 all_goals as_aux_lemma=>kernel_rfl
theorem HU:Rows.ModelsUnlikeSaid:=
 OpenClaim.holds_of_wide 8 Tryz.f8 rfl rfl rfl rfl rfl rfl rfl ⟨rfl,rfl,rfl,rfl,rfl⟩ rfl rfl rfl rfl rfl (by kernel_rfl) func8 HG
  (AE (by kernel_rfl)) (by unfold Func.isWrapper;first|(rw [if_pos (by decide+kernel)];kernel_rfl)|(rw [if_neg (by decide+kernel)];exact ⟨rfl,rfl⟩))
  (fun os a H enc _=>HF os a H enc)
theorem modelsUnlike_proved:Rows.ModelsUnlikeCardSaid:=
 Claim7.holds_tied_plain_at .later [] [.data, .data, .data, .data, .sentinel, .sentinel, .pinned] true (true, "339cb06303f4fb3caa7f7332b200a530f232afd8be97a6eeaafabf058d1c6c2d") true
  HU (fun _ h=>by cases h) (by kernel_rfl) (fun _ h=>by cases h) modelsUnlike_row_tie rfl ⟨rfl,rfl⟩ (by kernel_rfl) rfl
  (fun f d c a=>by
   obtain rfl : f = 8 := Option.some.inj ((show Tryz.prog.funcNamed "drydock/drydocklaw11.ModelsUnlike" = some 8 by kernel_rfl).symm.trans c) |>.symm
   obtain rfl:d=Tryz.f8:=(Option.some.inj (Tryz.func8.symm.trans a)).symm
   refine ⟨by kernel_rfl,fun j t b=> ?_⟩
   rw [Tryz.params8] at b
   have g:t ∈ [27,27,84]:=mem_of_getElem? (by simpa using b)
   have e:([27,27,84]:List TypeId).all (fun t=>Tryz.prog.wantsStandIn t==false)=true:=by kernel_rfl
   exact eq_of_beq (List.all_eq_true.1 e t g))
  (by kernel_rfl)
#print axioms modelsUnlike_proved
end Go.Proofs.YtblbopcaflaldaaGreatDoor
