/- Texts of this proof, one behind the other: TurnOf, TurnArg, TxtLaid, TxtLift. -/
import Derived.Test.YtblbopcaflaldaaGreatDoorPk4
import Derived.Test.YtblbopcaflaldaaGreatDoorRows
import Derived.Test.YtblbopcaflaldaaGreatDoorPk2
import Derived.Stop.LaidErr
import Derived.Shelf.Vars
import Derived.LaidLaws
import Derived.LaidHandle
import Derived.HandedShaped
import Derived.Stop.Joined

namespace Go.Proofs.YtblbopcaflaldaaGreatDoor
open Go Go.Dd Go.RowKit Go.ChangeShapes Go.WideShapes Go.ChangeAt List Go.Proofs.Tryz
set_option maxRecDepth 100000
set_option maxHeartbeats 4000000 in
theorem J5 (v u vb:Value) (ls:List N5) (ws:List T4) (l:Bs) (q:BitVec 16) (x:BitVec 32) (W:World) (C:IU W) (h:GN W v ls) (hl:ls.length≤1125899906842624) (hf:∀t ∈ ls,t.few) (o:GG W u ws) (lw:ws.length≤1125899906842624) (fw:∀t ∈ ws,Nm t) (B:AY b8 W vb l):
  AO prog 7 [.agg [v,u].toArray,vb, .agg [u16 q,u32 x].toArray] W (fun r w' =>r= .bool true∧Below W.heap.size W w'):=by
 have m:=Below.refl W.heap.size W
 obtain ⟨E,hE⟩:∃E,E=Kh ls ws:=⟨_,rfl⟩
 obtain ⟨R,hR⟩:∃R,R=I4 ls ws:=⟨_,rfl⟩
 obtain ⟨G,F⟩:∃G,G=EL l:=⟨_,rfl⟩
 obtain ⟨X,hX⟩:∃X,X=(HY l).getD ([],[]):=⟨_,rfl⟩
 have R1:=Qn ls ws
 rw [← hR] at R1
 refine A6 (n:=135) func7 O<|Ai<|C2 (cs:=[v,u]) O O O ?_
 rintro A_m w eA_m c a -
 have m:=m.bs a
 have h:=h.bs a
 have o:=o.bs a
 have C:=C.bs a
 have B:=B.bs a
 refine C2 (cs:=[u16 q,u32 x]) O O O ?_
 rintro A_z w eA_z f a -
 have m:=m.bs a
 have h:=h.bs a
 have o:=o.bs a
 have C:=C.bs a
 have B:=B.bs a
 have c:=c.bs a
 refine Ab O<|Ay<|Bc underlying84 O (LD _)<|Aa (Ap (QZ _) O ‹_› rfl) O ?_
 refine Ab O<|A9<|Af O O (Lv _ C) ?_
 rintro _ w ⟨rfl,a⟩
 have m:=m.bs a
 have h:=h.bs a
 have o:=o.bs a
 have C:=C.bs a
 have B:=B.bs a
 have c:=c.bs a
 have f:=f.bs a
 refine Aa (Cy O) O<|Ad O<|Cl 23 (v' := .bool false) O (cngA Value.bool (rfl))<|Ah (dj:=23) O O<|Aa (Cc (k:=2) (H3 _) (Hx _) O O c) O<|Ah (dj:=23) O O<|Af O O (LX v u ls ws _ h hl hf o lw fw) ?_
 rintro _ w ⟨rfl,a⟩
 have m:=m.bs a
 have h:=h.bs a
 have o:=o.bs a
 have C:=C.bs a
 have B:=B.bs a
 have c:=c.bs a
 have f:=f.bs a
 refine Ah (dj:=23) O O<|Aa (C1 O O) O<|Ci O<|Ad O ?_
 refine B7 28 O ?_ ?_
 ·intro gm
  refine Ae (dj:=28) O O O O<|Ae (dj:=28) O O O O<|Ae (dj:=28) O O O O<|Bn O<|Ak<|Bx O<|Ai<|Af O O (Lv _ C) ?_
  rintro _ w ⟨rfl,a⟩
  have m:=m.bs a
  have h:=h.bs a
  have o:=o.bs a
  have C:=C.bs a
  have B:=B.bs a
  have c:=c.bs a
  have f:=f.bs a
  exact Ab rfl<|Bw<|Ao rfl rfl<|⟨rfl,m⟩
 intro gm
 refine Ah (dj:=28) O O<|Ad O<|Ah (dj:=28) O O<|Aa (Au AJ O ‹_›) O ?_
 refine Ah (dj:=28) O O<|Aa (C1 O O) O<|Ci O<|Ak<|Al O ?_ ?_
 ·intro _
  refine Ai<|Af O O (Lv _ C) ?_
  rintro _ w ⟨rfl,a⟩
  have m:=m.bs a
  have h:=h.bs a
  have o:=o.bs a
  have C:=C.bs a
  have B:=B.bs a
  have c:=c.bs a
  have f:=f.bs a
  exact Ab rfl<|Bw<|Ao rfl rfl<|⟨rfl,m⟩
 intro gb
 clear gm gb hf fw C
 refine B8<|Ad O<|Af O O (Qp vb l G X _ B F.symm hX.symm) ?_
 rintro _ w ⟨a,pv1,pu1,H,I,rfl,eP,hP⟩
 have gP:=hP.gn
 have Y:=hP.tens
 have oP:[pv1,pu1].all (·.oneCell')=true:=by rw [all_cons,all_cons,gP.sl.one',Y.1.one'];rfl
 clear hP
 have m:=m.bs a
 have h:=h.bs a
 have o:=o.bs a
 have B:=B.bs a
 have c:=c.bs a
 have f:=f.bs a
 refine Ad O<|Aa (Ar (i:=0) O O) O<|Aa (Ar (i:=1) O O) O<|Cx (cs:=[pv1,pu1]) K9 O O O O (fun _=>rfl) (oP) ?_
 rintro A_x w eA_x Q a -
 have m:=m.bs a
 have h:=h.bs a
 have o:=o.bs a
 have B:=B.bs a
 have c:=c.bs a
 have f:=f.bs a
 have gP:=gP.bs a
 have Y:=Y.bs a
 refine Ab O<|Ay<|Aa (Cc (k:=2) (H3 _) (Hx _) O O Q) O<|Af O O (Qm pv1 pu1 H I (Kh H I) (I4 H I) _ gP Y O O) ?_
 rintro _ w6 ⟨a,y,rfl,ky⟩
 have m:=m.bs a
 have h:=h.bs a
 have o:=o.bs a
 have B:=B.bs a
 have c:=c.bs a
 have f:=f.bs a
 have gP:=gP.bs a
 have Y:=Y.bs a
 have Q:=Q.bs a
 refine Ad O<|Aa (Ar (i:=0) O O) O<|Aa (Ar (i:=1) O O) O<|Ab O<|Ab O<|Ak<|Aq<|Aq ?_
 refine D1 (St:=Unit) (fun z=>[(3, .pointer (some ⟨A_m,0,none⟩)),(5, .pointer (some ⟨A_z,0,none⟩)),(7,u32 x),(71, .bool false)]) (fun z w' =>Below w6.heap.size w6 w') ?_ ?_
 ·refine Az<|Ad O<|Aa (Cp O O) O<|Ad O ?_
  refine B7 46 O ?_ ?_
  ·intro g
   have g0:EL l=0:=by rw [← F];exact AE g
   obtain ⟨p,hp⟩:=Q9 g0
   have hp2:HY l=some (H.map pn,I.map pv):=by rw [eP,hX,hp];rfl
   obtain ⟨m1,m2⟩:=RB hp2
   have e1:Kh H I=0:=by unfold Kh;rw [if_pos m2]
   have e2:I4 H I=l:=by unfold I4;rw [if_pos m2,m1]
   have gz:G=0:=AE g
   rw [e2] at ky
   rw [e1]
   refine Ah (dj:=46) O O<|Ad O<|Ah (dj:=46) O O<|Aa (Cv O O) O<|Ah (dj:=46) O O<|Ad O<|Cl 49 (v' := .bool false) O (cngA Value.bool (rfl))<|Ah (dj:=49) O O<|Ad O<|Ah (dj:=49) O O<|Ad O<|Ah (dj:=49) O O<|Af O O (LG y vb l l _ ky.slT B) ?_
   rintro _ w7 ⟨rfl,a⟩
   refine Ah (dj:=49) O O<|Aa (Cy O) O<|Ah (dj:=46) O O<|Ci O<|Bn O<|Ad O<|Cl 56 (v' := .bool false) O (cngA Value.bool (by simp))<|Ah (dj:=56) O O<|Ad O<|Ah (dj:=56) O O<|Aa (Cv O O) O<|Ah (dj:=56) O O<|Ad O<|Cl 59 (v' := .bool false) O (cngA Value.bool (by rw [gz];rfl))<|Ae (dj:=59) O O O O<|Ae (dj:=59) O O O O<|Ah (dj:=56) O O<|Ci O<|Ah (dj:=56) O O<|Ad O<|Ae (dj:=63) O O O O<|Ae (dj:=63) O O O O<|Ah (dj:=56) O O<|Ci O<|Ah (dj:=56) O O<|Ad O<|Ae (dj:=67) O O O O<|Ae (dj:=67) O O O O<|Ah (dj:=56) O O<|Ci O<|Ci O<|A7 ?_
   exact Bo (()) ⟨rfl,rfl,rfl,rfl,trivial⟩ (a)
  intro g
  have g:¬G=0:=AD g
  refine Ae (dj:=46) O O O O<|Ae (dj:=46) O O O O<|Ae (dj:=46) O O O O<|Fg (dj:=49) O O O<|Fg (dj:=49) O O O<|Fg (dj:=49) O O O<|Fg (dj:=49) O O O<|Ae (dj:=46) O O O O<|Ci O<|Ad O<|Ah (dj:=56) O O<|Ad O<|Ah (dj:=56) O O<|Aa (Cv O O) O<|Ah (dj:=56) O O<|Ad O<|Cl 59 (v' := .bool true) O (cngA Value.bool (by simp [g]))<|Ah (dj:=59) O O<|Ad O<|Ah (dj:=59) O O<|Aa (Cv O O) O<|Ah (dj:=56) O O<|Bn O<|Ah (dj:=56) O O<|Ad O ?_
  refine B7 63 O ?_ ?_
  ·intro g5
   refine Ah (dj:=63) O O<|Ad O<|Ah (dj:=63) O O<|Aa (Cv O O) O<|Ah (dj:=56) O O<|Bn O<|Ah (dj:=56) O O<|Ad O ?_
   refine B7 67 O ?_ ?_
   ·intro K
    have g5:¬G=5:=by simpa using g5
    have K:¬G=11:=by simpa using K
    have g4:G=4:=by
     rcases Pa l with e|e|e|e
     ·exact absurd (F.trans e) g
     ·exact F.trans e
     ·exact absurd (F.trans e) g5
     ·exact absurd (F.trans e) K
    refine Ah (dj:=67) O O<|Ad O<|Ah (dj:=67) O O<|Aa (Cv O O) O<|Ah (dj:=56) O O<|Bn O<|Ci O<|A7 ?_
    exact Bo (()) ⟨rfl,rfl,rfl,by rw [g4];rfl,trivial⟩ (Below.refl _ _)
   intro K
   exact Ae (dj:=67) rfl rfl rfl rfl<|Ae (dj:=67) rfl rfl rfl rfl<|Ah (dj:=56) rfl rfl<|Ci rfl<|Ci rfl<|A7<|Bo (()) ⟨rfl,rfl,rfl,rfl,trivial⟩ (Below.refl _ _)
  intro g5
  exact Ae (dj:=63) rfl rfl rfl rfl<|Ae (dj:=63) rfl rfl rfl rfl<|Ah (dj:=56) rfl rfl<|Ci rfl<|Ah (dj:=56) rfl rfl<|Ad rfl<|Ae (dj:=67) rfl rfl rfl rfl<|Ae (dj:=67) rfl rfl rfl rfl<|Ah (dj:=56) rfl rfl<|Ci rfl<|Ci rfl<|A7<|Bo (()) ⟨rfl,rfl,rfl,rfl,trivial⟩ (Below.refl _ _)
 rintro - w7 hD
 have h:=h.bs hD
 have o:=o.bs hD
 have c:=c.bs hD
 have f:=f.bs hD
 replace m:=bt m hD
 clear hD ky gP Y B Q
 refine Cm O false (rfl)<|B8<|Aa (Cc (k:=2) (H3 _) (Hx _) O O c) O<|Af O O (Qm v u ls ws E R _ h o hE.symm hR.symm) ?_
 rintro _ w8 ⟨a,d,rfl,kd⟩
 have m:=m.bs a
 have h:=h.bs a
 have o:=o.bs a
 have c:=c.bs a
 have f:=f.bs a
 refine Ad O<|Aa (Ar (i:=0) O O) O<|Aa (Ar (i:=1) O O) O<|Ab O<|Ab O<|A9<|Ad O<|Aa (Cv O O) O<|Ak<|Al O ?_ ?_
 ·intro _
  exact Ai<|Ab rfl<|Bw<|Ao rfl rfl<|⟨rfl,m⟩
 intro g
 have g:E=0:=by simpa using g
 have T:ES ls ws=true:=by
  cases e:ES ls ws with
  |true=>rfl
  |false=>rw [hE] at g;unfold Kh at g;rw [e] at g;cases g
 have eR:R=ER ls ws:=by rw [hR];unfold I4;rw [if_pos T]
 have rl:R.length=(DD ls ws).length+4:=by rw [eR,HP]
 have b1:1≤(DD ls ws).length:=by unfold DD;rw [length_cons];omega
 have nd:=kd.slT.shp
 obtain ⟨k0,hk0⟩:∃k,k=q.toNat % (R.length - 3):=⟨_,rfl⟩
 have hk4:k0+4≤R.length:=by have:q.toNat % (R.length - 3)<R.length - 3:=Nat.mod_lt _ (by omega);omega
 clear h o c
 refine B8<|Bc underlying84 O (TR _)<|Aa (Ap (Uu _) O ‹_› rfl) O ?_
 refine Aa (G0 TJ Hr O) O<|Ad O<|Aa (Ed AJ O nd) O<|Aa (Dr O O (by omega)) O<|Aa (Ex.remI O O (by omega) (by omega)) O<|Ab O<|Ak<|Aq<|Aq<|E1 14 (v' := .int .i64 (k0:Int)) O (cngA (Value.int .i64) (by rw [hk0,← (by omega:((R.length - 3:Nat):Int)=(R.length:Int) - 3)];rfl))<|Az<|Ad O<|Ad O<|Aa (Ed AJ O nd) O<|Aa (Dr O O (by omega)) O<|Aa (C1 O O) O<|Ak ?_
 refine D1 (St:=Nat) (fun k=>[(5, .pointer (some ⟨A_z,0,none⟩)),(7,u32 x),(12,d),(14, .int .i64 (k:Int))]) (fun k w' =>w' =w8∧(k+8≤R.length∨k+4=R.length)) ?_ ?_
 ·refine Al O ?_ ?_
  ·intro g1
   refine Az<|Ad O<|Aa (Ed AJ O nd) O<|Aa (Dr O O (by omega)) O<|Ab O<|A7 ?_
   exact Bo ((R.length - 4)) ⟨rfl,rfl,rfl,cngA some (cngA (Value.int .i64) (show (R.length:Int) - 4=((R.length - 4:Nat):Int) by omega)),trivial⟩ (⟨rfl, .inr (by omega)⟩)
  intro g1
  have g1:=AD g1
  exact Cj<|Bo (k0) ⟨rfl,rfl,rfl,rfl,trivial⟩ (⟨rfl, .inl (by omega)⟩)
 rintro k U ⟨ew,hk⟩
 subst ew
 clear f
 refine Ai<|Ad O<|An (C5 (k:=0) (xs:=[]) (base:=U.heap.size) AJ CO O (by decide) O O (World.ownsRow_nil _ _ _ _) kd.slT (BB (fun _=>rfl) _) (by omega) (by omega) (AT _)) O ?_
 rintro y2 w2 ⟨ho2,hB2, -⟩
 rw [nil_append,Nat.zero_add] at ho2
 refine Ab O<|A9<|Ab O<|Ak<|As ?_
 refine B1 (S:=Nat) (fun i=>[(7,u32 x),(14, .int .i64 (k:Int)),(15,y2),(16, .int .i64 (i:Int))]) (fun i w' =>i≤4∧w'.ownsRow U.heap.size 5 1 y2 R.length ((Kf R x k i).map b8)∧Below U.heap.size U w') (fun i=>4 - i) (0) ⟨rfl,rfl,rfl,rfl,trivial⟩ ?_ ?_
 ·exact ⟨by simp,by simpa [Kf] using ho2,hB2⟩
 clear ho2 hB2
 rintro i w3 ⟨hi,N,M⟩
 have hs3:=M.size
 have hpl:=MR R x k i
 refine Aq<|Ai<|Ad O<|B6 O<|Ak<|Al O ?_ ?_
 ·intro h
  have J:i<4:=by simp at h;omega
  refine B4<|Aq<|As ?_
  refine Cw.any mixed (fun w4 hd _=> ?_)
  have ho4:=AF N hd
  have Z:=bt M hd
  have hs4:=Z.size
  have hsh:M6 y2 R.length:=(AH N).shp
  have hsl:AY b8 w4 y2 (Kf R x k i):=by unfold AY;rw [hpl];exact AH ho4
  refine Aw.take (i:=0) (Bb (Am (Am (Bb (Am Bj))))) O (by kernel_rfl) (by kernel_rfl) (by kernel_rfl) (fun _=>Bq O) O<|Aw.take (i:=1) (Bb (Am (Am (Bb (Am Bj))))) O (by kernel_rfl) (by kernel_rfl) (by kernel_rfl) (fun _=>Bq O) O<|Aw.take (i:=2) (Bb (Am (Am (Bb (Am Bj))))) O (by kernel_rfl) (by kernel_rfl) (by kernel_rfl) (fun _=>Bq O) O<|Aw.take (i:=3) (Bb (Am (Am (Bb (Am Bj))))) O (by kernel_rfl) (by kernel_rfl) (by kernel_rfl) (fun _=>D0 O O (by omega)) O<|Aw.take (i:=4) (Bb (Am (Am (Bb (Am Bj))))) O (by kernel_rfl) (by kernel_rfl) (by kernel_rfl) (fun _=>Bq O) O<|Aw.take (i:=5) (Bb (Am (Am (Bb (Am Bj))))) O (by kernel_rfl) (by kernel_rfl) (by kernel_rfl) (fun _=>Bq O) O<|Aw.take (i:=6) (Bb (Am (Am (Bb (Am Bj))))) O (by kernel_rfl) (by kernel_rfl) (by kernel_rfl) (fun _=>Bq O) O<|Aw.take (i:=7) (Bb (Am (Am (Bb (Am Bj))))) O (by kernel_rfl) (by kernel_rfl) (by kernel_rfl) (fun _=>D0 O O (by omega)) O<|Aw.take (i:=8) (Bb (Am (Am (Bb (Am Bj))))) O (by kernel_rfl) (by kernel_rfl) (by kernel_rfl) (fun _=>Ee AJ O O hsh (k+i) (by omega) (by omega)) O ?_
  refine Aw.take (i:=10) (Bb (Am (Am (Bb (Am Bj))))) O (by kernel_rfl) (by kernel_rfl) (by kernel_rfl) (fun _=>Bq O) O<|Aw.take (i:=12) (Bb (Am (Am (Bb (Am Bj))))) O (by kernel_rfl) (by kernel_rfl) (by kernel_rfl) (fun _=>Bq O) O ?_
  refine G9 (i:=9) (j:=11) (by kernel_rfl) O O ?_ ?_
  ·refine Aa (Bf (IB _) O ‹_› (by omega)) O ?_
   refine Aw.back<|Aw.only (i:=11) (by kernel_rfl) O<|Af O O (Lj x w4) ?_
   rintro v5 w5 ⟨D,L⟩
   have s:=bt Z D
   have h5:AY b8 w5 v5 (Crc.four x):=AH L
   have hl5:(Crc.four x).length=4:=rfl
   have A:=AF ho4 D
   refine Aw.back<|Aw.only (i:=13) (by kernel_rfl) O<|Aa (Ba AJ O O ‹_› _ O (by omega)) O ?_
   refine Aw.back<|Aw.only (i:=14) (by kernel_rfl) O<|Aa (Bf (IB _) O ‹_› (by omega)) O ?_
   refine Aw.back<|Aw.take (i:=15) (Bb (Am (Am (Bb (Am Bj))))) O (by kernel_rfl) (by kernel_rfl) (by kernel_rfl) (fun _=>Gl O O) O<|Aw.take (i:=16) (Bb (Am (Am (Bb (Am Bj))))) O (by kernel_rfl) (by kernel_rfl) (by kernel_rfl) (fun _=>Ee AJ O O hsh (k+i) (by omega) (by omega)) O<|Aw.only (i:=17) (by kernel_rfl) O<|A5 (Fx (Rs _) O O O A (by rw [length_map];omega)) ?_
   rintro w6 ⟨ho6,hg6, -⟩
   have hB6:Below U.heap.size U w6:=s.trans (DU hg6 s.size fun b hb=>(AB A b hb).1)
   refine Aw.back<|Aw.done (by kernel_rfl)<|A8<|Cs<|Ad O<|Cd O (by omega)<|Ab O<|A7 ?_
   exact A4 (Bu (i+1) ⟨rfl,rfl,rfl,rfl,trivial⟩ (⟨J,LM ho6,hB6⟩) (by omega))
  ·refine Af O O (Lj x w4) ?_
   rintro v5 w5 ⟨D,L⟩
   have s:=bt Z D
   have h5:AY b8 w5 v5 (Crc.four x):=AH L
   have hl5:(Crc.four x).length=4:=rfl
   have A:=AF ho4 D
   have hsl:=hsl.bs D
   refine Aw.back<|Aw.take (i:=13) (Bb (Am (Am (Bb (Am Bj))))) O (by kernel_rfl) (by kernel_rfl) (by kernel_rfl) (fun _=>Ee AJ O O (AH L).shp i O J) O<|Aw.tail 17 [9,14,15,16] (by kernel_rfl) O<|A3 (fun w1 V=>Bf (IB _) O (Sl.bs ‹_› V) (by omega)) O ?_
   refine A3 (fun w1 V=>Bf (IB _) O (Sl.bs ‹_› V) (by omega)) O ?_
   refine A3 (fun w1 V=>Gl O O) O<|A3 (fun w1 V=>Ee AJ O O hsh (k+i) (by omega) (by omega)) O ?_
   refine Qw.done (fun w5q V=> ?_)
   have A:=AF A V
   have s:=bt s V
   refine A5 (Fx (Rs _) O O O A (by rw [length_map];omega)) ?_
   rintro w6 ⟨ho6,hg6, -⟩
   have hB6:Below U.heap.size U w6:=s.trans (DU hg6 s.size fun b hb=>(AB A b hb).1)
   refine A7<|A8<|Cs<|Ad O<|Cd O (by omega)<|Ab O<|A7 ?_
   exact A4 (Bu (i+1) ⟨rfl,rfl,rfl,rfl,trivial⟩ (⟨J,LM ho6,hB6⟩) (by omega))
 intro h
 have J:i=4:=by simp at h;omega
 subst J
 have s_y:AY b8 w3 y2 (Kf R x k 4):=by unfold AY;rw [hpl];exact AH N
 replace m:=bt m M
 clear N M
 obtain ⟨E3,e3⟩:∃E3,E3=if x=0#32 then (0:Int) else 11:=⟨_,rfl⟩
 have tl:=P3 T x (k:=k) (by rw [← eR];exact hk)
 rw [← eR] at tl
 refine Bt<|Ax<|Ax<|Bg<|Cf<|Ad O<|Af O O (Qp y2 (Kf R x k 4) E3 _ w3 s_y (tl.trans e3.symm) O) ?_
 rintro _ w ⟨a,pv2,pu2,ns2,ts2,rfl, -,hP⟩
 have oQ:[pv2,pu2].all (·.oneCell')=true:=by rw [all_cons,all_cons,hP.gn.sl.one',hP.tens.1.one'];rfl
 clear hP
 have m:=m.bs a
 refine Ad O<|Aa (Ar (i:=0) O O) O<|Aa (Ar (i:=1) O O) O<|Cx (cs:=[pv2,pu2]) K9 O O O O (fun _=>rfl) (oQ) ?_
 rintro A_q w eA_q b_q a -
 have m:=m.bs a
 refine Ab O<|Ay<|Ad O<|Aa (Cp O O) O<|Ad O<|Aa (Gx O (show _=some (u32 (0#32)) from rfl)) O<|Aa (Ex.eqlB TM O O) O<|Ad O<|Cl 127 (v' := .bool true) O (cngA Value.bool (by rw [e3];by_cases hx:x=0#32<;>simp [hx]))<|Ah (dj:=127) O O<|Ad O<|Ah (dj:=127) O O<|Aa (Gx O (show _=some (u32 (0#32)) from rfl)) O<|Ah (dj:=127) O O<|Ad O ?_
 refine B7 130 O ?_ ?_
 ·intro gx
  exact Ae (dj:=130) rfl rfl rfl rfl<|Ae (dj:=130) rfl rfl rfl rfl<|Ah (dj:=127) rfl rfl<|Bn rfl<|Bn rfl<|Ab rfl<|Av<|Ao rfl rfl<|⟨rfl,m⟩
 intro gx
 refine Ah (dj:=130) O O<|Ad O<|Ah (dj:=130) O O<|Aa (Cp O O) O<|Ah (dj:=127) O O<|Ci O<|Bn O<|Ab O<|Av<|Ao O O ?_
 refine ⟨?_,m⟩
 have e11:E3=11:=by rw [e3,if_neg (AD gx)]
 rw [e11]
 rfl

theorem QY {H:Type} {enc:TypeId×Value→H} {w:World} {base:Nat} {z:Value} (l:Value.okWide prog w .any base 84 z) (h:In enc prog w 84 z.cells.toList):
  ∃(q:BitVec 16) (x:BitVec 32),z= .agg [u16 q,u32 x].toArray:=by
 obtain ⟨cs,rfl,e⟩:=JR underlying84 l h
 obtain ⟨c,d⟩:=e.struct underlying84
 have k:Tryz.prog.cellsOf 84=2:=by kernel_rfl
 have g:Tryz.prog.cellsOf 81=1:=by kernel_rfl
 have f:Tryz.prog.cellsOf 82=1:=by kernel_rfl
 rw [k] at c
 obtain ⟨x,y,rfl⟩:∃a b,cs=[a,b]:=by
  match cs,c with
  |[a,b],_=>exact ⟨a,b,rfl⟩
 obtain ⟨p,i⟩:=In.num (BitVec.ofInt 16) u16 (fun _ h=>SE h) Sm (d 0 _ rfl)
 obtain ⟨q,j⟩:=In.num (BitVec.ofInt 32) u32 (fun _ h=>SD h) HE (d 1 _ rfl)
 simp [g,f] at i j
 subst i j
 exact ⟨p,q,rfl⟩
end Go.Proofs.YtblbopcaflaldaaGreatDoor

namespace Go.Proofs.YtblbopcaflaldaaGreatDoor
open Go Go.Dd Go.RowKit Go.ChangeShapes List Go.Proofs.Tryz
set_option maxRecDepth 100000
def QQ:DataW Unit→List Value
 | .lit (.int k n)=>[.int k n]
 | .lit (.bool b)=>[.bool b]
 |_=>[]
def Ut:DataW Unit→List Value
 | .agg l=>l.flatMap QQ
 |d=>QQ d
def Us:DataW Unit→List Value
 | .agg l=>l.flatMap Ut
 |d=>QQ d
noncomputable def Ue:Nat:=(World.holding prog default ⟨#[], #[],[]⟩).heap.size
noncomputable def JC (os:Os):World:=
 let w0:=World.holding prog os ⟨#[.cells #[st [118,97,108,117,101,32,111,117,116,32,111,102,32,114,97,110,103,101]] 356, .cells #[st [105,110,118,97,108,105,100,32,115,121,110,116,97,120]] 356], #[],[]⟩
 {w0 with heap:=((Rows.modelsTextRow.laid.foldl (fun h x=>h.modify ((Tryz.prog.globalNamed x.1).getD 0) fun
   | .cells _ t fz=> .cells (Us x.2).toArray t fz
   |o=>o) w0.heap).modify 5 fun
   | .cells _ t fz=> .cells #[.iface 354 (.pointer (some ⟨Ue,0,none⟩))] t fz
   |o=>o).modify 4 fun
   | .cells _ t fz=> .cells #[.iface 354 (.pointer (some ⟨Ue+1,0,none⟩))] t fz
   |o=>o}
theorem OG (os:Os) (args:Array Value):laidMetH prog Rows.modelsTextRow.laid ((JC os).forCall (fun _ _=>0) ⟨#[],args,[]⟩).memory:=
 laidMetH_of_parts (laidMet_of_run' 8 (by kernel_rfl) (by kernel_rfl)) (by kernel_rfl)
theorem NC (u : TypeId) (h : Tryz.prog.typeName? 3 u = some "*errors.errorString") : u = 354 :=
 typeName_ptr_named (nm := "errors.errorString") (by kernel_rfl) (by kernel_rfl) (by decide) u h
theorem Ml {W:World} (n:laidMetH prog Rows.modelsTextRow.laid W) (c:W.ShapedOpen prog):IU W:=by
 have h:laidMet prog Rows.modelsTextRow.laid W:=n
 have f:=h.tail.tail
 have i:=f.tail.tail
 have l:=i.tail
 obtain ⟨a,s,k, -⟩:=laid_sentinel i (g:=5) (by kernel_rfl) (ti:=129) (by kernel_rfl) underlying129 NC underlying354 underlying356 rfl rfl LA (by kernel_rfl) (by kernel_rfl)
 obtain ⟨b,u,j, -⟩:=laid_sentinel l (g:=4) (by kernel_rfl) (ti:=129) (by kernel_rfl) underlying129 NC underlying354 underlying356 rfl rfl LA (by kernel_rfl) (by kernel_rfl)
 have d:W.cell? ⟨5,0,none⟩=some (.iface 354 (.pointer (some a))):=by simpa using World.var?_cell (g:=5) (by kernel_rfl) k 0
 have m:W.cell? ⟨4,0,none⟩=some (.iface 354 (.pointer (some b))):=by simpa using World.var?_cell (g:=4) (by kernel_rfl) j 0
 refine ⟨cell_of_shapedOpen_int c (g:=0) (t:=3) (zero:= #[.int .i64 0]) (AE (by kernel_rfl)) (by kernel_rfl) O (by kernel_rfl) (by kernel_rfl) Hr,Lib.tabIs_of_head (g:=1) (by kernel_rfl) (by kernel_rfl) underlying332 Py (by kernel_rfl) (by kernel_rfl) f,⟨_,_,m⟩,⟨_,_,d⟩, ?_⟩
 rcases Nat.lt_or_ge 5 W.heap.size with e|e
 ·exact e
 ·rw [show W.cell? ⟨5,0,none⟩=none by simp [World.cell?,Array.getElem?_eq_none e]] at d
  cases d
end Go.Proofs.YtblbopcaflaldaaGreatDoor

namespace Go.Proofs.YtblbopcaflaldaaGreatDoor
open Go Go.Dd Go.RowKit Go.ChangeShapes List
set_option maxRecDepth 100000
theorem OE {H:Type} {enc:TypeId×Value→H} {a:Assume} {C:Checked} {os:Os} {f:FuncId} {p:Func} {s:ChangeSpec} {o:List PathCond} {b m h k:Bool} {l:List (String×DataW Unit)}
  (own:ownKnob C.prog.godebug=none) (n:os.Started) (q:C.prog.inits.idxOf? f=none) (B:C.prog.funcs[f]? =some p)
  (J:∃(w:World) (c:Tape) (i:Input),w.os=os∧(w.forCall c i).Shaped C.prog∧i.vars=[]∧Input.okWide C.prog (w.forCall c i) .any w.heap.size f i∧
   ((s.pre enc C.prog p o b (w.forCall c i).memory i.args∧laidMetH C.prog l (w.forCall c i).memory)∧sizedMet enc C.prog p (OpenSpec.ofChange s) b (w.forCall c i).memory i.args)∧a.holds C.prog (lone (Frame.enter C.prog f i.args .normal) [] (w.forCall c i)))
  (u:∀(W:World) (base:Nat) (args:Array Value) (ds y:List (DataW H)) (d:List MemPlace),(∀(j:Nat) t v,p.params[j]? =some t→args[j]? =some v→Value.okWide C.prog W .any base t v)→
   DataW.Whole enc C.prog p.params.toList s.vars b W args.toList ds y d→(DataW.weightsEach C.prog (p.params.toList++s.plain.varTypes C.prog) (ds++y)).all (·≤reachBytes)=true→laidMetH C.prog l W→W.ShapedOpen C.prog→
   Calls C.prog f args W fun e E=>∃v,e= .returned v∧s.post enc C.prog p b m h k W args v E):
  ReturnsInHanded a C os f .any (fun w args=>(s.pre enc C.prog p o b w args∧laidMetH C.prog l w)∧sizedMet enc C.prog p (OpenSpec.ofChange s) b w args) (s.post enc C.prog p b m h k):=
 returnsInHanded_of_calls own n q J fun w c i _ A _ z x _=>by
  obtain ⟨_,_,_,g,F,_,_,_,_,r⟩:=z
  cases B.symm.trans F
  obtain ⟨⟨⟨ds,y,d,D,_⟩,G⟩,I⟩:=x
  refine (u _ _ _ ds y d r (DataW.Whole.of_heap (w' :=w.forCall c i) (by rfl) D) (I.weights D) (laidMetH.of_heap (w' :=w.forCall c i) (by rfl) G) A).mono ?_
  rintro e E ⟨v,rfl,K⟩
  exact ChangeSpec.post_blind K
end Go.Proofs.YtblbopcaflaldaaGreatDoor
