/- Texts of this proof, one behind the other: RefOrd, RefTurn, RefSum, TensorsAt, MovesJoin, JoPl, IntLists, RefJoined, JoinPl, RefJoin, GraphCode, GraphKind, GraphShape, GraphNode, GraphShapes, RefNode, MeansCode, MeansDeed. -/
import Derived.Test.YtmipoeanpnnjoaaGreatDoorPk3
import Derived.Test.YtmipoeanpnnjoaaGreatDoorPk4
import Derived.Test.YtmipoeanpnnjoaaGreatDoorPk2

/-! Contract: does a list hold each of so many directions just once? -/
namespace Go.Proofs.YtmipoeanpnnjoaaGreatDoor
open Go Go.Dd Go.RowKit
set_option maxRecDepth 100000

def cn (i:Int):List Int→Nat
 |[]=>0
 |x::l=>(if x=i then 1 else 0)+cn i l
def fl (m:Int):List Int→Nat
 |[]=>0
 |x::l=>(if 0≤x∧x<m then 1 else 0)+fl m l
theorem cn_append (i:Int):∀a b:List Int,cn i (a++b)=cn i a+cn i b
 |[],b=>by simp [cn]
 |x::a,b=>by simp only [List.cons_append,cn];rw [cn_append i a b];omega
theorem cn_mem {i:Int}:∀{l:List Int},i ∈ l→1≤cn i l
 |x::l,h=>by
  simp only [cn]
  rcases List.mem_cons.1 h with rfl|h
  ·rw [if_pos rfl];omega
  ·have:=cn_mem h;omega
theorem cn_le (i:Int):∀l:List Int,cn i l≤l.length
 |[]=>Nat.le_refl _
 |x::l=>by
  have:=cn_le i l
  simp only [cn,List.length_cons]
  split<;>omega
theorem fl_succ (m:Nat):∀l:List Int,fl ((m+1:Nat):Int) l=fl (m:Int) l+cn (m:Int) l
 |[]=>rfl
 |x::l=>by
  simp only [fl,cn]
  rw [fl_succ m l]
  split<;>split<;>split<;>omega
theorem fl_zero:∀l:List Int,fl 0 l=0
 |[]=>rfl
 |x::l=>by
  simp only [fl]
  rw [fl_zero l,if_neg (by omega)]
theorem fl_le (m:Int):∀l:List Int,fl m l≤l.length
 |[]=>Nat.le_refl _
 |x::l=>by
  have:=fl_le m l
  simp only [fl,List.length_cons]
  split<;>omega
theorem fl_all {m:Int}:∀{l:List Int},fl m l=l.length→∀x ∈ l,0≤x∧x<m
 |[],_,x,hx=>by simp at hx
 |y::l,h,x,hx=>by
  have:=fl_le m l
  simp only [fl,List.length_cons] at h
  by_cases g:0≤y∧y<m
  ·rw [if_pos g] at h
   rcases List.mem_cons.1 hx with rfl|hx
   ·exact g
   ·exact fl_all (by omega) x hx
  ·rw [if_neg g] at h;omega
theorem cn_ord {l:List Int} (h:∀i:Nat,i<l.length→cn (i:Int) l=1):ordOk l=true:=by
 have e:∀m:Nat,m≤l.length→fl (m:Int) l=m:=fun m=>by
  induction m with
  |zero=>intro _;exact fl_zero l
  |succ m ih=>intro hm;rw [fl_succ,ih (by omega),h m (by omega)]
 have hin:=fl_all (e l.length (Nat.le_refl _))
 refine ordOk_iff.2 fun j hj=> ?_
 have hm:l.getD j default ∈ l:=by simp [hj]
 have hr:=hin _ hm
 unfold ordC
 rw [decide_eq_true hr.1,decide_eq_true hr.2]
 cases hc:(l.take j).contains (l.getD j default) with
 |false=>rfl
 |true=>
  have m1:l.getD j default ∈ l.take j:=by simpa using hc
  have c1:=cn_mem m1
  have c2:cn (l.getD j default) (l.drop j)=1+cn (l.getD j default) (l.drop (j+1)):=by
   rw [List.drop_eq_getElem_cons hj]
   simp [cn,hj]
  have c3:cn (l.getD j default) l=cn (l.getD j default) (l.take j)+cn (l.getD j default) (l.drop j):=by rw [← cn_append,List.take_append_drop]
  have c4:=h (l.getD j default).toNat (by omega)
  rw [Int.toNat_of_nonneg hr.1] at c4
  omega
theorem isum_pick (i:Nat):∀n,isum (fun x=>if x=i then 1 else 0) n=if i<n then 1 else 0
 |0=>rfl
 |n+1=>by
  simp only [isum]
  rw [isum_pick i n]
  split<;>split<;>split<;>omega
theorem cn_lsum (i:Nat):∀{l:List Int},(∀x ∈ l,0≤x)→(cn (i:Int) l:Int)=lsum (fun x=>if x=i then 1 else 0) (ordN l)
 |[],_=>rfl
 |x::l,h=>by
  have h0:=h x (by simp)
  have ih:=cn_lsum i (l:=l) fun y hy=>h y (by simp [hy])
  simp only [ordN] at ih ⊢
  simp only [List.map_cons,lsum,cn]
  rw [← ih]
  by_cases g:x=(i:Int)
  ·rw [if_pos g,if_pos (by omega)];omega
  ·rw [if_neg g,if_neg (by omega)];omega
theorem ord_cn {l:List Int} (h:ordOk l=true) (h4:l.length≤4) {i:Nat} (hi:i<l.length):cn (i:Int) l=1:=by
 have h0:∀x ∈ l,0≤x:=fun x hx=>by
  obtain ⟨j,hj,e⟩:=List.getElem_of_mem hx
  have:=(ord_in h hj).1
  rwa [show l.getD j default=x by simp [hj,e]] at this
 have e:=cn_lsum i h0
 rw [lsum_perm (ord_perm h h4),lsum_range,isum_pick,if_pos hi] at e
 omega
theorem rorder_c (u:Value) (l:List Int) (n:Nat) (w:World) (h_u:SlT (Value.int .i64) w u l) (hn:n≤4):
  Fnc Tryz.prog 138 [u, .int .i64 (n:Int)] w (fun r w' =>r= .bool (decide (l.length=n) && ordOk l)∧Below w.heap.size w w'):=by
 have hle:=h_u.le
 refine Ap (n:=32) Tryz.func138 (by kernel_rfl) O O O<|Ae<|Ab<|Lw.val (Ac O) O<|Af<|Aa<|Cw.out<|Ae<|Ae<|Ab<|Lw.val (Ad O) O<|Lw.val (Av st_23 O (by assumption)) O ?_
 refine Lw.val (Ad O) O<|Lw.val (B7 O O) O<|Af<|Aa<|Cw.out<|Au O ?_ ?_
 ·intro g
  have g:¬l.length=n:=by have:=g;simp at this;omega
  refine Ae<|Ab<|Lw.val (Ac O) O<|Af<|Aa<|Cw.out<|An<|Ak<|Bb O O ?_
  exact ⟨by rw [decide_eq_false g];rfl,Below.refl _ _⟩
 intro g
 have g:l.length=n:=by have:=g;simp at this;omega
 subst g
 rw [decide_eq_true rfl,Bool.true_and]
 refine Aq<|Aa<|Cw.out<|Ae<|Ae<|Ab<|Lw.val (Ac O) O<|Af<|Aa<|Cw.out<|Cw.block ?_
 refine Bj (S:=Nat) (fun i=>[(0,u),(1, .int .i64 (l.length:Int)),(5, .int .i64 (i:Int))]) (fun i w' =>i≤l.length∧(∀j:Nat,j<i→cn (j:Int) l=1)∧Below w.heap.size w w') (fun i=>l.length - i) (0) ⟨rfl,rfl,rfl,trivial⟩ ?_ ?_
 ·exact ⟨Nat.zero_le _,fun j hj=>absurd hj (by omega),Below.refl _ _⟩
 rintro i w1 ⟨hi,hC,hw⟩
 have h_u1:=h_u.bs hw
 refine Ae<|Ae<|Ab<|Lw.val (Ad O) O<|Lw.val (Ad O) O<|Lw.val (Bh O O) O<|Af<|Aa<|Cw.out<|Au O ?_ ?_
 ·intro g
  have hi' :i<l.length:=by have:=of_decide_eq_true g;omega
  refine Aq<|Aa<|Cw.out<|Ae<|Cw.block<|Ae<|Ab<|Lw.val (Ac O) O<|Af<|Aa<|Cw.out<|Ae<|Ae<|Ab<|Lw.val (Ac O) O<|Af<|Aa<|Cw.out<|Cw.block ?_
  refine Bj (S:=Nat) (fun k=>[(0,u),(1, .int .i64 (l.length:Int)),(5, .int .i64 (i:Int)),(6, .int .i64 ((cn (i:Int) (l.take k):Nat):Int)),(7, .int .i64 (k:Int))]) (fun k w' =>k≤l.length∧Below w.heap.size w w') (fun k=>l.length - k) (0) ⟨rfl,rfl,rfl,rfl,rfl,trivial⟩ ?_ ?_
  ·exact ⟨Nat.zero_le _,hw⟩
  rintro k w2 ⟨hk,hw2⟩
  have h_u2:=h_u.bs hw2
  have ck:=cn_le (i:Int) (l.take k)
  rw [List.length_take] at ck
  refine Ae<|Ae<|Ab<|Lw.val (Ad O) O<|Lw.val (Ad O) O<|Lw.val (Bh O O) O<|Af<|Aa<|Cw.out<|Au O ?_ ?_
  ·intro h
   have hk' :k<l.length:=by have:=of_decide_eq_true h;omega
   have e1:l.take (k+1)=l.take k++[l.getD k default]:=by rw [List.take_succ_eq_append_getElem hk'];simp [hk']
   have e2:cn (i:Int) (l.take (k+1))=cn (i:Int) (l.take k)+if l.getD k default=(i:Int) then 1 else 0:=by rw [e1,cn_append];simp [cn]
   refine Aq<|Aa<|Cw.out<|Ae<|Cw.block<|Ae<|Ab<|Lw.val (Ad O) O<|Lw.val (Ad O) O<|Lw.val (Ba st_23 O O (by assumption) _ O (by omega)) O ?_
   refine Lw.val (Bg (ag_3 _) O (by assumption) (by omega)) O ?_
   refine Lw.val (Ad O) O<|Lw.val (Cn O O) O<|Af<|Aa<|Cw.out<|Au O ?_ ?_
   ·intro g2
    have g2:=of_decide_eq_true g2
    rw [if_pos g2] at e2
    refine Ab<|Lw.val (Ad O) O<|Lw.val (Bc O O (by omega)) O<|Lw.val (Ac O) O<|Af<|Bo<|Aa<|Cw.out<|Ab<|Lw.val (Ad O) O<|Lw.val (Bc O O (by omega)) O<|Lw.val (Ac O) O<|Af ?_
    exact Aa (Bq (k+1) ⟨rfl,rfl,rfl,congrArg (fun x=>some (Value.int .i64 x)) (show ((cn (i:Int) (l.take k):Nat):Int)+1=((cn (i:Int) (l.take (k+1)):Nat):Int) by omega),rfl,trivial⟩ (⟨hk',hw2⟩) (by omega))
   intro g2
   have g2:=of_decide_eq_false g2
   rw [if_neg g2] at e2
   refine Aq<|Bo<|Aa<|Cw.out<|Ab<|Lw.val (Ad O) O<|Lw.val (Bc O O (by omega)) O<|Lw.val (Ac O) O<|Af ?_
   exact Aa (Bq (k+1) ⟨rfl,rfl,rfl,congrArg (fun x=>some (Value.int .i64 x)) (show ((cn (i:Int) (l.take k):Nat):Int)=((cn (i:Int) (l.take (k+1)):Nat):Int) by omega),rfl,trivial⟩ (⟨hk',hw2⟩) (by omega))
  intro h
  have hk' :k=l.length:=by have:=of_decide_eq_false h;omega
  rw [hk',List.take_length]
  refine Bi<|Am<|Am<|Az<|Aa<|Cw.out<|Ae<|Ab<|Lw.val (Ad O) O<|Lw.val (B7 O O) O<|Af<|Aa<|Cw.out<|Au O ?_ ?_
  ·intro g2
   have g2:¬cn (i:Int) l=1:=by have:=g2;simp at this;omega
   refine Ae<|Ab<|Lw.val (Ac O) O<|Af<|Aa<|Cw.out<|An<|Bk<|Ak<|Ak<|Bk<|Ak<|Bb O O ?_
   refine ⟨congrArg Value.bool ?_,hw2⟩
   cases ho:ordOk l with
   |false=>rfl
   |true=>exact absurd (ord_cn ho hn hi') g2
  intro g2
  have g2:cn (i:Int) l=1:=by have:=g2;simp at this;omega
  have hC' :∀j:Nat,j<i+1→cn (j:Int) l=1:=fun j hj=>by
   rcases Nat.lt_or_ge j i with h|h
   ·exact hC j h
   ·obtain rfl:j=i:=by omega
    exact g2
  refine Aq<|Bo<|Aa<|Cw.out<|Ab<|Lw.val (Ad O) O<|Lw.val (Bc O O (by omega)) O<|Lw.val (Ac O) O<|Af ?_
  exact Aa (Bq (i+1) ⟨rfl,rfl,rfl,trivial⟩ (⟨hi',hC',hw2⟩) (by omega))
 intro g
 have hi' :i=l.length:=by have:=of_decide_eq_false g;omega
 subst hi'
 refine Bi<|Am<|Am<|Az<|Aa<|Cw.out<|Ae<|Ab<|Lw.val (Ac O) O<|Af<|Aa<|Cw.out<|An<|Bb O O ?_
 exact ⟨congrArg Value.bool (cn_ord hC).symm,hw⟩
end Go.Proofs.YtmipoeanpnnjoaaGreatDoor

/-! Contract: the document's turned tensor. -/
namespace Go.Proofs.YtmipoeanpnnjoaaGreatDoor
open Go Go.Dd Go.RowKit
set_option maxRecDepth 100000

theorem eq_getD {a b:List Int} (h:a.length=b.length) (g:∀j,j<a.length→a.getD j default=b.getD j default):a=b:=by
 refine List.ext_getElem h fun i h1 h2=> ?_
 simpa [h1,h2] using g i h1
theorem un_turn {s o p:List Int} (ho:ordOk o=true) (hl:o.length=s.length) (h4:s.length≤4) (hp:Shapes.inn (turn s o) p=true):∃q,Shapes.inn s q=true∧turn q o=p:=by
 have ex:∀k,k<s.length→∃j,j<o.length∧o.getD j default=(k:Int):=fun k hk=>by
  have m:k ∈ ordN o:=(ord_perm ho (by omega)).mem_iff.2 (List.mem_range.2 (by omega))
  obtain ⟨x,hx,e⟩:=List.mem_map.1 m
  obtain ⟨j,hj,e2⟩:=List.getElem_of_mem hx
  have:=ord_in ho hj
  have e3:o.getD j default=x:=by simp [hj,e2]
  rw [e3] at this
  exact ⟨j,hj,by rw [e3];omega⟩
 obtain ⟨f,hf⟩:∃f:Nat→Nat,∀k,k<s.length→f k<o.length∧o.getD (f k) default=(k:Int):=
  ⟨fun k=>if h:k<s.length then Classical.choose (ex k h) else 0,fun k hk=>by
   dsimp only
   rw [dif_pos hk];exact Classical.choose_spec (ex k hk)⟩
 have lp:=Shapes.inn_length hp
 rw [turn_length] at lp
 obtain ⟨q,hq⟩:∃q,q=(List.range s.length).map fun k=>p.getD (f k) default:=⟨_,rfl⟩
 have lq:q.length=s.length:=by rw [hq];simp
 have qa:∀k,k<s.length→q.getD k default=p.getD (f k) default:=fun k hk=>by rw [hq];simp [hk]
 refine ⟨q,Shapes.inn_iff.2 ⟨lq,fun k hk=> ?_⟩,eq_getD (by rw [turn_length,lp]) fun j hj=> ?_⟩
 ·obtain ⟨h1,h2⟩:=hf k hk
  have:=Shapes.inn_at hp (k:=f k) (by rw [turn_length];exact h1)
  rw [turn_at h1,h2,Int.toNat_natCast] at this
  rw [qa k hk];exact this
 ·rw [turn_length] at hj
  have hr:=ord_in ho hj
  obtain ⟨k,hk⟩:∃k:Nat,o.getD j default=(k:Int):=⟨_,(Int.toNat_of_nonneg hr.1).symm⟩
  have hks:k<s.length:=by omega
  obtain ⟨h1,h2⟩:=hf k hks
  rw [turn_at hj,hk,Int.toNat_natCast,qa k hks]
  have:f k=j:=by
   rcases Nat.lt_trichotomy (f k) j with g|g|g
   ·exact absurd (h2.trans hk.symm) (ord_ne ho g hj)
   ·exact g
   ·exact absurd (hk.trans h2.symm) (ord_ne ho g h1)
  rw [this]
def sig (s o:List Int) (i:Nat):Nat:=(Shapes.idx (turn s o) (turn (Shapes.place s (i:Int)) o)).toNat
theorem sig_at {s o:List Int} (hs:Shapes.ok s=true) (ho:ordOk o=true) (hl:o.length=s.length) {i:Nat} (hi:(i:Int)<Shapes.prod s):
  Shapes.inn (turn s o) (turn (Shapes.place s (i:Int)) o)=true∧sig s o i<(Shapes.prod (turn s o)).toNat∧tuS s o (Shapes.place (turn s o) (sig s o i:Int)) o.length=(i:Int):=by
 have S:=(Shapes.ok_iff s).1 hs
 have T:=(Shapes.ok_iff _).1 (turn_ok hs ho hl)
 have tin:=turn_inn ho hl (Shapes.place_in (i:=(i:Int)) (by omega) S.2.1)
 have lt:=Shapes.idx_lt T.2.1 tin
 refine ⟨tin,by unfold sig;omega, ?_⟩
 unfold sig
 rw [Int.toNat_of_nonneg lt.1,Shapes.place_idx T.2.1 tin,tuS_turn ho hl S.1.2 (by rw [Shapes.place_length]),Shapes.idx_place (by omega) S.2.1,Int.emod_eq_of_lt (by omega) hi]
theorem scatter {s o:List Int} {l m:List (BitVec 32)} (hs:Shapes.ok s=true) (ho:ordOk o=true) (hl:o.length=s.length) (hm:m.length=(Shapes.prod (turn s o)).toNat)
  (h:∀j:Nat,(j:Int)<Shapes.prod s→m.getD (sig s o j) default=l.getD j default):m=tuL s l o:=by
 have S:=(Shapes.ok_iff s).1 hs
 have T:=(Shapes.ok_iff _).1 (turn_ok hs ho hl)
 refine pl_ext T.2.1 hm (by rw [tuL_mk hs ho hl,mk_length]) fun p hp=> ?_
 obtain ⟨q,hq,rfl⟩:=un_turn ho hl S.1.2 hp
 rw [tu_at hs ho hl hq]
 have il:=Shapes.idx_lt S.2.1 hq
 have e:((Shapes.idx s q).toNat:Int)=Shapes.idx s q:=Int.toNat_of_nonneg il.1
 have:=h (Shapes.idx s q).toNat (by omega)
 unfold sig at this
 rw [e,Shapes.place_idx S.2.1 hq] at this
 exact this
theorem rmturn_c (t:T4) (v:Value) (o:List Int) (W:World) (h_t:t.at W) (h_v:SlT (Value.int .i64) W v o):
  Fnc Tryz.prog 43 [t.v,v] W (fun r w' =>Below W.heap.size W w' ∧AnsK W w' r (tnE t o) (turn t.s o) (tuL t.s t.l o)):=by
 have hB:=Below.refl W.heap.size W
 refine Ap (n:=66) Tryz.func43 (by kernel_rfl) O O O<|Ae<|Ab<|Bv (cs:=[t.x,t.y]) O O O ?_
 rintro A_t w eA_t b_t hn -
 replace hB:=hB.bs hn
 replace h_t:=h_t.bs hn
 replace h_v:=h_v.bs hn
 clear hn
 have z0:=below_size hB
 have y_t:=blk_lt b_t
 refine B8 it_33 O ?_
 rintro A_r w eA_r b_r hn -
 replace hB:=hB.bs hn
 replace h_t:=h_t.bs hn
 replace h_v:=h_v.bs hn
 replace b_t:=b_t.bs hn
 clear hn
 refine Lw.val (Ac O) O<|Af<|Aa<|Cw.out<|Ae<|Ae<|Ab<|Lw.val (Bw (ag_33 _) (sz_33 _) O O (by assumption)) O ?_
 have z_r:=blk_lt b_r
 have h_t1:=h_t.1
 have h_t2:=h_t.2
 refine Al O O (rtcheck_c t.x t.y t.s t.l _ h_t.1 h_t.2) ?_
 rintro _ w ⟨rfl,hn⟩
 replace hB:=hB.bs hn
 replace h_t:=h_t.bs hn
 replace h_v:=h_v.bs hn
 replace b_t:=b_t.bs hn
 replace b_r:=b_r.bs hn
 replace h_t1:=h_t1.bs hn
 replace h_t2:=h_t2.bs hn
 clear hn
 refine Lw.val (Bx O) O<|Lw.val (Ad O) O ?_
 refine Bt 16 O ?_ ?_
 ·intro g
  refine Ai (dj:=16) O O O O<|Ai (dj:=16) O O O O<|Ai (dj:=16) O O O O<|Ai (dj:=16) O O O O<|Ai (dj:=16) O O O O<|Ai (dj:=16) O O O O<|Lw.val (As O O) O<|Af<|Aa<|Cw.out<|Br O<|Ae<|Ab<|Lw.val (Bn (vs:=[]) (cs:=[.slice none 0 0, .slice none 0 0]) O (by kernel_rfl)) O<|Ay (Bp (cs:=[.slice none 0 0, .slice none 0 0]) O O O O O b_r O) ?_
  rintro w3 ⟨b_r,hg, -⟩
  have hB:=hB.grown hg (below_size hB) (by rintro _ ⟨⟩;omega)
  refine Lw.val (Ac O) O<|Af<|Aa<|Cw.out<|An<|Ak<|Bf O O O (by assumption) (Tryz.underlying33) O O O ?_
  rw [show tnE t o=1 by simp_all [tnE]]
  exact ⟨hB,ansK_no (by decide)⟩
 intro g1
 have k_t:tok t.s t.l=true:=by simpa using g1
 have S:=(Shapes.ok_iff t.s).1 (tok_ok k_t).1
 refine Lw.take (dj:=16) O O<|Lw.val (Ad O) O<|Lw.take (dj:=16) O O<|Lw.val (Ag (q:=0) Tryz.underlying33 O (sz_23 _) O) O<|Lw.take (dj:=16) O O<|Lw.val (Aj (ag_23 _) O (by assumption) O) O ?_
 refine Lw.take (dj:=16) O O<|Lw.val (Av st_23 O (by assumption)) O ?_
 refine Lw.take (dj:=16) O O<|Al O O (rorder_c v o t.s.length _ h_v S.1.2) ?_
 rintro _ w ⟨rfl,hn⟩
 replace hB:=hB.bs hn
 replace h_t:=h_t.bs hn
 replace h_v:=h_v.bs hn
 replace b_t:=b_t.bs hn
 replace b_r:=b_r.bs hn
 replace h_t1:=h_t1.bs hn
 replace h_t2:=h_t2.bs hn
 clear hn
 refine Lw.take (dj:=16) O O<|Lw.val (Bx O) O<|Lw.val (Bd O O) O<|Af<|Aa<|Cw.out<|Au O ?_ ?_
 ·intro g
  refine Ae<|Ab<|Lw.val (Bn (vs:=[]) (cs:=[.slice none 0 0, .slice none 0 0]) O (by kernel_rfl)) O<|Ay (Bp (cs:=[.slice none 0 0, .slice none 0 0]) O O O O O b_r O) ?_
  rintro w3 ⟨b_r,hg, -⟩
  have hB:=hB.grown hg (below_size hB) (by rintro _ ⟨⟩;omega)
  refine Lw.val (Ac O) O<|Af<|Aa<|Cw.out<|An<|Ak<|Bf O O O (by assumption) (Tryz.underlying33) O O O ?_
  have g3:(decide (o.length=t.s.length) && ordOk o)=false:=by
   cases hc:(decide (o.length=t.s.length) && ordOk o) with
   |false=>rfl
   |true=>rw [hc] at g;simp at g
  rw [show tnE t o=1 by unfold tnE;rw [k_t,Bool.true_and,g3];rfl]
  exact ⟨hB,ansK_no (by decide)⟩
 intro g2
 have g2:(decide (o.length=t.s.length) && ordOk o)=true:=by simpa using g2
 rw [Bool.and_eq_true,decide_eq_true_eq] at g2
 obtain ⟨hl,ho⟩:=g2
 have hs:=(tok_ok k_t).1
 have okT:=turn_ok hs ho hl
 have T:=(Shapes.ok_iff _).1 okT
 have hE:tnE t o=0:=by unfold tnE;rw [k_t,decide_eq_true hl,ho];rfl
 rw [hE]
 have lenl:t.l.length=(Shapes.prod t.s).toNat:=by rw [(tok_ok k_t).2,Shapes.size_ok hs]
 clear g1
 refine Aq<|Aa<|Cw.out<|Ae<|Ab<|Lw.val (Ag (q:=0) Tryz.underlying33 O (sz_23 _) O) O<|Lw.val (Aj (ag_23 _) O (by assumption) O) O ?_
 refine Lw.val (Ad O) O<|Al O O (rturned_c t.x v t.s o _ h_t1 h_v (fun j hj=>by rw [← hl];exact ord_in ho hj) (by omega)) ?_
 rintro u w ⟨hn,hu⟩
 rw [← turn_length t.s o] at hu
 have s_u:=own_slT hu
 replace hB:=hB.bs hn
 replace h_t:=h_t.bs hn
 replace h_v:=h_v.bs hn
 replace b_t:=b_t.bs hn
 replace b_r:=b_r.bs hn
 replace h_t1:=h_t1.bs hn
 replace h_t2:=h_t2.bs hn
 clear hn hu
 have lT:=turn_length t.s o
 refine Al O O (rnew_c u (turn t.s o) _ s_u) ?_
 rintro _ w7 ⟨hn7,⟨hk,x,y,rfl,hm⟩|⟨hk,rfl⟩⟩
 ·refine Lw.val (Ad O) O<|Lw.val (Ax (i:=0) O O) O<|Lw.val (Ax (i:=1) O O) O<|Cb (cs:=[x,y]) it_33 O O O O (fun _=>rfl) (hm.one) ?_
  rintro A_m w8 eA_m b_m hn8 zhn8
  have M:=mine_new hm eA_m b_m hn8 zhn8 hn7.size
  have hw8:=bt hn7 hn8
  have zw:=hw8.size
  have zB:=below_size hB
  have p_t:=h_t
  have p_v:=h_v
  have q_t:=blk_lt b_t
  have q_r:=blk_lt b_r
  replace hB:=hB.bs hw8
  replace h_t:=h_t.bs hw8
  replace h_v:=h_v.bs hw8
  replace b_t:=b_t.bs hw8
  replace b_r:=b_r.bs hw8
  replace h_t1:=h_t1.bs hw8
  replace h_t2:=h_t2.bs hw8
  replace s_u:=s_u.bs hw8
  clear hm b_m hn7 hn8 eA_m zhn8 hw8
  obtain ⟨zs,hzs⟩:∃l,l=List.replicate (Shapes.size (turn t.s o)).toNat 0#32:=⟨_,rfl⟩
  rw [← hzs] at M
  have n2:zs.length=(Shapes.prod (turn t.s o)).toNat:=by rw [hzs,Shapes.size_ok okT];simp
  have b_m:=M.box
  have y_m:=M.sly
  refine Lw.val (Ac O) O<|Af<|Aa<|Cw.out<|Ae<|Ae<|Ab<|Lw.val (Ac O) O<|Af<|Aa<|Cw.out<|Cw.block ?_
  refine Bj (S:=(Nat×List (BitVec 32))) (fun z=>[(1,v),(2, .pointer (some ⟨A_t,0,none⟩)),(4, .pointer (some ⟨A_r,0,none⟩)),(6, .pointer (some ⟨A_m,0,none⟩)),(8, .int .i64 (z.1:Int))]) (fun z w' =>z.1≤t.l.length∧Below w.heap.size w8 w' ∧MineT w' w.heap.size w8.heap.size A_m x y (turn t.s o) z.2∧z.2.length=(Shapes.prod (turn t.s o)).toNat∧(∀j:Nat,j<z.1→z.2.getD (sig t.s o j) default=t.l.getD j default)) (fun z=>t.l.length - z.1) ((0,zs)) ⟨rfl,rfl,rfl,rfl,rfl,trivial⟩ ?_ ?_
  ·exact ⟨Nat.zero_le _,Below.refl _ _,M,n2,fun j hj=>absurd hj (by omega)⟩
  clear M b_m y_m
  rintro ⟨i,m⟩ w11 ⟨hi,hw,M,lm,hs2⟩
  dsimp only at hi M lm hs2 ⊢
  have hB2:=hB.trans (hw.mono (by omega))
  have zw2:=hw.size
  have h_t:=at_stay p_t h_t (Nat.le_refl _) hw
  have h_v:SlT (Value.int .i64) w11 v o:=Sl.stay h_v fun k e hne=>hw.block k (Sl.blk p_v hne k e)
  have b_t:=b_t.bl hw q_t
  have b_r:=b_r.bl hw q_r
  have b_m:=M.box
  have y_m:=M.sly
  have h_t2:=h_t.2
  clear h_t1 p_t p_v
  refine Ae<|Ae<|Ab<|Lw.val (Ad O) O<|Lw.val (Ag (q:=0) Tryz.underlying33 O (sz_31 _) O) O<|Lw.val (Aj (ag_31 _) O (by assumption) O) O ?_
  refine Lw.val (Av st_31 O (by assumption)) O ?_
  refine Lw.val (Bh O O) O<|Af<|Aa<|Cw.out<|Au O ?_ ?_
  ·intro g
   have hi' :i<t.l.length:=by have:=of_decide_eq_true g;omega
   have hip:(i:Int)<Shapes.prod t.s:=by omega
   obtain ⟨tin,slt,srec⟩:=sig_at hs ho hl hip
   have slt0:=Shapes.idx_lt T.2.1 tin
   have hk2:Shapes.idx (turn t.s o) (turn (Shapes.place t.s (i:Int)) o)=((sig t.s o i:Nat):Int):=(Int.toNat_of_nonneg slt0.1).symm
   have lp:=Shapes.place_length t.s (i:Int)
   refine Aq<|Aa<|Cw.out<|Ae<|Cw.block<|Ae<|Ab<|Lw.val (Ag (q:=0) Tryz.underlying33 O (sz_23 _) O) O<|Lw.val (Aj (ag_23 _) O (by assumption) O) O ?_
   refine Lw.val (Ad O) O<|Al O O (rat_c t.s t.x (i:Int) w11 h_t.1) ?_
   rintro _ w12 ⟨hn,a,rfl,ha⟩
   rw [show Shapes.atl t.s (i:Int)=Shapes.place t.s (i:Int) by unfold Shapes.atl;rw [if_pos ⟨by omega,by rw [Shapes.size_ok hs];exact hip⟩]] at ha
   have M:=M.bs hn
   have h_v:=h_v.bs hn
   have h_t:=h_t.bs hn
   have b_t:=b_t.bs hn
   have b_r:=b_r.bs hn
   have hw:=hw.trans (hn.mono (by omega))
   have zw2:=hw.size
   have b_m:=M.box
   have y_m:=M.sly
   have x_m:=M.row.slT
   have h_t2:=h_t.2
   clear hn
   have hs3:∀j:Nat,j<i+1→(m.set (sig t.s o i) (t.l.getD i default)).getD (sig t.s o j) default=t.l.getD j default:=fun j hj=>by
    by_cases e:j=i
    ·subst e
     exact getD_set (by omega)
    ·have hjp:(j:Int)<Shapes.prod t.s:=by omega
     obtain ⟨-, -,jrec⟩:=sig_at hs ho hl hjp
     have hne:sig t.s o i≠sig t.s o j:=fun e2=>by
      rw [e2,jrec] at srec
      omega
     rw [← hs2 j (by omega),List.getD_eq_getElem?_getD,List.getElem?_set_ne hne,List.getD_eq_getElem?_getD]
   refine Lw.val (Ad O) O<|Lw.val (Ax (i:=0) O O) O<|Lw.val (Ax (i:=1) O O) O<|Lw.val (Ac O) O<|Lw.val (Ac O) O<|Af<|Aa<|Cw.out<|Ae ?_
   refine Cw.any mixed (fun w13 hd _=> ?_)
   have M:=M.bs hd
   have h_v:=h_v.bs hd
   have h_t:=h_t.bs hd
   have b_t:=b_t.bs hd
   have b_r:=b_r.bs hd
   have hw:=hw.trans (hd.mono (by omega))
   have zw2:=hw.size
   have b_m:=M.box
   have y_m:=M.sly
   have x_m:=M.row.slT
   have h_t2:=h_t.2
   have ha:=ha.bs hd
   clear hd
   refine Aw.take (i:=0) (Ah (NoP.blk (Ah (Ah (NoP.blk (Ah Ar)))))) O (by kernel_rfl) (by kernel_rfl) (by kernel_rfl) (fun _=>Ag (q:=0) Tryz.underlying33 O (sz_23 _) O) O<|Aw.take (i:=2) (Ah (NoP.blk (Ah (Ah (NoP.blk (Ah Ar)))))) O (by kernel_rfl) (by kernel_rfl) (by kernel_rfl) (fun _=>Ad O) O<|Aw.take (i:=3) (Ah (NoP.blk (Ah (Ah (NoP.blk (Ah Ar)))))) O (by kernel_rfl) (by kernel_rfl) (by kernel_rfl) (fun _=>Ad O) O ?_
   refine Aw.two (i:=1) (j:=4) (by kernel_rfl) O O ?_ ?_
   ·refine Lw.val (Aj (ag_23 _) O (by assumption) O) O ?_
    refine Aw.back<|Aw.only (i:=4) (by kernel_rfl) O<|Al O O (rturned_c a v (Shapes.place t.s (i:Int)) o _ ha h_v (fun j hj=>by rw [lp,← hl];exact ord_in ho hj) (by omega)) ?_
    rintro p w14 ⟨hn,hp⟩
    have M:=M.bs hn
    have h_v:=h_v.bs hn
    have h_t:=h_t.bs hn
    have b_t:=b_t.bs hn
    have b_r:=b_r.bs hn
    have hw:=hw.trans (hn.mono (by omega))
    have zw2:=hw.size
    have b_m:=M.box
    have y_m:=M.sly
    have x_m:=M.row.slT
    have h_t2:=h_t.2
    clear hn
    rw [← turn_length (Shapes.place t.s (i:Int)) o] at hp
    have s_p:=own_slT hp
    refine Aw.back<|Aw.only (i:=5) (by kernel_rfl) O<|Al O O (rindex_c (turn t.s o) (turn (Shapes.place t.s (i:Int)) o) x p _ x_m s_p) ?_
    rintro _ w15 ⟨rfl,hn⟩
    rw [index_yes okT tin]
    have M:=M.bs hn
    have h_v:=h_v.bs hn
    have h_t:=h_t.bs hn
    have b_t:=b_t.bs hn
    have b_r:=b_r.bs hn
    have hw:=hw.trans (hn.mono (by omega))
    have zw2:=hw.size
    have b_m:=M.box
    have y_m:=M.sly
    have x_m:=M.row.slT
    have h_t2:=h_t.2
    clear hn
    refine Aw.back<|Aw.take (i:=6) (Ah (NoP.blk (Ah (Ah (NoP.blk (Ah Ar)))))) O (by kernel_rfl) (by kernel_rfl) (by kernel_rfl) (fun _=>Ad O) O<|Aw.take (i:=7) (Ah (NoP.blk (Ah (Ah (NoP.blk (Ah Ar)))))) O (by kernel_rfl) (by kernel_rfl) (by kernel_rfl) (fun _=>Ax (i:=0) O O) O<|Aw.take (i:=8) (Ah (NoP.blk (Ah (Ah (NoP.blk (Ah Ar)))))) O (by kernel_rfl) (by kernel_rfl) (by kernel_rfl) (fun _=>Ax (i:=1) O O) O<|Aw.take (i:=9) (Ah (NoP.blk (Ah (Ah (NoP.blk (Ah Ar)))))) O (by kernel_rfl) (by kernel_rfl) (by kernel_rfl) (fun _=>Ac O) O<|Aw.take (i:=10) (Ah (NoP.blk (Ah (Ah (NoP.blk (Ah Ar)))))) O (by kernel_rfl) (by kernel_rfl) (by kernel_rfl) (fun _=>Ac O) O<|C1 (by kernel_rfl)<|Aa<|Cw.out<|Cw.tail 9 mixed (by kernel_rfl)<|Qw.val (fun w1 hq=>Ag (q:=0) Tryz.underlying33 O (sz_31 _) O) O<|Qw.val (fun w1 hq=>Aj (ag_31 _) O (Blk.bs (by assumption) hq) O) O ?_
    refine Qw.val (fun w1 hq=>Ad O) O<|Qw.val (fun w1 hq=>Ag (q:=0) Tryz.underlying33 O (sz_31 _) O) O<|Qw.val (fun w1 hq=>Aj (ag_31 _) O (Blk.bs (by assumption) hq) O) O ?_
    refine Qw.val (fun w1 hq=>Ad O) O<|Qw.val (fun w1 hq=>Ba st_31 O O (Sl.bs h_t2 hq) i O hi') O<|Qw.val (fun w1 hq=>Bg (ag_21 _) O (Sl.bs (by assumption) hq) (by omega)) O ?_
    refine Qw.val (fun w1 hq=>Ba st_31 O O (Sl.bs y_m hq) (sig t.s o i) hk2 (by omega)) O ?_
    refine Cj (fun w16 hq=> ?_)
    refine Ay ((M.bs hq).st (sz_21 _) O O (by omega)) ?_
    rintro w17 ⟨M2,hg2, -⟩
    have hw2:=(M.bs hq).below (hw.trans (hq.mono (by omega))) (by omega) hg2
    refine Af<|Bo<|Aa<|Cw.out<|Ab<|Lw.val (Ad O) O<|Lw.val (Bc O O (by omega)) O<|Lw.val (Ac O) O<|Af ?_
    exact Aa (Bq ((i+1,m.set (sig t.s o i) (t.l.getD i default))) ⟨rfl,rfl,rfl,rfl,rfl,trivial⟩ (⟨hi',hw2,M2,by rw [List.length_set];exact lm,hs3⟩) (by simp only;omega))
   ·refine Al O O (rturned_c a v (Shapes.place t.s (i:Int)) o _ ha h_v (fun j hj=>by rw [lp,← hl];exact ord_in ho hj) (by omega)) ?_
    rintro p w14 ⟨hn,hp⟩
    have M:=M.bs hn
    have h_v:=h_v.bs hn
    have h_t:=h_t.bs hn
    have b_t:=b_t.bs hn
    have b_r:=b_r.bs hn
    have hw:=hw.trans (hn.mono (by omega))
    have zw2:=hw.size
    have b_m:=M.box
    have y_m:=M.sly
    have x_m:=M.row.slT
    have h_t2:=h_t.2
    clear hn
    rw [← turn_length (Shapes.place t.s (i:Int)) o] at hp
    have s_p:=own_slT hp
    refine Aw.back<|Aw.only (i:=1) (by kernel_rfl) O<|Lw.val (Aj (ag_23 _) O (by assumption) O) O ?_
    refine Aw.back<|Aw.only (i:=5) (by kernel_rfl) O<|Al O O (rindex_c (turn t.s o) (turn (Shapes.place t.s (i:Int)) o) x p _ x_m s_p) ?_
    rintro _ w15 ⟨rfl,hn⟩
    rw [index_yes okT tin]
    have M:=M.bs hn
    have h_v:=h_v.bs hn
    have h_t:=h_t.bs hn
    have b_t:=b_t.bs hn
    have b_r:=b_r.bs hn
    have hw:=hw.trans (hn.mono (by omega))
    have zw2:=hw.size
    have b_m:=M.box
    have y_m:=M.sly
    have x_m:=M.row.slT
    have h_t2:=h_t.2
    clear hn
    refine Aw.back<|Aw.take (i:=6) (Ah (NoP.blk (Ah (Ah (NoP.blk (Ah Ar)))))) O (by kernel_rfl) (by kernel_rfl) (by kernel_rfl) (fun _=>Ad O) O<|Aw.take (i:=7) (Ah (NoP.blk (Ah (Ah (NoP.blk (Ah Ar)))))) O (by kernel_rfl) (by kernel_rfl) (by kernel_rfl) (fun _=>Ax (i:=0) O O) O<|Aw.take (i:=8) (Ah (NoP.blk (Ah (Ah (NoP.blk (Ah Ar)))))) O (by kernel_rfl) (by kernel_rfl) (by kernel_rfl) (fun _=>Ax (i:=1) O O) O<|Aw.take (i:=9) (Ah (NoP.blk (Ah (Ah (NoP.blk (Ah Ar)))))) O (by kernel_rfl) (by kernel_rfl) (by kernel_rfl) (fun _=>Ac O) O<|Aw.take (i:=10) (Ah (NoP.blk (Ah (Ah (NoP.blk (Ah Ar)))))) O (by kernel_rfl) (by kernel_rfl) (by kernel_rfl) (fun _=>Ac O) O<|C1 (by kernel_rfl)<|Aa<|Cw.out<|Cw.tail 9 mixed (by kernel_rfl)<|Qw.val (fun w1 hq=>Ag (q:=0) Tryz.underlying33 O (sz_31 _) O) O<|Qw.val (fun w1 hq=>Aj (ag_31 _) O (Blk.bs (by assumption) hq) O) O ?_
    refine Qw.val (fun w1 hq=>Ad O) O<|Qw.val (fun w1 hq=>Ag (q:=0) Tryz.underlying33 O (sz_31 _) O) O<|Qw.val (fun w1 hq=>Aj (ag_31 _) O (Blk.bs (by assumption) hq) O) O ?_
    refine Qw.val (fun w1 hq=>Ad O) O<|Qw.val (fun w1 hq=>Ba st_31 O O (Sl.bs h_t2 hq) i O hi') O<|Qw.val (fun w1 hq=>Bg (ag_21 _) O (Sl.bs (by assumption) hq) (by omega)) O ?_
    refine Qw.val (fun w1 hq=>Ba st_31 O O (Sl.bs y_m hq) (sig t.s o i) hk2 (by omega)) O ?_
    refine Cj (fun w16 hq=> ?_)
    refine Ay ((M.bs hq).st (sz_21 _) O O (by omega)) ?_
    rintro w17 ⟨M2,hg2, -⟩
    have hw2:=(M.bs hq).below (hw.trans (hq.mono (by omega))) (by omega) hg2
    refine Af<|Bo<|Aa<|Cw.out<|Ab<|Lw.val (Ad O) O<|Lw.val (Bc O O (by omega)) O<|Lw.val (Ac O) O<|Af ?_
    exact Aa (Bq ((i+1,m.set (sig t.s o i) (t.l.getD i default))) ⟨rfl,rfl,rfl,rfl,rfl,trivial⟩ (⟨hi',hw2,M2,by rw [List.length_set];exact lm,hs3⟩) (by simp only;omega))
  intro g
  have hi' :i=t.l.length:=by have:=of_decide_eq_false g;omega
  subst hi'
  have em:m=tuL t.s t.l o:=scatter hs ho hl lm fun j hj=>hs2 j (by omega)
  refine Bi<|Am<|Am<|Az<|Aa<|Cw.out<|Ae<|Ab<|Lw.val (Bw (ag_33 _) (sz_33 _) O O (by assumption)) O ?_
  refine Ay (Bp (cs:=[x,y]) O O O O (mine_at M).one b_r O) ?_
  rintro w12 ⟨b_r2,hg, -⟩
  have M2:=M.keep hg (by rintro _ ⟨⟩;exact .inl q_r)
  have hB3:=hB2.grown hg (below_size hB2) (by rintro _ ⟨⟩;omega)
  refine Lw.val (Ac O) O<|Af<|Aa<|Cw.out<|An<|Bf O O O (by assumption) (Tryz.underlying33) O O O ?_
  rw [em] at M2
  exact ⟨hB3,x,y,rfl,fun h=>absurd rfl h,fun _=>⟨M2.row.mono (by omega), .inl (own_mono M2.lst.own (by omega)),M2.yx⟩⟩
 exact absurd okT (by rw [hk];decide)
end Go.Proofs.YtmipoeanpnnjoaaGreatDoor

/-! Contract: the document's sums along a direction. -/
namespace Go.Proofs.YtmipoeanpnnjoaaGreatDoor
open Go Go.Dd Go.RowKit
set_option maxRecDepth 100000

/-- Where a number is added. -/
def kap (s:List Int) (k i:Nat):Nat:=(Shapes.idx (wo s k) (wo (Shapes.place s (i:Int)) k)).toNat
theorem wo_in {s p:List Int} {k:Nat} (hs:Shapes.good s) (hk:k<s.length) (hp:Shapes.inn s p=true):∃X C d:Nat,
  Shapes.inn (wo s k) (wo p k)=true∧Shapes.idx (wo s k) (wo p k)=((X*(Shapes.prod (s.drop (k+1))).toNat+C:Nat):Int)∧
  Shapes.idx s p=((X*((s.getD k default).toNat*(Shapes.prod (s.drop (k+1))).toNat)+(d*(Shapes.prod (s.drop (k+1))).toNat+C):Nat):Int)∧X<(Shapes.prod (s.take k)).toNat∧d<(s.getD k default).toNat∧C<(Shapes.prod (s.drop (k+1))).toNat:=by
 have lp:=Shapes.inn_length hp
 have hkp:k<p.length:=by omega
 have gt:Shapes.good (s.take k):=fun y hy=>hs y (List.mem_of_mem_take hy)
 have gd:=Shapes.good_drop hs (k+1)
 have l1:(p.take k).length=(s.take k).length:=by rw [List.length_take,List.length_take];omega
 have hp2:=hp
 rw [split_at hk,split_at hkp,Shapes.inn_append l1,Bool.and_eq_true] at hp2
 obtain ⟨i1,i2⟩:=hp2
 simp only [Shapes.inn,Bool.and_eq_true,decide_eq_true_eq] at i2
 obtain ⟨⟨d0,d1⟩,i2⟩:=i2
 have b1:=Shapes.idx_lt gt i1
 have b2:=Shapes.idx_lt gd i2
 have e1:Shapes.idx (wo s k) (wo p k)=Shapes.idx (s.take k) (p.take k)*Shapes.prod (s.drop (k+1))+Shapes.idx (s.drop (k+1)) (p.drop (k+1)):=Shapes.idx_append l1
 have e2:Shapes.idx s p=Shapes.idx (s.take k) (p.take k)*(s.getD k default*Shapes.prod (s.drop (k+1)))+(p.getD k default*Shapes.prod (s.drop (k+1))+Shapes.idx (s.drop (k+1)) (p.drop (k+1))):=by
  have e:Shapes.idx s p=Shapes.idx (s.take k++s.getD k default::s.drop (k+1)) (p.take k++p.getD k default::p.drop (k+1)):=by rw [← split_at hk,← split_at hkp]
  rw [e,Shapes.idx_append l1];rfl
 have io:Shapes.inn (wo s k) (wo p k)=true:=by
  unfold wo
  rw [Shapes.inn_append l1,i1,i2];rfl
 obtain ⟨X,hX⟩:=Int.eq_ofNat_of_zero_le b1.1
 obtain ⟨C,hC⟩:=Int.eq_ofNat_of_zero_le b2.1
 obtain ⟨d,hd⟩:=Int.eq_ofNat_of_zero_le d0
 obtain ⟨a,ha⟩:=Int.eq_ofNat_of_zero_le (show 0≤Shapes.prod (s.drop (k+1)) by omega)
 obtain ⟨n,hn⟩:=Int.eq_ofNat_of_zero_le (show 0≤s.getD k default by omega)
 rw [hX,ha,hC] at e1
 rw [hX,hn,ha,hC,hd] at e2
 refine ⟨X,C,d,io, ?_, ?_,by omega,by omega,by omega⟩
 ·rw [e1,ha,Int.toNat_natCast];push_cast;rfl
 ·rw [e2,ha,hn,Int.toNat_natCast,Int.toNat_natCast];push_cast;rfl
theorem nat_kap {X n a d C:Nat} (hd:d<n) (hC:C<a):(X*(n*a)+(d*a+C)) / (n*a)=X∧(X*(n*a)+(d*a+C)) % a=C:=by
 have h1:d*a+C<n*a:=rc_lt hd hC
 refine ⟨?_, ?_⟩
 ·rw [Nat.mul_comm X,Nat.mul_add_div (by omega),Nat.div_eq_of_lt h1];omega
 ·have e:X*(n*a)+(d*a+C)=a*(X*n+d)+C:=by rw [Nat.mul_add,← Nat.mul_assoc,Nat.mul_comm a (X*n),Nat.mul_comm a d];omega
  rw [e,Nat.mul_add_mod,Nat.mod_eq_of_lt hC]
theorem kap_eq {s:List Int} {k i:Nat} (hs:Shapes.ok s=true) (hk:k<s.length) (hi:(i:Int)<Shapes.prod s):
  kap s k i=i / ((s.getD k default).toNat*(Shapes.prod (s.drop (k+1))).toNat)*(Shapes.prod (s.drop (k+1))).toNat+i % (Shapes.prod (s.drop (k+1))).toNat∧
  Shapes.inn (wo s k) (wo (Shapes.place s (i:Int)) k)=true:=by
 have S:=(Shapes.ok_iff s).1 hs
 obtain ⟨X,C,d,io,e1,e2, -,hd,hC⟩:=wo_in S.2.1 hk (Shapes.place_in (i:=(i:Int)) (by omega) S.2.1)
 rw [Shapes.idx_place (by omega) S.2.1,Int.emod_eq_of_lt (by omega) hi] at e2
 have e2:i=X*((s.getD k default).toNat*(Shapes.prod (s.drop (k+1))).toNat)+(d*(Shapes.prod (s.drop (k+1))).toNat+C):=by exact_mod_cast e2
 obtain ⟨n1,n2⟩:=nat_kap (X:=X) hd hC
 rw [← e2] at n1 n2
 refine ⟨?_,io⟩
 unfold kap
 rw [e1,Int.toNat_natCast,n1,n2]
/-- Sums along a direction, picked from all. -/
theorem sm_pick {P n a X C:Nat} (hX:X<P) (hC:C<a) (f:Nat→BitVec 32):
  sm (P*(n*a)) (fun i=>if i / (n*a)*a+i % a=X*a+C then f i else 0#32)=sm n fun j=>f (X*(n*a)+(j*a+C)):=by
 have key:∀Y j D,Y<P→j<n→D<a→(if (Y*(n*a)+(j*a+D)) / (n*a)*a+(Y*(n*a)+(j*a+D)) % a=X*a+C then f (Y*(n*a)+(j*a+D)) else 0#32)=if Y=X∧D=C then f (Y*(n*a)+(j*a+D)) else 0#32:=fun Y j D _ hj hD=>by
  obtain ⟨n1,n2⟩:=nat_kap (X:=Y) hj hD
  rw [n1,n2]
  by_cases e:Y*a+D=X*a+C
  ·have h1:(Y*a+D) / a=(X*a+C) / a:=by rw [e]
   have q1:(Y*a+D) / a=Y:=by rw [Nat.mul_comm,Nat.mul_add_div (by omega),Nat.div_eq_of_lt hD];omega
   have q2:(X*a+C) / a=X:=by rw [Nat.mul_comm,Nat.mul_add_div (by omega),Nat.div_eq_of_lt hC];omega
   rw [q1,q2] at h1
   subst h1
   rw [if_pos e,if_pos ⟨rfl,by omega⟩]
  ·rw [if_neg e,if_neg (by rintro ⟨rfl,rfl⟩;exact e rfl)]
 rw [sm_block]
 have e1:sm P (fun Y=>sm (n*a) fun y=>(if (Y*(n*a)+y) / (n*a)*a+(Y*(n*a)+y) % a=X*a+C then f (Y*(n*a)+y) else 0#32))=sm P fun Y=>sm n fun j=>sm a fun D=>if Y=X∧D=C then f (Y*(n*a)+(j*a+D)) else 0#32:=
  sm_congr fun Y hY=>by
   rw [sm_block]
   exact sm_congr fun j hj=>sm_congr fun D hD=>key Y j D hY hj hD
 rw [e1,sm_one (k:=X) fun Y _ hne=>sm_zero fun j _=>sm_zero fun D _=>if_neg (fun h=>hne h.1),if_pos hX]
 refine sm_congr fun j _=> ?_
 rw [sm_one (k:=C) fun D _ hne=>if_neg (fun h=>hne h.2),if_pos hC,if_pos ⟨rfl,rfl⟩]
theorem gather {s:List Int} {k:Nat} {l m:List (BitVec 32)} (hs:Shapes.ok s=true) (hk:k<s.length) (hl:l.length=(Shapes.prod s).toNat) (hm:m.length=(Shapes.prod (wo s k)).toNat)
  (h:∀c,c<m.length→m.getD c default=sm l.length fun j=>if kap s k j=c then l.getD j default else 0#32):m=suL s l k:=by
 have S:=(Shapes.ok_iff s).1 hs
 refine pl_ext (wo_good S.2.1) hm (suL_length hs hk) fun r hr=> ?_
 obtain ⟨hl2,l1,i1,i2⟩:=wo_inn hk hr
 have d:=dim_at S.2.1 hk
 rw [su_at hs hk hr]
 have il:=Shapes.idx_lt (wo_good (k:=k) S.2.1) hr
 have b1:=Shapes.idx_lt (fun y hy=>S.2.1 y (List.mem_of_mem_take hy)) i1
 have b2:=Shapes.idx_lt (Shapes.good_drop S.2.1 (k+1)) i2
 have e1:Shapes.idx (wo s k) r=Shapes.idx (s.take k) (r.take k)*Shapes.prod (s.drop (k+1))+Shapes.idx (s.drop (k+1)) (r.drop k):=by
  rw [← Shapes.idx_append l1,List.take_append_drop];rfl
 have e2:∀j:Int,Shapes.idx s (ins k j r)=Shapes.idx (s.take k) (r.take k)*(s.getD k default*Shapes.prod (s.drop (k+1)))+(j*Shapes.prod (s.drop (k+1))+Shapes.idx (s.drop (k+1)) (r.drop k)):=fun j=>by
  have e:Shapes.idx s (ins k j r)=Shapes.idx (s.take k++s.getD k default::s.drop (k+1)) (r.take k++j::r.drop k):=by rw [← split_at hk];rfl
  rw [e,Shapes.idx_append l1];rfl
 have es:=prod_split hk
 obtain ⟨X,hX⟩:=Int.eq_ofNat_of_zero_le b1.1
 obtain ⟨C,hC⟩:=Int.eq_ofNat_of_zero_le b2.1
 obtain ⟨a,ha⟩:=Int.eq_ofNat_of_zero_le (show 0≤Shapes.prod (s.drop (k+1)) by omega)
 obtain ⟨n,hn⟩:=Int.eq_ofNat_of_zero_le (show 0≤s.getD k default by omega)
 obtain ⟨P,hP⟩:=Int.eq_ofNat_of_zero_le (show 0≤Shapes.prod (s.take k) by omega)
 have hc:(Shapes.idx (wo s k) r).toNat=X*a+C:=by
  rw [e1,hX,ha,hC]
  exact (congrArg Int.toNat (show (X:Int)*a+C=((X*a+C:Nat):Int) by push_cast;rfl)).trans (Int.toNat_natCast _)
 have hL:l.length=P*(n*a):=by
  rw [hl,es,hP,hn,ha]
  exact (congrArg Int.toNat (show (P:Int)*(n*a)=((P*(n*a):Nat):Int) by push_cast;rfl)).trans (Int.toNat_natCast _)
 have hj:∀j:Nat,pl s l (ins k (j:Int) r)=l.getD (X*(n*a)+(j*a+C)) default:=fun j=>by
  unfold pl
  rw [e2,hX,hn,ha,hC,show (X:Int)*((n:Int)*a)+((j:Int)*a+C)=((X*(n*a)+(j*a+C):Nat):Int) by push_cast;rfl,Int.toNat_natCast]
 have hm2:(Shapes.idx (wo s k) r).toNat<m.length:=by rw [hm];omega
 have e3:=h _ hm2
 unfold pl
 rw [e3,hc,hL]
 have e4:sm (P*(n*a)) (fun j=>if kap s k j=X*a+C then l.getD j default else 0#32)=sm (P*(n*a)) fun j=>if j / (n*a)*a+j % a=X*a+C then l.getD j default else 0#32:=sm_congr fun j hj=>by
  have:=(kap_eq hs hk (i:=j) (by omega)).1
  rw [hn,ha,Int.toNat_natCast,Int.toNat_natCast] at this
  rw [this]
 rw [e4,sm_pick (by omega) (by omega) fun i=>l.getD i default,hn,Int.toNat_natCast]
 exact sm_congr fun j _=>(hj j).symm
theorem sum_set {s:List Int} {k i c:Nat} {l m:List (BitVec 32)} (hm:∀c,c<m.length→m.getD c default=sm i fun j=>if kap s k j=c then l.getD j default else 0#32) (hk:kap s k i<m.length) (hc:c<m.length):
  (m.set (kap s k i) (m.getD (kap s k i) default+l.getD i default)).getD c default=sm (i+1) fun j=>if kap s k j=c then l.getD j default else 0#32:=by
 show _=(sm i fun j=>if kap s k j=c then l.getD j default else 0#32)+(if kap s k i=c then l.getD i default else 0#32)
 by_cases e:kap s k i=c
 ·subst e
  rw [getD_set hk,hm _ hk];simp
 ·rw [List.getD_eq_getElem?_getD,List.getElem?_set_ne e,← List.getD_eq_getElem?_getD,hm c hc,if_neg e];simp
theorem rmsum_c (t:T4) (al:Int) (W:World) (h_t:t.at W):
  Fnc Tryz.prog 45 [t.v, .int .i64 al] W (fun r w' =>Below W.heap.size W w' ∧AnsK W w' r (suE t al) (without t.s al.toNat) (suL t.s t.l al.toNat)):=by
 have hB:=Below.refl W.heap.size W
 refine Ap (n:=77) Tryz.func45 (by kernel_rfl) O O O<|Ae<|Ab<|Bv (cs:=[t.x,t.y]) O O O ?_
 rintro A_t w eA_t b_t hn -
 replace hB:=hB.bs hn
 replace h_t:=h_t.bs hn
 clear hn
 have z0:=below_size hB
 have y_t:=blk_lt b_t
 refine B8 it_33 O ?_
 rintro A_r w eA_r b_r hn -
 replace hB:=hB.bs hn
 replace h_t:=h_t.bs hn
 replace b_t:=b_t.bs hn
 clear hn
 refine Lw.val (Ac O) O<|Af<|Aa<|Cw.out<|Ae<|Ae<|Ab<|Lw.val (Bw (ag_33 _) (sz_33 _) O O (by assumption)) O ?_
 have z_r:=blk_lt b_r
 have h_t1:=h_t.1
 have h_t2:=h_t.2
 refine Al O O (rtcheck_c t.x t.y t.s t.l _ h_t.1 h_t.2) ?_
 rintro _ w ⟨rfl,hn⟩
 replace hB:=hB.bs hn
 replace h_t:=h_t.bs hn
 replace b_t:=b_t.bs hn
 replace b_r:=b_r.bs hn
 replace h_t1:=h_t1.bs hn
 replace h_t2:=h_t2.bs hn
 clear hn
 refine Lw.val (Bx O) O<|Lw.val (Ad O) O ?_
 refine Bt 15 O ?_ ?_
 ·intro g
  refine Ai (dj:=15) O O O O<|Ai (dj:=15) O O O O<|Lw.val (As O O) O<|Lw.val (Ad O) O<|Ai (dj:=19) O O O O<|Ai (dj:=19) O O O O<|Ai (dj:=19) O O O O<|Ai (dj:=19) O O O O<|Ai (dj:=19) O O O O<|Lw.val (As O O) O<|Af<|Aa<|Cw.out<|Br O<|Ae<|Ab<|Lw.val (Bn (vs:=[]) (cs:=[.slice none 0 0, .slice none 0 0]) O (by kernel_rfl)) O<|Ay (Bp (cs:=[.slice none 0 0, .slice none 0 0]) O O O O O b_r O) ?_
  rintro w3 ⟨b_r,hg, -⟩
  have hB:=hB.grown hg (below_size hB) (by rintro _ ⟨⟩;omega)
  refine Lw.val (Ac O) O<|Af<|Aa<|Cw.out<|An<|Ak<|Bf O O O (by assumption) (Tryz.underlying33) O O O ?_
  rw [show suE t al=1 by simp_all [suE]]
  exact ⟨hB,ansK_no (by decide)⟩
 intro g1
 have k_t:tok t.s t.l=true:=by simpa using g1
 have S:=(Shapes.ok_iff t.s).1 (tok_ok k_t).1
 refine Lw.take (dj:=15) O O<|Lw.val (Ad O) O<|Lw.take (dj:=15) O O<|Lw.val (Bh O O) O<|Lw.val (Bd O O) O<|Lw.val (Ad O) O ?_
 refine Bt 19 O ?_ ?_
 ·intro g
  have g:=of_decide_eq_true g
  refine Ai (dj:=19) O O O O<|Ai (dj:=19) O O O O<|Ai (dj:=19) O O O O<|Ai (dj:=19) O O O O<|Ai (dj:=19) O O O O<|Lw.val (As O O) O<|Af<|Aa<|Cw.out<|Br O<|Ae<|Ab<|Lw.val (Bn (vs:=[]) (cs:=[.slice none 0 0, .slice none 0 0]) O (by kernel_rfl)) O<|Ay (Bp (cs:=[.slice none 0 0, .slice none 0 0]) O O O O O b_r O) ?_
  rintro w3 ⟨b_r,hg, -⟩
  have hB:=hB.grown hg (below_size hB) (by rintro _ ⟨⟩;omega)
  refine Lw.val (Ac O) O<|Af<|Aa<|Cw.out<|An<|Ak<|Bf O O O (by assumption) (Tryz.underlying33) O O O ?_
  rw [show suE t al=1 by unfold suE;rw [decide_eq_false (show ¬0≤al by omega),Bool.and_false,Bool.false_and];rfl]
  exact ⟨hB,ansK_no (by decide)⟩
 intro g2
 have g2:=of_decide_eq_false g2
 refine Lw.take (dj:=19) O O<|Lw.val (Ad O) O<|Lw.take (dj:=19) O O<|Lw.val (Ag (q:=0) Tryz.underlying33 O (sz_23 _) O) O<|Lw.take (dj:=19) O O<|Lw.val (Aj (ag_23 _) O (by assumption) O) O ?_
 refine Lw.take (dj:=19) O O<|Lw.val (Av st_23 O (by assumption)) O ?_
 refine Lw.take (dj:=19) O O<|Lw.val (Cu O O) O<|Lw.val (Bd O O) O<|Af<|Aa<|Cw.out<|Au O ?_ ?_
 ·intro g
  have g:=of_decide_eq_true g
  refine Ae<|Ab<|Lw.val (Bn (vs:=[]) (cs:=[.slice none 0 0, .slice none 0 0]) O (by kernel_rfl)) O<|Ay (Bp (cs:=[.slice none 0 0, .slice none 0 0]) O O O O O b_r O) ?_
  rintro w3 ⟨b_r,hg, -⟩
  have hB:=hB.grown hg (below_size hB) (by rintro _ ⟨⟩;omega)
  refine Lw.val (Ac O) O<|Af<|Aa<|Cw.out<|An<|Ak<|Bf O O O (by assumption) (Tryz.underlying33) O O O ?_
  rw [show suE t al=1 by unfold suE;rw [decide_eq_false (show ¬al<(t.s.length:Int) by omega),Bool.and_false];rfl]
  exact ⟨hB,ansK_no (by decide)⟩
 intro g3
 have g3:=of_decide_eq_false g3
 obtain ⟨k,rfl⟩:∃k:Nat,al=(k:Int):=⟨al.toNat,by omega⟩
 have hk:k<t.s.length:=by omega
 have hs:=(tok_ok k_t).1
 have okW:=without_ok hs hk
 have hE:suE t (k:Int)=0:=by unfold suE;rw [k_t,decide_eq_true (show (0:Int)≤(k:Int) by omega),decide_eq_true (show (k:Int)<(t.s.length:Int) by omega)];rfl
 rw [hE,Int.toNat_natCast]
 have lenl:t.l.length=(Shapes.prod t.s).toNat:=by rw [(tok_ok k_t).2,Shapes.size_ok hs]
 clear g1 g2 g3
 refine Aq<|Aa<|Cw.out<|Ae<|Ab<|Lw.val (Ag (q:=0) Tryz.underlying33 O (sz_23 _) O) O<|Lw.val (Aj (ag_23 _) O (by assumption) O) O ?_
 refine Lw.val (Ad O) O<|Al O O (rwithout_c t.x t.s k _ h_t1 hk S.1.2) ?_
 rintro u w ⟨hn,hu⟩
 have s_u:=own_slT hu
 replace hB:=hB.bs hn
 replace h_t:=h_t.bs hn
 replace b_t:=b_t.bs hn
 replace b_r:=b_r.bs hn
 replace h_t1:=h_t1.bs hn
 replace h_t2:=h_t2.bs hn
 clear hn hu
 refine Al O O (rnew_c u (without t.s k) _ s_u) ?_
 rintro _ w7 ⟨hn7,⟨hk',x,y,rfl,hm⟩|⟨hk',rfl⟩⟩
 ·refine Lw.val (Ad O) O<|Lw.val (Ax (i:=0) O O) O<|Lw.val (Ax (i:=1) O O) O<|Cb (cs:=[x,y]) it_33 O O O O (fun _=>rfl) (hm.one) ?_
  rintro A_m w8 eA_m b_m hn8 zhn8
  have M:=mine_new hm eA_m b_m hn8 zhn8 hn7.size
  have hw8:=bt hn7 hn8
  have zw:=hw8.size
  have zB:=below_size hB
  have p_t:=h_t
  have q_t:=blk_lt b_t
  have q_r:=blk_lt b_r
  replace hB:=hB.bs hw8
  replace h_t:=h_t.bs hw8
  replace b_t:=b_t.bs hw8
  replace b_r:=b_r.bs hw8
  replace h_t1:=h_t1.bs hw8
  replace h_t2:=h_t2.bs hw8
  replace s_u:=s_u.bs hw8
  clear hm b_m hn7 hn8 eA_m zhn8 hw8
  obtain ⟨zs,hzs⟩:∃l,l=List.replicate (Shapes.size (without t.s k)).toNat 0#32:=⟨_,rfl⟩
  rw [← hzs] at M
  have n2:zs.length=(Shapes.prod (wo t.s k)).toNat:=by rw [hzs,Shapes.size_ok okW,wo_prod hk];simp
  have n3:∀c,c<zs.length→zs.getD c default=sm 0 fun j=>if kap t.s k j=c then t.l.getD j default else 0#32:=fun c hc=>by
   rw [hzs] at hc ⊢
   simp at hc
   simp [sm,hc]
  have b_m:=M.box
  have y_m:=M.sly
  refine Lw.val (Ac O) O<|Af<|Aa<|Cw.out<|Ae<|Ae<|Ab<|Lw.val (Ac O) O<|Af<|Aa<|Cw.out<|Cw.block ?_
  refine Bj (S:=(Nat×List (BitVec 32))) (fun z=>[(1, .int .i64 (k:Int)),(2, .pointer (some ⟨A_t,0,none⟩)),(4, .pointer (some ⟨A_r,0,none⟩)),(6, .pointer (some ⟨A_m,0,none⟩)),(8, .int .i64 (z.1:Int))]) (fun z w' =>z.1≤t.l.length∧Below w.heap.size w8 w' ∧MineT w' w.heap.size w8.heap.size A_m x y (without t.s k) z.2∧z.2.length=(Shapes.prod (wo t.s k)).toNat∧(∀c,c<z.2.length→z.2.getD c default=sm z.1 fun j=>if kap t.s k j=c then t.l.getD j default else 0#32)) (fun z=>t.l.length - z.1) ((0,zs)) ⟨rfl,rfl,rfl,rfl,rfl,trivial⟩ ?_ ?_
  ·exact ⟨Nat.zero_le _,Below.refl _ _,M,n2,n3⟩
  clear M b_m y_m n3
  rintro ⟨i,m⟩ w11 ⟨hi,hw,M,lm,hs2⟩
  dsimp only at hi M lm hs2 ⊢
  have hB2:=hB.trans (hw.mono (by omega))
  have zw2:=hw.size
  have h_t:=at_stay p_t h_t (Nat.le_refl _) hw
  have b_t:=b_t.bl hw q_t
  have b_r:=b_r.bl hw q_r
  have b_m:=M.box
  have y_m:=M.sly
  have h_t2:=h_t.2
  clear h_t1 p_t
  refine Ae<|Ae<|Ab<|Lw.val (Ad O) O<|Lw.val (Ag (q:=0) Tryz.underlying33 O (sz_31 _) O) O<|Lw.val (Aj (ag_31 _) O (by assumption) O) O ?_
  refine Lw.val (Av st_31 O (by assumption)) O ?_
  refine Lw.val (Bh O O) O<|Af<|Aa<|Cw.out<|Au O ?_ ?_
  ·intro g
   have hi' :i<t.l.length:=by have:=of_decide_eq_true g;omega
   have hip:(i:Int)<Shapes.prod t.s:=by omega
   obtain ⟨-,tin⟩:=kap_eq hs hk hip
   have lp:=Shapes.place_length t.s (i:Int)
   have slt0:=Shapes.idx_lt (wo_good (k:=k) S.2.1) tin
   have hkl:kap t.s k i<m.length:=by rw [lm];unfold kap;omega
   have hke:((kap t.s k i:Nat):Int)=Shapes.idx (wo t.s k) (wo (Shapes.place t.s (i:Int)) k):=Int.toNat_of_nonneg slt0.1
   have lenM:(m.set (kap t.s k i) (m.getD (kap t.s k i) default+t.l.getD i default)).length=(Shapes.prod (wo t.s k)).toNat:=by rw [List.length_set];exact lm
   have hs3:∀c,c<(m.set (kap t.s k i) (m.getD (kap t.s k i) default+t.l.getD i default)).length→(m.set (kap t.s k i) (m.getD (kap t.s k i) default+t.l.getD i default)).getD c default=sm (i+1) fun j=>if kap t.s k j=c then t.l.getD j default else 0#32:=fun c hc=>sum_set hs2 hkl (by rwa [List.length_set] at hc)
   refine Aq<|Aa<|Cw.out<|Ae<|Cw.block<|Ae<|Ab<|Lw.val (Ag (q:=0) Tryz.underlying33 O (sz_23 _) O) O<|Lw.val (Aj (ag_23 _) O (by assumption) O) O ?_
   refine Lw.val (Ad O) O<|Al O O (rat_c t.s t.x (i:Int) w11 h_t.1) ?_
   rintro _ w12 ⟨hn,a,rfl,ha⟩
   rw [show Shapes.atl t.s (i:Int)=Shapes.place t.s (i:Int) by unfold Shapes.atl;rw [if_pos ⟨by omega,by rw [Shapes.size_ok hs];exact hip⟩]] at ha
   have M:=M.bs hn
   have h_t:=h_t.bs hn
   have b_t:=b_t.bs hn
   have b_r:=b_r.bs hn
   have hw:=hw.trans (hn.mono (by omega))
   have zw2:=hw.size
   have b_m:=M.box
   have y_m:=M.sly
   have x_m:=M.row.slT
   have h_t2:=h_t.2
   clear hn
   refine Lw.val (Ad O) O<|Lw.val (Ax (i:=0) O O) O<|Lw.val (Ax (i:=1) O O) O<|Lw.val (Ac O) O<|Lw.val (Ac O) O<|Af<|Aa<|Cw.out<|Ae<|Ab<|Lw.val (Ac O) O<|Af<|Aa<|Cw.out<|Ae<|Ae<|Ab<|Lw.val (Ad O) O<|Lw.val (Av st_23 O (by assumption)) O ?_
   refine Lw.val (Cr O O) O<|Af<|Aa<|Cw.out<|Au O ?_ ?_
   ·intro g4
    have g4:1<t.s.length:=by have:=of_decide_eq_true g4;omega
    have v1:=without_wo (s:=t.s) (k:=k) (by omega)
    have v2:=without_wo (s:=Shapes.place t.s (i:Int)) (k:=k) (by omega)
    have tin2:Shapes.inn (without t.s k) (without (Shapes.place t.s (i:Int)) k)=true:=by rw [v1,v2];exact tin
    have hk2:Shapes.idx (without t.s k) (without (Shapes.place t.s (i:Int)) k)=((kap t.s k i:Nat):Int):=by rw [v1,v2];exact hke.symm
    refine Cw.any mixed (fun w13 hd _=> ?_)
    have M:=M.bs hd
    have h_t:=h_t.bs hd
    have b_t:=b_t.bs hd
    have b_r:=b_r.bs hd
    have hw:=hw.trans (hd.mono (by omega))
    have zw2:=hw.size
    have b_m:=M.box
    have y_m:=M.sly
    have x_m:=M.row.slT
    have h_t2:=h_t.2
    have ha:=ha.bs hd
    clear hd
    refine Aw.take (i:=0) (Ah (NoP.blk (Ah (Ah (NoP.blk (Ah Ar)))))) O (by kernel_rfl) (by kernel_rfl) (by kernel_rfl) (fun _=>Ag (q:=0) Tryz.underlying33 O (sz_23 _) O) O<|Aw.take (i:=2) (Ah (NoP.blk (Ah (Ah (NoP.blk (Ah Ar)))))) O (by kernel_rfl) (by kernel_rfl) (by kernel_rfl) (fun _=>Ad O) O<|Aw.take (i:=3) (Ah (NoP.blk (Ah (Ah (NoP.blk (Ah Ar)))))) O (by kernel_rfl) (by kernel_rfl) (by kernel_rfl) (fun _=>Ad O) O ?_
    refine Aw.two (i:=1) (j:=4) (by kernel_rfl) O O ?_ ?_
    ·refine Lw.val (Aj (ag_23 _) O (by assumption) O) O ?_
     refine Aw.back<|Aw.only (i:=4) (by kernel_rfl) O<|Al O O (rwithout_c a (Shapes.place t.s (i:Int)) k _ ha (by omega) (by omega)) ?_
     rintro p w14 ⟨hn,hp⟩
     have M:=M.bs hn
     have h_t:=h_t.bs hn
     have b_t:=b_t.bs hn
     have b_r:=b_r.bs hn
     have hw:=hw.trans (hn.mono (by omega))
     have zw2:=hw.size
     have b_m:=M.box
     have y_m:=M.sly
     have x_m:=M.row.slT
     have h_t2:=h_t.2
     clear hn
     have s_p:=own_slT hp
     refine Aw.back<|Aw.only (i:=5) (by kernel_rfl) O<|Al O O (rindex_c (without t.s k) (without (Shapes.place t.s (i:Int)) k) x p _ x_m s_p) ?_
     rintro _ w15 ⟨rfl,hn⟩
     rw [index_yes okW tin2]
     have M:=M.bs hn
     have h_t:=h_t.bs hn
     have b_t:=b_t.bs hn
     have b_r:=b_r.bs hn
     have hw:=hw.trans (hn.mono (by omega))
     have zw2:=hw.size
     have b_m:=M.box
     have y_m:=M.sly
     have x_m:=M.row.slT
     have h_t2:=h_t.2
     clear hn
     refine Aw.back<|Aw.take (i:=6) (Ah (NoP.blk (Ah (Ah (NoP.blk (Ah Ar)))))) O (by kernel_rfl) (by kernel_rfl) (by kernel_rfl) (fun _=>Ad O) O<|Aw.take (i:=7) (Ah (NoP.blk (Ah (Ah (NoP.blk (Ah Ar)))))) O (by kernel_rfl) (by kernel_rfl) (by kernel_rfl) (fun _=>Ax (i:=0) O O) O<|Aw.take (i:=8) (Ah (NoP.blk (Ah (Ah (NoP.blk (Ah Ar)))))) O (by kernel_rfl) (by kernel_rfl) (by kernel_rfl) (fun _=>Ax (i:=1) O O) O<|Aw.take (i:=9) (Ah (NoP.blk (Ah (Ah (NoP.blk (Ah Ar)))))) O (by kernel_rfl) (by kernel_rfl) (by kernel_rfl) (fun _=>Ac O) O<|C1 (by kernel_rfl)<|Aa<|Cw.out<|Cw.tail 15 mixed (by kernel_rfl)<|Qw.val (fun w1 hq=>Ag (q:=0) Tryz.underlying33 O (sz_31 _) O) O<|Qw.val (fun w1 hq=>Aj (ag_31 _) O (Blk.bs (by assumption) hq) O) O ?_
     refine Qw.val (fun w1 hq=>Ad O) O<|Qw.val (fun w1 hq=>Ag (q:=0) Tryz.underlying33 O (sz_31 _) O) O<|Qw.val (fun w1 hq=>Aj (ag_31 _) O (Blk.bs (by assumption) hq) O) O ?_
     refine Qw.val (fun w1 hq=>Ad O) O<|Qw.val (fun w1 hq=>Ba st_31 O O (Sl.bs y_m hq) (kap t.s k i) hk2 hkl) O<|Qw.val (fun w1 hq=>Bg (ag_21 _) O (Sl.bs y_m hq) hkl) O<|Qw.val (fun w1 hq=>Ag (q:=0) Tryz.underlying33 O (sz_31 _) O) O<|Qw.val (fun w1 hq=>Aj (ag_31 _) O (Blk.bs (by assumption) hq) O) O ?_
     refine Qw.val (fun w1 hq=>Ad O) O<|Qw.val (fun w1 hq=>Ba st_31 O O (Sl.bs h_t2 hq) i O hi') O<|Qw.val (fun w1 hq=>Bg (ag_21 _) O (Sl.bs (by assumption) hq) (by omega)) O ?_
     refine Qw.val (fun w1 hq=>Cy O O) O<|Qw.val (fun w1 hq=>Ba st_31 O O (Sl.bs y_m hq) (kap t.s k i) hk2 hkl) O ?_
     refine Cj (fun w16 hq=> ?_)
     refine Ay ((M.bs hq).st (sz_21 _) O O hkl) ?_
     rintro w17 ⟨M2,hg2, -⟩
     have hw2:=(M.bs hq).below (hw.trans (hq.mono (by omega))) (by omega) hg2
     refine Af<|Bo<|Aa<|Cw.out<|Ab<|Lw.val (Ad O) O<|Lw.val (Bc O O (by omega)) O<|Lw.val (Ac O) O<|Af ?_
     exact Aa (Bq ((i+1,m.set (kap t.s k i) (m.getD (kap t.s k i) default+t.l.getD i default))) ⟨rfl,rfl,rfl,rfl,rfl,trivial⟩ (⟨hi',hw2,M2,lenM,hs3⟩) (by simp only;omega))
    ·refine Al O O (rwithout_c a (Shapes.place t.s (i:Int)) k _ ha (by omega) (by omega)) ?_
     rintro p w14 ⟨hn,hp⟩
     have M:=M.bs hn
     have h_t:=h_t.bs hn
     have b_t:=b_t.bs hn
     have b_r:=b_r.bs hn
     have hw:=hw.trans (hn.mono (by omega))
     have zw2:=hw.size
     have b_m:=M.box
     have y_m:=M.sly
     have x_m:=M.row.slT
     have h_t2:=h_t.2
     clear hn
     have s_p:=own_slT hp
     refine Aw.back<|Aw.only (i:=1) (by kernel_rfl) O<|Lw.val (Aj (ag_23 _) O (by assumption) O) O ?_
     refine Aw.back<|Aw.only (i:=5) (by kernel_rfl) O<|Al O O (rindex_c (without t.s k) (without (Shapes.place t.s (i:Int)) k) x p _ x_m s_p) ?_
     rintro _ w15 ⟨rfl,hn⟩
     rw [index_yes okW tin2]
     have M:=M.bs hn
     have h_t:=h_t.bs hn
     have b_t:=b_t.bs hn
     have b_r:=b_r.bs hn
     have hw:=hw.trans (hn.mono (by omega))
     have zw2:=hw.size
     have b_m:=M.box
     have y_m:=M.sly
     have x_m:=M.row.slT
     have h_t2:=h_t.2
     clear hn
     refine Aw.back<|Aw.take (i:=6) (Ah (NoP.blk (Ah (Ah (NoP.blk (Ah Ar)))))) O (by kernel_rfl) (by kernel_rfl) (by kernel_rfl) (fun _=>Ad O) O<|Aw.take (i:=7) (Ah (NoP.blk (Ah (Ah (NoP.blk (Ah Ar)))))) O (by kernel_rfl) (by kernel_rfl) (by kernel_rfl) (fun _=>Ax (i:=0) O O) O<|Aw.take (i:=8) (Ah (NoP.blk (Ah (Ah (NoP.blk (Ah Ar)))))) O (by kernel_rfl) (by kernel_rfl) (by kernel_rfl) (fun _=>Ax (i:=1) O O) O<|Aw.take (i:=9) (Ah (NoP.blk (Ah (Ah (NoP.blk (Ah Ar)))))) O (by kernel_rfl) (by kernel_rfl) (by kernel_rfl) (fun _=>Ac O) O<|C1 (by kernel_rfl)<|Aa<|Cw.out<|Cw.tail 15 mixed (by kernel_rfl)<|Qw.val (fun w1 hq=>Ag (q:=0) Tryz.underlying33 O (sz_31 _) O) O<|Qw.val (fun w1 hq=>Aj (ag_31 _) O (Blk.bs (by assumption) hq) O) O ?_
     refine Qw.val (fun w1 hq=>Ad O) O<|Qw.val (fun w1 hq=>Ag (q:=0) Tryz.underlying33 O (sz_31 _) O) O<|Qw.val (fun w1 hq=>Aj (ag_31 _) O (Blk.bs (by assumption) hq) O) O ?_
     refine Qw.val (fun w1 hq=>Ad O) O<|Qw.val (fun w1 hq=>Ba st_31 O O (Sl.bs y_m hq) (kap t.s k i) hk2 hkl) O<|Qw.val (fun w1 hq=>Bg (ag_21 _) O (Sl.bs y_m hq) hkl) O<|Qw.val (fun w1 hq=>Ag (q:=0) Tryz.underlying33 O (sz_31 _) O) O<|Qw.val (fun w1 hq=>Aj (ag_31 _) O (Blk.bs (by assumption) hq) O) O ?_
     refine Qw.val (fun w1 hq=>Ad O) O<|Qw.val (fun w1 hq=>Ba st_31 O O (Sl.bs h_t2 hq) i O hi') O<|Qw.val (fun w1 hq=>Bg (ag_21 _) O (Sl.bs (by assumption) hq) (by omega)) O ?_
     refine Qw.val (fun w1 hq=>Cy O O) O<|Qw.val (fun w1 hq=>Ba st_31 O O (Sl.bs y_m hq) (kap t.s k i) hk2 hkl) O ?_
     refine Cj (fun w16 hq=> ?_)
     refine Ay ((M.bs hq).st (sz_21 _) O O hkl) ?_
     rintro w17 ⟨M2,hg2, -⟩
     have hw2:=(M.bs hq).below (hw.trans (hq.mono (by omega))) (by omega) hg2
     refine Af<|Bo<|Aa<|Cw.out<|Ab<|Lw.val (Ad O) O<|Lw.val (Bc O O (by omega)) O<|Lw.val (Ac O) O<|Af ?_
     exact Aa (Bq ((i+1,m.set (kap t.s k i) (m.getD (kap t.s k i) default+t.l.getD i default))) ⟨rfl,rfl,rfl,rfl,rfl,trivial⟩ (⟨hi',hw2,M2,lenM,hs3⟩) (by simp only;omega))
   intro g4
   have g4:t.s.length=1:=by have:=of_decide_eq_false g4;omega
   have hk0:(0:Int)=((kap t.s k i:Nat):Int):=by
    have lw:=wo_length hk
    have e:wo t.s k=[]:=List.eq_nil_of_length_eq_zero (by omega)
    rw [hke,e];simp [Shapes.idx]
   refine Aq<|Aa<|Cw.out<|Cw.tail 15 mixed (by kernel_rfl)<|Qw.val (fun w1 hq=>Ag (q:=0) Tryz.underlying33 O (sz_31 _) O) O<|Qw.val (fun w1 hq=>Aj (ag_31 _) O (Blk.bs (by assumption) hq) O) O ?_
   refine Qw.val (fun w1 hq=>Ad O) O<|Qw.val (fun w1 hq=>Ag (q:=0) Tryz.underlying33 O (sz_31 _) O) O<|Qw.val (fun w1 hq=>Aj (ag_31 _) O (Blk.bs (by assumption) hq) O) O ?_
   refine Qw.val (fun w1 hq=>Ad O) O<|Qw.val (fun w1 hq=>Ba st_31 O O (Sl.bs y_m hq) (kap t.s k i) hk0 hkl) O<|Qw.val (fun w1 hq=>Bg (ag_21 _) O (Sl.bs y_m hq) hkl) O<|Qw.val (fun w1 hq=>Ag (q:=0) Tryz.underlying33 O (sz_31 _) O) O<|Qw.val (fun w1 hq=>Aj (ag_31 _) O (Blk.bs (by assumption) hq) O) O ?_
   refine Qw.val (fun w1 hq=>Ad O) O<|Qw.val (fun w1 hq=>Ba st_31 O O (Sl.bs h_t2 hq) i O hi') O<|Qw.val (fun w1 hq=>Bg (ag_21 _) O (Sl.bs (by assumption) hq) (by omega)) O ?_
   refine Qw.val (fun w1 hq=>Cy O O) O<|Qw.val (fun w1 hq=>Ba st_31 O O (Sl.bs y_m hq) (kap t.s k i) hk0 hkl) O ?_
   refine Cj (fun w16 hq=> ?_)
   refine Ay ((M.bs hq).st (sz_21 _) O O hkl) ?_
   rintro w17 ⟨M2,hg2, -⟩
   have hw2:=(M.bs hq).below (hw.trans (hq.mono (by omega))) (by omega) hg2
   refine Af<|Bo<|Aa<|Cw.out<|Ab<|Lw.val (Ad O) O<|Lw.val (Bc O O (by omega)) O<|Lw.val (Ac O) O<|Af ?_
   exact Aa (Bq ((i+1,m.set (kap t.s k i) (m.getD (kap t.s k i) default+t.l.getD i default))) ⟨rfl,rfl,rfl,rfl,rfl,trivial⟩ (⟨hi',hw2,M2,lenM,hs3⟩) (by simp only;omega))
  intro g
  have hi' :i=t.l.length:=by have:=of_decide_eq_false g;omega
  subst hi'
  have em:m=suL t.s t.l k:=gather hs hk lenl lm hs2
  refine Bi<|Am<|Am<|Az<|Aa<|Cw.out<|Ae<|Ab<|Lw.val (Bw (ag_33 _) (sz_33 _) O O (by assumption)) O ?_
  refine Ay (Bp (cs:=[x,y]) O O O O (mine_at M).one b_r O) ?_
  rintro w12 ⟨b_r2,hg, -⟩
  have M2:=M.keep hg (by rintro _ ⟨⟩;exact .inl q_r)
  have hB3:=hB2.grown hg (below_size hB2) (by rintro _ ⟨⟩;omega)
  refine Lw.val (Ac O) O<|Af<|Aa<|Cw.out<|An<|Bf O O O (by assumption) (Tryz.underlying33) O O O ?_
  rw [em] at M2
  exact ⟨hB3,x,y,rfl,fun h=>absurd rfl h,fun _=>⟨M2.row.mono (by omega), .inl (own_mono M2.lst.own (by omega)),M2.yx⟩⟩
 exact absurd okW (by rw [hk'];decide)
end Go.Proofs.YtmipoeanpnnjoaaGreatDoor

/-! Contracts: a number of a tensor. -/
namespace Go.Proofs.YtmipoeanpnnjoaaGreatDoor
open Go Go.Dd Go.RowKit
set_option maxRecDepth 100000

theorem index_in {s t:List Int} (h:(Shapes.index s t).2=0):0≤(Shapes.index s t).1∧(Shapes.index s t).1<Shapes.size s:=by
 unfold Shapes.index at h ⊢
 split
 ·rename_i g
  simp only [Bool.and_eq_true] at g
  have h1:=Shapes.idx_lt ((Shapes.ok_iff s).1 g.1).2.1 g.2
  rw [Shapes.size_ok g.1]
  exact h1
 ·rename_i g
  rw [if_neg g] at h
  cases h
def tatE (s:List Int) (l:List (BitVec 32)) (t:List Int):Int:=if tok s l then (Shapes.index s t).2 else 1
def tatV (s:List Int) (l:List (BitVec 32)) (t:List Int):BitVec 32:=if tok s l=true∧(Shapes.index s t).2=0 then l.getD (Shapes.index s t).1.toNat default else 0#32

theorem tat_c (a:T4) (u:Value) (t:List Int) (W:World) (h_a:a.at W) (h_u:SlT (Value.int .i64) W u t):
  Fnc Tryz.prog 228 [a.v,u] W (fun r w' =>r= .tuple #[i32 (tatV a.s a.l t), .int .i64 (tatE a.s a.l t)]∧Below W.heap.size W w'):=by
 have hB:=Below.refl W.heap.size W
 refine Ap (n:=26) Tryz.func228 (by kernel_rfl) O O O<|Ae<|Ab<|Bv (cs:=[a.x,a.y]) O O O ?_
 rintro A_a w eA_a b_a hn -
 replace hB:=hB.bs hn
 replace h_a:=h_a.bs hn
 replace h_u:=h_u.bs hn
 clear hn
 refine Lw.val (Ac (show _=some (i32 (0#32)) from rfl)) O<|Lw.val (Ac O) O<|Af<|Aa<|Cw.out<|Ae<|Ae<|Ab<|Lw.val (Bw (ag_33 _) (sz_33 _) O O (by assumption)) O ?_
 refine Al O O (tcheck_c a.x a.y a.s a.l _ h_a.1 h_a.2) ?_
 rintro _ w ⟨rfl,hn⟩
 replace hB:=hB.bs hn
 replace h_a:=h_a.bs hn
 replace h_u:=h_u.bs hn
 replace b_a:=b_a.bs hn
 clear hn
 refine Lw.val (Bx O) O<|Af<|Aa<|Cw.out<|Au O ?_ ?_
 ·intro g
  have ht:tok a.s a.l=false:=by simpa using g
  refine Ae<|Ab<|Lw.val (Ac (show _=some (i32 (0#32)) from rfl)) O<|Lw.val (Ac O) O<|Af<|Aa<|Cw.out<|An<|Ak<|Bu O O O ?_
  exact ⟨by simp [tatV,tatE,ht],hB⟩
 intro g
 have ht:tok a.s a.l=true:=by simpa using g
 refine Aq<|Aa<|Cw.out<|Ae<|Ab<|Lw.val (Ag (q:=0) Tryz.underlying33 O (sz_23 _) O) O<|Lw.val (Aj (ag_23 _) O (by assumption) O) O ?_
 refine Lw.val (Ad O) O<|Al O O (index_c a.s t a.x u _ h_a.1 h_u) ?_
 rintro _ w ⟨rfl,hn⟩
 replace hB:=hB.bs hn
 replace h_a:=h_a.bs hn
 replace h_u:=h_u.bs hn
 replace b_a:=b_a.bs hn
 clear hn
 refine Lw.val (Ad O) O<|Lw.val (Ax (i:=0) O O) O<|Lw.val (Ax (i:=1) O O) O<|Lw.val (Ac O) O<|Lw.val (Ac O) O<|Af<|Aa<|Cw.out<|Ae<|Ae<|Ab<|Lw.val (Ad O) O<|Lw.val (B7 O O) O<|Af<|Aa<|Cw.out<|Au O ?_ ?_
 ·intro g
  have g0:¬(Shapes.index a.s t).2=0:=by simpa using g
  refine Ae<|Ab<|Lw.val (Ad O) O<|Lw.val (Ac (show _=some (i32 (0#32)) from rfl)) O<|Lw.val (Ac O) O<|Af<|Aa<|Cw.out<|An<|Ak<|Bu O O O ?_
  exact ⟨by simp [tatV,tatE,ht,g0],hB⟩
 intro g
 have g0:(Shapes.index a.s t).2=0:=by simpa using g
 have hin:=index_in g0
 have htl:=(tok_ok ht).2
 obtain ⟨i,hi⟩:∃i:Nat,(Shapes.index a.s t).1=(i:Int):=⟨_,(Int.toNat_of_nonneg hin.1).symm⟩
 have hil:i<a.l.length:=by omega
 have hy:=h_a.2
 refine Aq<|Aa<|Cw.out<|Ae<|Ab<|Lw.val (Ag (q:=0) Tryz.underlying33 O (sz_31 _) O) O<|Lw.val (Aj (ag_31 _) O (by assumption) O) O ?_
 refine Lw.val (Ad O) O<|Lw.val (Ba st_31 O O hy i hi hil) O<|Lw.val (Bg (ag_21 _) O (by assumption) (by omega)) O ?_
 refine Lw.val (Ac O) O<|Lw.val (Ac O) O<|Af<|Aa<|Cw.out<|An<|Bu O O O ?_
 exact ⟨by simp [tatV,tatE,ht,g0,hi],hB⟩
end Go.Proofs.YtmipoeanpnnjoaaGreatDoor

/-! Contract: some tensors, joined along a direction. -/
namespace Go.Proofs.YtmipoeanpnnjoaaGreatDoor
open Go Go.Dd Go.RowKit
set_option maxRecDepth 100000

/-- A list of tensors. -/
def Tens (w:World) (v:Value) (ts:List T4):Prop:=Sl w 2 v ts.length (cellsOf ts)∧∀t ∈ ts,t.at w
theorem Tens.bs {w w' :World} {v:Value} {ts:List T4} (h:Tens w v ts) (g:Below w.heap.size w w'):Tens w' v ts:=⟨h.1.bs g,fun t ht=>(h.2 t ht).bs g⟩
theorem Tens.stay {w0 w w' :World} {v:Value} {ts:List T4} {B:Nat} (p:Tens w0 v ts) (h:Tens w v ts) (hB:w0.heap.size≤B) (g:Below B w w'):Tens w' v ts:=
 ⟨Sl.stay h.1 fun k e hne=>g.block k (Nat.lt_of_lt_of_le (Sl.blk p.1 hne k e) hB),fun t ht=>at_stay (p.2 t ht) (h.2 t ht) hB g⟩
theorem Tens.slice {w:World} {v:Value} {ts:List T4} (h:Tens w v ts) {i:Nat} (hi:i<ts.length):∃ad c k,v= .slice (some ad) c k:=by
 obtain ⟨_,ao,cap,rfl,_,_,h3,_⟩:=h.1
 cases ao with
 |none=>have:=h3 rfl;omega
 |some ad=>exact ⟨_,_,_,rfl⟩
theorem tens_at {ts:List T4} {i:Nat} (h:i<ts.length):∃t:T4,t=ts[i]∧t ∈ ts∧(cellsOf ts)[i*2]? =some t.x∧(cellsOf ts)[i*2+1]? =some t.y:=
 ⟨ts[i],rfl,List.getElem_mem h,(cells_at h).1,(cells_at h).2⟩
theorem two_cells {xs:List Value} {o:Nat} {x y:Value} (h1:xs[o]? =some x) (h2:xs[o+1]? =some y):∀i,i<2→∃q,[x,y][i]? =some q∧xs[o+i]? =some q:=fun i hi=>by
 rcases (show i=0∨i=1 by omega) with rfl|rfl
 ·exact ⟨_,rfl,h1⟩
 ·exact ⟨_,rfl,h2⟩
theorem join1_c (t:T4) (w:World) (h_t:t.at w):Fnc Tryz.prog 225 [t.v] w (fun r w' =>r= .bool (!tok t.s t.l)∧Below w.heap.size w w'):=by
 have hB:=Below.refl w.heap.size w
 refine Ap (n:=6) Tryz.func225 (by kernel_rfl) O O O<|Ae<|Ab<|Bv (cs:=[t.x,t.y]) O O O ?_
 rintro A_t w eA_t b_t hn -
 replace hB:=hB.bs hn
 replace h_t:=h_t.bs hn
 clear hn
 refine Lw.val (Ac O) O<|Af<|Aa<|Cw.out<|Ae<|Ab<|Lw.val (Bw (ag_33 _) (sz_33 _) O O (by assumption)) O ?_
 refine Al O O (tcheck_c t.x t.y t.s t.l _ h_t.1 h_t.2) ?_
 rintro _ w ⟨rfl,hn⟩
 replace hB:=hB.bs hn
 replace h_t:=h_t.bs hn
 replace b_t:=b_t.bs hn
 clear hn
 refine Lw.val (Bx O) O<|Lw.val (Ac O) O<|Af<|Aa<|Cw.out<|An<|Bb O O ?_
 exact ⟨rfl,hB⟩
def badT (ts:List T4):Bool:=ts.any fun t=> !tok t.s t.l
theorem tIdx_c (v:Value) (ts:List T4) (w:World) (h:Tens w v ts) (hl:ts.length≤1000):Fnc Tryz.prog 246 [v, .func (.func 225) #[] #[]] w (fun r w' =>∃j,r= .int .i64 j∧decide (0≤j)=badT ts∧Below w.heap.size w w'):=by
 have hv:=h.1
 refine Ap (n:=19) Tryz.func246 (by kernel_rfl) O O O<|Ae<|Ab<|Lw.val (Ac O) O<|Af<|Aa<|Cw.out<|Ae<|Ae<|Ab<|Lw.val (Ad O) O<|Lw.val (Av st_26 O (by assumption)) O ?_
 refine Lw.val (Ad O) O<|Af<|Aa<|Cw.out<|Cw.block ?_
 refine Bj (S:=Nat) (fun i=>[(0,v),(1, .func (.func 225) #[] #[]),(7, .int .i64 (ts.length:Int)),(8, .int .i64 (i:Int))]) (fun i w' =>i≤ts.length∧badT (ts.take i)=false∧Below w.heap.size w w') (fun i=>ts.length - i) (0) ⟨rfl,rfl,rfl,rfl,trivial⟩ ?_ ?_
 ·exact ⟨Nat.zero_le _,rfl,Below.refl _ _⟩
 rintro i w1 ⟨hi,hc,hn⟩
 have h1:=h.bs hn
 refine Ae<|Ab<|Lw.val (Bh O O) O<|Af<|Aa<|Cw.out<|Ae<|Au O ?_ ?_
 ·intro hlt
  have hi' :i<ts.length:=by have:=of_decide_eq_true hlt;omega
  obtain ⟨a,ea,ma,c1,c2⟩:=tens_at hi'
  have h_a:=h1.2 a ma
  have e1:badT (ts.take (i+1))=(badT (ts.take i)|| !tok a.s a.l):=by unfold badT;rw [List.take_succ_eq_append_getElem hi',List.any_append,← ea];simp
  refine Aq<|Aa<|Cw.out<|Ae<|Cw.block<|Ae<|Ab<|Lw.val (Ad O) O<|Lw.val (Ac O) O<|Af<|Aa<|Cw.out<|Ae<|Ab<|Lw.val (Ad O) O<|Lw.val (Ad O) O<|Lw.val (Ad O) O<|Lw.val (Bz st_26 O O h1.1 i O hi') O<|Lw.val (Cc (cs:=[a.x,a.y]) (ag_33 _) (sz_33 _) O h1.1 O (by decide) (two_cells c1 c2)) O<|Lw.callV (p:=[]) (q:=[]) O O O (join1_c a w1 h_a) ?_
  rintro _ w2 ⟨rfl,hn2⟩
  refine Af<|Aa<|Cw.out<|Au O ?_ ?_
  ·intro g
   refine Ae<|Ab<|Lw.val (Ad O) O<|Lw.val (Ac O) O<|Af<|Aa<|Cw.out<|An<|Bk<|Ak<|Ak<|Bk<|Ak<|Bb O O ?_
   refine ⟨(i:Int),rfl, ?_,bt hn hn2⟩
   have:badT ts=true:=by
    unfold badT
    exact List.any_eq_true.2 ⟨a,ma,g⟩
   rw [this,decide_eq_true (by omega)]
  intro g
  refine Aq<|Bo<|Aa<|Cw.out<|Ab<|Lw.val (Bc O O (by omega)) O<|Lw.val (Ad O) O<|Af ?_
  exact Aa (Bq (i+1) ⟨rfl,rfl,rfl,rfl,trivial⟩ (⟨hi',by rw [e1,hc,g];rfl,bt hn hn2⟩) (by omega))
 intro hge
 have hi' :i=ts.length:=by have:=of_decide_eq_false hge;omega
 subst hi'
 rw [List.take_length] at hc
 refine Bi<|Am<|Am<|Az<|Aa<|Cw.out<|Ae<|Ab<|Lw.val (Ac O) O<|Af<|Aa<|Cw.out<|An<|Bb O O ?_
 exact ⟨-1,rfl,by rw [hc];rfl,hn⟩
theorem tBad_c (v:Value) (ts:List T4) (w:World) (h:Tens w v ts) (hl:ts.length≤1000):Fnc Tryz.prog 224 [v, .func (.func 225) #[] #[]] w (fun r w' =>r= .bool (badT ts)∧Below w.heap.size w w'):=by
 refine Ap (n:=9) Tryz.func224 (by kernel_rfl) O O O<|Ae<|Ab<|Lw.val (Ac O) O<|Af<|Aa<|Cw.out<|Ae<|Ab<|Lw.val (Ad O) O<|Lw.val (Ad O) O<|Al O O (tIdx_c v ts w h hl) ?_
 rintro _ _ ⟨j,rfl,hj,hn⟩
 refine Lw.val (Cu O O) O<|Lw.val (Ac O) O<|Af<|Aa<|Cw.out<|An<|Bb O O ?_
 exact ⟨congrArg Value.bool hj,hn⟩
def alk (a b:List Int) (k:Nat):Bool:=decide (a.length=b.length) && decide (a.take k=b.take k) && decide (a.drop (k+1)=b.drop (k+1))
theorem alike_c (u v:Value) (a b:List Int) (k:Nat) (w:World) (h_u:SlT (Value.int .i64) w u a) (h_v:SlT (Value.int .i64) w v b) (hk:k<b.length):Fnc Tryz.prog 226 [u,v, .int .i64 (k:Int)] w (fun r w' =>r= .bool (alk a b k)∧Below w.heap.size w w'):=by
 have hle:=h_v.le
 refine Ap (n:=32) Tryz.func226 (by kernel_rfl) O O O<|Ae<|Ab<|Lw.val (Ac O) O<|Af<|Aa<|Cw.out<|Ae<|B5 mixed (by kernel_rfl)<|Qw.val (fun w1 hq=>Ad O) O<|Qw.val (fun w1 hq=>Av st_23 O (Sl.bs (by assumption) hq)) O ?_
 refine Qw.val (fun w1 hq=>Ad O) O<|Qw.val (fun w1 hq=>Av st_23 O (Sl.bs (by assumption) hq)) O ?_
 refine Qw.val (fun w1 hq=>Cn O O) O<|Qw.val (fun w1 hq=>Ad O) O ?_
 refine Cl 12 O ?_ ?_
 ·intro g
  have hl:a.length=b.length:=by have:=of_decide_eq_true g;omega
  refine Qw.take (dj:=12) O O<|Qw.val (fun w1 hq=>Ad O) O<|Qw.take (dj:=12) O O<|Qw.val (fun w1 hq=>Ad O) O<|Qw.take (dj:=12) O O<|Qw.val (fun w1 hq=>Ex.cutH st_23 O O (Sl.bs (by assumption) hq) (by omega)) O ?_
  refine Qw.take (dj:=12) O O<|Qw.val (fun w1 hq=>Ad O) O<|Qw.take (dj:=12) O O<|Qw.val (fun w1 hq=>Ad O) O<|Qw.take (dj:=12) O O<|Qw.val (fun w1 hq=>Ex.cutH st_23 O O (Sl.bs (by assumption) hq) (by omega)) O ?_
  refine Qw.take (dj:=12) O O<|B9 O O (fun w1 hq=>(equalInts_c (cut u 1 0 k) (cut v 1 0 k) (a.take k) (b.take k) w1 (Sl.bs (SlT.take h_u (by omega)) hq) (Sl.bs (SlT.take h_v (by omega)) hq)).q hq)<|Qw.val (fun w1 hq=>As O O) O<|Qw.val (fun w1 hq=>Ad O) O ?_
  refine Cl 21 O ?_ ?_
  ·intro g2
   refine Qw.take (dj:=21) O O<|Qw.val (fun w1 hq=>Ad O) O<|Qw.take (dj:=21) O O<|Qw.val (fun w1 hq=>Ad O) O<|Qw.take (dj:=21) O O<|Qw.val (fun w1 hq=>(Bc O O (by omega)).as (congrArg (Value.int .i64) (show (k:Int)+1=((k+1:Nat):Int) by omega))) O<|Qw.take (dj:=21) O O<|Qw.val (fun w1 hq=>Ex.cutL st_23 O O (Sl.bs (by assumption) hq) (by omega)) O ?_
   refine Qw.take (dj:=21) O O<|Qw.val (fun w1 hq=>Ad O) O<|Qw.take (dj:=21) O O<|Qw.val (fun w1 hq=>Ad O) O<|Qw.take (dj:=21) O O<|Qw.val (fun w1 hq=>(Bc O O (by omega)).as (congrArg (Value.int .i64) (show (k:Int)+1=((k+1:Nat):Int) by omega))) O<|Qw.take (dj:=21) O O<|Qw.val (fun w1 hq=>Ex.cutL st_23 O O (Sl.bs (by assumption) hq) (by omega)) O ?_
   refine Qw.take (dj:=21) O O<|B9 O O (fun w1 hq=>(equalInts_c (cut u 1 (k+1) a.length) (cut v 1 (k+1) b.length) (a.drop (k+1)) (b.drop (k+1)) w1 (Sl.bs (SlT.drop h_u (by omega)) hq) (Sl.bs (SlT.drop h_v (by omega)) hq)).q hq)<|Qw.val (fun w1 hq=>As O O) O<|Qw.val (fun w1 hq=>Ac O) O ?_
   refine B3 (fun w2 hq=> ?_)
   refine Aa<|Cw.out<|An<|Bb O O ?_
   exact ⟨congrArg Value.bool (by unfold alk;rw [decide_eq_true hl,g2];rfl),hq⟩
  intro g2
  refine Ao (dj:=21) O O O O<|Ao (dj:=21) O O O O<|Ao (dj:=21) O O O O<|Ao (dj:=21) O O O O<|Ao (dj:=21) O O O O<|Ao (dj:=21) O O O O<|Ao (dj:=21) O O O O<|Ao (dj:=21) O O O O<|Ao (dj:=21) O O O O<|Qw.val (fun w1 hq=>Bd O O) O<|Qw.val (fun w1 hq=>Ac O) O ?_
  refine B3 (fun w2 hq=> ?_)
  refine Aa<|Cw.out<|An<|Bb O O ?_
  exact ⟨congrArg Value.bool (by unfold alk;rw [g2,Bool.and_false,Bool.false_and]),hq⟩
 intro g
 have hl:¬a.length=b.length:=by have:=of_decide_eq_false g;omega
 refine Ao (dj:=12) O O O O<|Ao (dj:=12) O O O O<|Ao (dj:=12) O O O O<|Ao (dj:=12) O O O O<|Ao (dj:=12) O O O O<|Ao (dj:=12) O O O O<|Ao (dj:=12) O O O O<|Qw.val (fun w1 hq=>Bd O O) O<|Qw.val (fun w1 hq=>Ad O) O<|Ao (dj:=21) O O O O<|Ao (dj:=21) O O O O<|Ao (dj:=21) O O O O<|Ao (dj:=21) O O O O<|Ao (dj:=21) O O O O<|Ao (dj:=21) O O O O<|Ao (dj:=21) O O O O<|Ao (dj:=21) O O O O<|Ao (dj:=21) O O O O<|Qw.val (fun w1 hq=>Bd O O) O<|Qw.val (fun w1 hq=>Ac O) O ?_
 refine B3 (fun w2 hq=> ?_)
 refine Aa<|Cw.out<|An<|Bb O O ?_
 exact ⟨congrArg Value.bool (by unfold alk;rw [decide_eq_false hl];rfl),hq⟩

/-! ### What joining tells -/
def jsum (k:Nat):List T4→Int
 |[]=>0
 |t::ts=>t.s.getD k default+jsum k ts
theorem jsum_append (k:Nat):∀(a b:List T4),jsum k (a++b)=jsum k a+jsum k b
 |[],b=>by simp [jsum]
 |t::a,b=>by simp only [List.cons_append,jsum];rw [jsum_append k a b];omega
/-- The number at a place of some that are joined. -/
def jv (k:Nat):List T4→List Int→BitVec 32
 |[],_=>0#32
 |t::ts,p=>if p.getD k default<t.s.getD k default then tatV t.s t.l p else jv k ts (p.set k (p.getD k default - t.s.getD k default))
def s0T:List T4→List Int
 |[]=>[]
 |t::_=>t.s
def jnS (ts:List T4) (k:Nat):List Int:=(s0T ts).set k (jsum k ts)
def jnA (ts:List T4) (al:Int):Bool:=decide (ts.length<1)||decide (4<ts.length)||badT ts||decide (al<0)||decide (((s0T ts).length:Int)≤al)
def jnE (ts:List T4) (al:Int):Int:=if jnA ts al then 1 else if (ts.all fun t=>alk t.s (s0T ts) al.toNat) && Shapes.ok (jnS ts al.toNat) then 0 else 10
def jnL (ts:List T4) (k:Nat):List (BitVec 32):=(List.range (Shapes.size (jnS ts k)).toNat).map fun i:Nat=>jv k ts (Shapes.place (jnS ts k) (i:Int))
theorem alk_set {a b:List Int} {k:Nat} (c:Int):alk a (b.set k c) k=alk a b k:=by
 have e1:(b.set k c).take k=b.take k:=by
  apply List.ext_getElem (by simp)
  intro i h1 h2
  simp only [List.length_take,List.length_set] at h1
  rw [List.getElem_take,List.getElem_take,List.getElem_set,if_neg (by omega)]
 have e2:(b.set k c).drop (k+1)=b.drop (k+1):=by
  apply List.ext_getElem (by simp)
  intro i h1 h2
  rw [List.getElem_drop,List.getElem_drop,List.getElem_set,if_neg (by omega)]
 unfold alk
 rw [e1,e2,List.length_set]
/-- Where a joined number comes from. -/
theorem joinF_c (A_k A_l k:Nat) (v:Value) (ts:List T4) (p:List Int) (a:Value) (w:World) (b_k:Blk w A_k 3 [.int .i64 (k:Int)]) (b_l:Blk w A_l 26 [v]) (h:Tens w v ts) (hl:ts.length≤1000) (hT:∀t ∈ ts,k<t.s.length∧Shapes.ok t.s=true)
  (hk:k<p.length) (hp:p.length≤4) (hc:0≤p.getD k default∧p.getD k default<jsum k ts) (hj:jsum k ts≤1000) (h_a:SlT (Value.int .i64) w a p):
  Fnc Tryz.prog 227 ([a]++[.pointer (some ⟨A_k,0,none⟩), .pointer (some ⟨A_l,0,none⟩)]) w (fun r w' =>r=i32 (jv k ts p)∧Below w.heap.size w w'):=by
 show Fnc Tryz.prog 227 [a, .pointer (some ⟨A_k,0,none⟩), .pointer (some ⟨A_l,0,none⟩)] w _
 have set_id:p.set k (p.getD k default)=p:=by
  have:p[k]=p.getD k default:=by simp [hk]
  rw [← this];exact List.set_getElem_self hk
 refine Ap (n:=49) Tryz.func227 (by kernel_rfl) O O O<|Ae<|Ab<|Lw.val (Ac (show _=some (i32 (0#32)) from rfl)) O<|Af<|Aa<|Cw.out<|Ae<|Ab<|Lw.val (Ad O) O<|Al O O (clone_c a p w h_a (by omega)) ?_
 rintro x w1 ⟨hx,hn1⟩
 refine Lw.val (Ac O) O<|Lw.val (Ac O) O<|Af<|Aa<|Cw.out<|Ae<|Cw.block ?_
 refine Bj (S:=(Nat×Int)) (fun z=>[(0,x),(1, .pointer (some ⟨A_k,0,none⟩)),(2, .pointer (some ⟨A_l,0,none⟩)),(5, .int .i64 (z.1:Int))]) (fun z w' =>z.1≤ts.length∧(0≤z.2∧z.2<jsum k (ts.drop z.1)∧z.2≤1000)∧jv k ts p=jv k (ts.drop z.1) (p.set k z.2)∧Below w.heap.size w w' ∧w'.ownsRow w.heap.size 3 1 x p.length ((p.set k z.2).map (Value.int .i64))) (fun z=>ts.length - z.1) ((0,p.getD k default)) ⟨rfl,rfl,rfl,rfl,trivial⟩ ?_ ?_
 ·exact ⟨Nat.zero_le _,⟨hc.1,hc.2,by show p.getD k default≤1000;omega⟩,by rw [set_id];rfl,hn1,by show w1.ownsRow _ _ _ _ _ ((p.set k (p.getD k default)).map _);rw [set_id];exact hx⟩
 clear hx hn1
 rintro ⟨n,c⟩ w2 ⟨hn,⟨c0,c1,c2⟩,hv,hB,hx⟩
 dsimp only at hn c0 c1 c2 hv hx ⊢
 have hn' :n<ts.length:=by
  rcases Nat.lt_or_ge n ts.length with h|h
  ·exact h
  ·rw [List.drop_of_length_le h] at c1;simp [jsum] at c1;omega
 obtain ⟨t,et,mt,k1,k2⟩:=tens_at hn'
 have hd:ts.drop n=t::ts.drop (n+1):=by rw [List.drop_eq_getElem_cons hn',← et]
 obtain ⟨kt,okt⟩:=hT t mt
 have dt:=dim_at ((Shapes.ok_iff t.s).1 okt).2.1 kt
 have h2:=h.bs hB
 have h_t:=h2.2 t mt
 have h_t1:=h_t.1
 have hvs:=h2.slice hn'
 have b_k2:=b_k.bs hB
 have b_l2:=b_l.bs hB
 have lset:(p.set k c).length=p.length:=List.length_set
 have hx' :=hx
 rw [← lset] at hx'
 have s_x:=own_slT hx'
 clear hx'
 have gk:(p.set k c).getD k default=c:=by simp [hk]
 have hkx:k<(p.set k c).length:=by omega
 rw [hd] at c1 hv
 have c1' :c<t.s.getD k default+jsum k (ts.drop (n+1)):=c1
 refine Ae<|Ae<|B5 mixed (by kernel_rfl)<|Qw.val (fun w1 hq=>Ad O) O<|Qw.val (fun w1 hq=>Aj (ag_3 _) O (Blk.bs (by assumption) hq) O) O ?_
 refine Qw.val (fun w1 hq=>Ba st_23 O O (Sl.bs s_x hq) k O hkx) O<|Qw.val (fun w1 hq=>(Bg (ag_3 _) O (Sl.bs s_x hq) hkx).as (congrArg (Value.int .i64) gk)) O<|Qw.val (fun w1 hq=>Aj (ag_26 _) O (Blk.bs (by assumption) hq) O) O ?_
 refine Qw.val (fun w1 hq=>Ad O) O<|Qw.val (fun w1 hq=>Bz st_26 O O (Sl.bs h2.1 hq) n O hn') O<|Qw.val (fun w1 hq=>Ch Tryz.underlying33 O (sz_23 _) O hvs) O<|Qw.val (fun w1 hq=>C6 (ag_23 _) O (Sl.bs h2.1 hq) k1) O<|Qw.val (fun w1 hq=>Aj (ag_3 _) O (Blk.bs (by assumption) hq) O) O ?_
 refine Qw.val (fun w1 hq=>Ba st_23 O O (Sl.bs h_t1 hq) k O kt) O<|Qw.val (fun w1 hq=>Bg (ag_3 _) O (Sl.bs h_t1 hq) kt) O<|Qw.val (fun w1 hq=>Cu O O) O ?_
 refine B3 (fun w3 hq=> ?_)
 refine Aa<|Cw.out ?_
 have hB3:=bt hB hq
 have hx3:=own_bs hx hq
 have h3:=h.bs hB3
 have h_t3:=h3.2 t mt
 have h_t13:=h_t3.1
 have b_k3:=b_k2.bs hq
 have b_l3:=b_l2.bs hq
 have s_x3:=s_x.bs hq
 clear hq
 refine Au O ?_ ?_
 ·intro g
  have g:=of_decide_eq_true g
  refine Aq<|Aa<|Cw.out<|Cw.block<|Ae<|Cw.tail 14 mixed (by kernel_rfl)<|Qw.val (fun w1 hq=>Ad O) O<|Qw.val (fun w1 hq=>Aj (ag_3 _) O (Blk.bs (by assumption) hq) O) O ?_
  refine Qw.val (fun w1 hq=>Ba st_23 O O (Sl.bs s_x3 hq) k O hkx) O<|Qw.val (fun w1 hq=>(Bg (ag_3 _) O (Sl.bs s_x3 hq) hkx).as (congrArg (Value.int .i64) gk)) O<|Qw.val (fun w1 hq=>Aj (ag_26 _) O (Blk.bs (by assumption) hq) O) O ?_
  refine Qw.val (fun w1 hq=>Ad O) O<|Qw.val (fun w1 hq=>Bz st_26 O O (Sl.bs h3.1 hq) n O hn') O<|Qw.val (fun w1 hq=>Ch Tryz.underlying33 O (sz_23 _) O hvs) O<|Qw.val (fun w1 hq=>C6 (ag_23 _) O (Sl.bs h3.1 hq) k1) O<|Qw.val (fun w1 hq=>Aj (ag_3 _) O (Blk.bs (by assumption) hq) O) O ?_
  refine Qw.val (fun w1 hq=>Ba st_23 O O (Sl.bs h_t13 hq) k O kt) O<|Qw.val (fun w1 hq=>Bg (ag_3 _) O (Sl.bs h_t13 hq) kt) O<|Qw.val (fun w1 hq=>Cx O O (by omega)) O<|Qw.val (fun w1 hq=>Ba st_23 O O (Sl.bs s_x3 hq) k O hkx) O ?_
  refine Cj (fun w4 hq=> ?_)
  have hB4:=bt hB3 hq
  have hx4:=own_bs hx3 hq
  refine Ay (Cv (sz_3 _) O O O hx4 (by rw [List.length_map];exact hkx)) ?_
  rintro w5 ⟨hx5,hg, -⟩
  rw [← List.map_set,List.set_set] at hx5
  have hB5:=hB4.grown hg (below_size hB4) (fun b e=>(own_block hx4 b e).1)
  have ev:jv k (t::ts.drop (n+1)) (p.set k c)=jv k (ts.drop (n+1)) (p.set k (c - t.s.getD k default)):=by
   rw [jv,gk,if_neg (by omega),List.set_set]
  refine Af<|Aa<|Cw.out<|Ab<|Lw.val (Ad O) O<|Lw.val (Bc O O (by omega)) O<|Lw.val (Ac O) O<|Af<|Bo ?_
  exact Aa (Bq ((n+1,c - t.s.getD k default)) ⟨rfl,rfl,rfl,rfl,trivial⟩ (⟨hn',⟨by show 0≤c - t.s.getD k default;omega,by show c - t.s.getD k default<jsum k (ts.drop (n+1));omega,by show c - t.s.getD k default≤1000;omega⟩,by rw [hv,ev],hB5,hx5⟩) (by simp only;omega))
 intro g
 have g:=of_decide_eq_false g
 have ev:jv k (t::ts.drop (n+1)) (p.set k c)=tatV t.s t.l (p.set k c):=by rw [jv,gk,if_pos (by omega)]
 refine Bi<|Am<|Am<|Az<|Aa<|Cw.out<|Ae<|Ab<|Lw.val (Aj (ag_26 _) O (by assumption) O) O ?_
 refine Lw.val (Ad O) O<|Lw.val (Bz st_26 O O h3.1 n O hn') O<|Lw.val (Cc (cs:=[t.x,t.y]) (ag_33 _) (sz_33 _) O h3.1 O (by decide) (two_cells k1 k2)) O<|Lw.val (Ad O) O<|Al O O (tat_c t x (p.set k c) _ h_t3 s_x3) ?_
 rintro _ w4 ⟨rfl,hn4⟩
 refine Lw.val (Ad O) O<|Lw.val (Ax (i:=0) O O) O<|Lw.val (Ax (i:=1) O O) O<|Lw.val (Ac O) O<|Lw.val (Ac O) O<|Af<|Aa<|Cw.out<|Ae<|Ab<|Lw.val (Ad O) O<|Lw.val (Ac O) O<|Af<|Aa<|Cw.out<|An<|Bb O O ?_
 exact ⟨by rw [hv,ev],bt hB3 hn4⟩
theorem jnE_bad {ts:List T4} {al:Int} (h:jnA ts al=true):jnE ts al=1:=by unfold jnE;rw [if_pos h]
theorem jnE_ten {ts:List T4} {al:Int} (h:jnA ts al=false) (g:((ts.all fun t=>alk t.s (s0T ts) al.toNat) && Shapes.ok (jnS ts al.toNat))=false):jnE ts al=10:=by unfold jnE;rw [h,if_neg (by decide),g,if_neg (by decide)]
theorem s0T_at {ts:List T4} {t:T4} (h:0<ts.length) (e:t=ts[0]):s0T ts=t.s:=by
 match ts,h,e with
 |a::_,_,e=>rw [e];rfl
theorem badT_at {ts:List T4} (h:badT ts=false) {t:T4} (ht:t ∈ ts):tok t.s t.l=true:=by
 cases hk:tok t.s t.l with
 |true=>rfl
 |false=>
  have:badT ts=true:=List.any_eq_true.2 ⟨t,ht,by rw [hk];rfl⟩
  rw [this] at h;cases h
theorem jsum_le {k:Nat}:∀{ts:List T4},(∀t ∈ ts,0≤t.s.getD k default∧t.s.getD k default≤64)→0≤jsum k ts∧jsum k ts≤64*ts.length
 |[],_=>by simp [jsum]
 |t::ts,h=>by
  have h1:=h t (by simp)
  have h2:=jsum_le (ts:=ts) fun u hu=>h u (by simp [hu])
  simp only [jsum,List.length_cons]
  omega
theorem set_set_id {s:List Int} {k:Nat} (h:k<s.length) (c:Int):(s.set k c).getD k default=c:=by simp [h]
set_option maxHeartbeats 1000000 in
theorem mjoin_c (v:Value) (ts:List T4) (al:Int) (W:World) (h:Tens W v ts):
  Fnc Tryz.prog 132 [v, .int .i64 al] W (fun r w' =>Below W.heap.size W w' ∧AnsK W w' r (jnE ts al) (jnS ts al.toNat) (jnL ts al.toNat)):=by
 have hB:=Below.refl W.heap.size W
 have hvo:=h.1.one
 have hv:=h.1
 refine Ap (n:=77) Tryz.func132 (by kernel_rfl) O O O<|Ae<|Ab<|Bv (cs:=[v]) O hvo O ?_
 rintro A_l w eA_l b_l hn -
 replace hB:=hB.bs hn
 replace h:=h.bs hn
 replace hv:=hv.bs hn
 clear hn
 refine Bv (cs:=[.int .i64 al]) O O O ?_
 rintro A_k w eA_k b_k hn -
 replace hB:=hB.bs hn
 replace h:=h.bs hn
 replace hv:=hv.bs hn
 replace b_l:=b_l.bs hn
 clear hn
 have z0:=below_size hB
 refine B8 it_33 O ?_
 rintro A_r w eA_r b_r hn -
 replace hB:=hB.bs hn
 replace h:=h.bs hn
 replace hv:=hv.bs hn
 replace b_l:=b_l.bs hn
 replace b_k:=b_k.bs hn
 clear hn
 refine Lw.val (Ac O) O<|Af<|Aa<|Cw.out<|Ae<|Ae ?_
 have z_r:=blk_lt b_r
 refine B5 mixed (by kernel_rfl)<|Qw.val (fun w1 hq=>Aj (ag_26 _) O (Blk.bs (by assumption) hq) O) O ?_
 refine Qw.val (fun w1 hq=>Av st_26 O (Sl.bs (by assumption) hq)) O ?_
 refine Qw.val (fun w1 hq=>Bh O O) O<|Qw.val (fun w1 hq=>Ad O) O ?_
 refine Cl 12 O ?_ ?_
 ·intro g
  have g' :ts.length<1:=by have:=of_decide_eq_true g;omega
  refine Ao (dj:=12) O O O O<|Ao (dj:=12) O O O O<|Ao (dj:=12) O O O O<|Qw.val (fun w1 hq=>As O O) O<|Qw.val (fun w1 hq=>Ad O) O<|Ao (dj:=17) O O O O<|Ao (dj:=17) O O O O<|Qw.val (fun w1 hq=>As O O) O<|Qw.val (fun w1 hq=>Ad O) O<|Ao (dj:=21) O O O O<|Ao (dj:=21) O O O O<|Qw.val (fun w1 hq=>As O O) O<|Qw.val (fun w1 hq=>Ad O) O<|Ao (dj:=25) O O O O<|Ao (dj:=25) O O O O<|Ao (dj:=25) O O O O<|Ao (dj:=25) O O O O<|Ao (dj:=25) O O O O<|Ao (dj:=25) O O O O<|Ao (dj:=25) O O O O<|Qw.val (fun w1 hq=>As O O) O ?_
  refine B3 (fun w1 hq=> ?_)
  refine Aa<|Cw.out<|Br O<|Ae<|Ab<|Lw.val (Bn (vs:=[]) (cs:=[.slice none 0 0, .slice none 0 0]) O (by kernel_rfl)) O ?_
  have b_r:=b_r.bs hq
  have hB:=bt hB hq
  refine Ay (Bp (cs:=[.slice none 0 0, .slice none 0 0]) O O O O O b_r O) ?_
  rintro w3 ⟨b_r,hg, -⟩
  have hB:=hB.grown hg (below_size hB) (by rintro _ ⟨⟩;omega)
  refine Lw.val (Ac O) O<|Af<|Aa<|Cw.out<|An<|Ak<|Bf O O O (by assumption) (Tryz.underlying33) O O O ?_
  rw [jnE_bad (by unfold jnA;rw [decide_eq_true g'];rfl)]
  exact ⟨hB,ansK_no (by decide)⟩
 intro g1
 have g1:¬ts.length<1:=by have:=of_decide_eq_false g1;omega
 refine Qw.take (dj:=12) O O<|Qw.val (fun w1 hq=>Aj (ag_26 _) O (Blk.bs (by assumption) hq) O) O ?_
 refine Qw.take (dj:=12) O O<|Qw.val (fun w1 hq=>Av st_26 O (Sl.bs (by assumption) hq)) O ?_
 refine Qw.take (dj:=12) O O<|Qw.val (fun w1 hq=>Cr O O) O<|Qw.val (fun w1 hq=>Bd O O) O<|Qw.val (fun w1 hq=>Ad O) O ?_
 refine Cl 17 O ?_ ?_
 ·intro g
  have g' :4<ts.length:=by have:=of_decide_eq_true g;omega
  refine Ao (dj:=17) O O O O<|Ao (dj:=17) O O O O<|Qw.val (fun w1 hq=>As O O) O<|Qw.val (fun w1 hq=>Ad O) O<|Ao (dj:=21) O O O O<|Ao (dj:=21) O O O O<|Qw.val (fun w1 hq=>As O O) O<|Qw.val (fun w1 hq=>Ad O) O<|Ao (dj:=25) O O O O<|Ao (dj:=25) O O O O<|Ao (dj:=25) O O O O<|Ao (dj:=25) O O O O<|Ao (dj:=25) O O O O<|Ao (dj:=25) O O O O<|Ao (dj:=25) O O O O<|Qw.val (fun w1 hq=>As O O) O ?_
  refine B3 (fun w1 hq=> ?_)
  refine Aa<|Cw.out<|Br O<|Ae<|Ab<|Lw.val (Bn (vs:=[]) (cs:=[.slice none 0 0, .slice none 0 0]) O (by kernel_rfl)) O ?_
  have b_r:=b_r.bs hq
  have hB:=bt hB hq
  refine Ay (Bp (cs:=[.slice none 0 0, .slice none 0 0]) O O O O O b_r O) ?_
  rintro w3 ⟨b_r,hg, -⟩
  have hB:=hB.grown hg (below_size hB) (by rintro _ ⟨⟩;omega)
  refine Lw.val (Ac O) O<|Af<|Aa<|Cw.out<|An<|Ak<|Bf O O O (by assumption) (Tryz.underlying33) O O O ?_
  rw [jnE_bad (by unfold jnA;rw [decide_eq_true g',Bool.or_true];rfl)]
  exact ⟨hB,ansK_no (by decide)⟩
 intro g2
 have g2:¬4<ts.length:=by have:=of_decide_eq_false g2;omega
 refine Qw.take (dj:=17) O O<|Qw.val (fun w1 hq=>Aj (ag_26 _) O (Blk.bs (by assumption) hq) O) O ?_
 refine Qw.take (dj:=17) O O<|B9 O O (fun w1 hq=>(tBad_c v ts w1 (h.bs hq) (by omega)).q hq)<|Qw.val (fun w1 hq=>Bd O O) O<|Qw.val (fun w1 hq=>Ad O) O ?_
 refine Cl 21 O ?_ ?_
 ·intro g
  refine Ao (dj:=21) O O O O<|Ao (dj:=21) O O O O<|Qw.val (fun w1 hq=>As O O) O<|Qw.val (fun w1 hq=>Ad O) O<|Ao (dj:=25) O O O O<|Ao (dj:=25) O O O O<|Ao (dj:=25) O O O O<|Ao (dj:=25) O O O O<|Ao (dj:=25) O O O O<|Ao (dj:=25) O O O O<|Ao (dj:=25) O O O O<|Qw.val (fun w1 hq=>As O O) O ?_
  refine B3 (fun w1 hq=> ?_)
  refine Aa<|Cw.out<|Br O<|Ae<|Ab<|Lw.val (Bn (vs:=[]) (cs:=[.slice none 0 0, .slice none 0 0]) O (by kernel_rfl)) O ?_
  have b_r:=b_r.bs hq
  have hB:=bt hB hq
  refine Ay (Bp (cs:=[.slice none 0 0, .slice none 0 0]) O O O O O b_r O) ?_
  rintro w3 ⟨b_r,hg, -⟩
  have hB:=hB.grown hg (below_size hB) (by rintro _ ⟨⟩;omega)
  refine Lw.val (Ac O) O<|Af<|Aa<|Cw.out<|An<|Ak<|Bf O O O (by assumption) (Tryz.underlying33) O O O ?_
  rw [jnE_bad (by unfold jnA;rw [g,Bool.or_true];rfl)]
  exact ⟨hB,ansK_no (by decide)⟩
 intro g3
 refine Qw.take (dj:=21) O O<|Qw.val (fun w1 hq=>Aj (ag_3 _) O (Blk.bs (by assumption) hq) O) O ?_
 refine Qw.take (dj:=21) O O<|Qw.val (fun w1 hq=>Bh O O) O<|Qw.val (fun w1 hq=>Bd O O) O<|Qw.val (fun w1 hq=>Ad O) O ?_
 refine Cl 25 O ?_ ?_
 ·intro g
  have g' :al<0:=of_decide_eq_true g
  refine Ao (dj:=25) O O O O<|Ao (dj:=25) O O O O<|Ao (dj:=25) O O O O<|Ao (dj:=25) O O O O<|Ao (dj:=25) O O O O<|Ao (dj:=25) O O O O<|Ao (dj:=25) O O O O<|Qw.val (fun w1 hq=>As O O) O ?_
  refine B3 (fun w1 hq=> ?_)
  refine Aa<|Cw.out<|Br O<|Ae<|Ab<|Lw.val (Bn (vs:=[]) (cs:=[.slice none 0 0, .slice none 0 0]) O (by kernel_rfl)) O ?_
  have b_r:=b_r.bs hq
  have hB:=bt hB hq
  refine Ay (Bp (cs:=[.slice none 0 0, .slice none 0 0]) O O O O O b_r O) ?_
  rintro w3 ⟨b_r,hg, -⟩
  have hB:=hB.grown hg (below_size hB) (by rintro _ ⟨⟩;omega)
  refine Lw.val (Ac O) O<|Af<|Aa<|Cw.out<|An<|Ak<|Bf O O O (by assumption) (Tryz.underlying33) O O O ?_
  rw [jnE_bad (by unfold jnA;rw [decide_eq_true g',Bool.or_true];rfl)]
  exact ⟨hB,ansK_no (by decide)⟩
 intro g4
 have g4:¬al<0:=of_decide_eq_false g4
 have hpos:0<ts.length:=by omega
 obtain ⟨t0,e0,m0,c1,c2⟩:=tens_at hpos
 have h_00:=h.2 t0 m0
 have h_01:=h_00.1
 have es0:=s0T_at hpos e0
 have hvs:=h.slice hpos
 refine Qw.take (dj:=25) O O<|Qw.val (fun w1 hq=>Aj (ag_3 _) O (Blk.bs (by assumption) hq) O) O ?_
 refine Qw.take (dj:=25) O O<|Qw.val (fun w1 hq=>Aj (ag_26 _) O (Blk.bs (by assumption) hq) O) O ?_
 refine Qw.take (dj:=25) O O<|Qw.val (fun w1 hq=>Bz st_26 O O (Sl.bs hv hq) 0 O hpos) O<|Qw.take (dj:=25) O O<|Qw.val (fun w1 hq=>Ch Tryz.underlying33 O (sz_23 _) O hvs) O<|Qw.take (dj:=25) O O<|Qw.val (fun w1 hq=>C6 (ag_23 _) O (Sl.bs hv hq) c1) O<|Qw.take (dj:=25) O O<|Qw.val (fun w1 hq=>Av st_23 O (Sl.bs (by assumption) hq)) O ?_
 refine Qw.take (dj:=25) O O<|Qw.val (fun w1 hq=>Cu O O) O<|Qw.val (fun w1 hq=>Bd O O) O ?_
 refine B3 (fun w1 hq=> ?_)
 refine Aa<|Cw.out<|Au O ?_ ?_
 ·intro g
  have g' :((s0T ts).length:Int)≤al:=by rw [es0];exact of_decide_eq_true g
  refine Ae<|Ab<|Lw.val (Bn (vs:=[]) (cs:=[.slice none 0 0, .slice none 0 0]) O (by kernel_rfl)) O ?_
  have b_r:=b_r.bs hq
  have hB:=bt hB hq
  refine Ay (Bp (cs:=[.slice none 0 0, .slice none 0 0]) O O O O O b_r O) ?_
  rintro w3 ⟨b_r,hg, -⟩
  have hB:=hB.grown hg (below_size hB) (by rintro _ ⟨⟩;omega)
  refine Lw.val (Ac O) O<|Af<|Aa<|Cw.out<|An<|Ak<|Bf O O O (by assumption) (Tryz.underlying33) O O O ?_
  rw [jnE_bad (by unfold jnA;rw [decide_eq_true g',Bool.or_true])]
  exact ⟨hB,ansK_no (by decide)⟩
 intro g5
 have g5:=of_decide_eq_false g5
 have hA:jnA ts al=false:=by
  unfold jnA
  rw [decide_eq_false g1,decide_eq_false g2,g3,decide_eq_false g4,es0,decide_eq_false (by omega)];rfl
 obtain ⟨k,rfl⟩:∃k:Nat,al=(k:Int):=⟨al.toNat,by omega⟩
 have hk:k<t0.s.length:=by omega
 have ok0:=(tok_ok (badT_at g3 m0)).1
 have S0:=(Shapes.ok_iff t0.s).1 ok0
 replace hB:=hB.bs hq
 replace h:=h.bs hq
 replace hv:=hv.bs hq
 replace b_l:=b_l.bs hq
 replace b_k:=b_k.bs hq
 replace b_r:=b_r.bs hq
 replace h_01:=h_01.bs hq
 clear hq h_00
 refine Aq<|Aa<|Cw.out<|Ae<|Ab<|Lw.val (Aj (ag_26 _) O (by assumption) O) O ?_
 refine Lw.val (Bz st_26 O O hv 0 O hpos) O<|Lw.val (Ch Tryz.underlying33 O (sz_23 _) O hvs) O<|Lw.val (C6 (ag_23 _) O hv c1) O ?_
 obtain ⟨B,hBB⟩:∃B,B=w1.heap.size:=⟨_,rfl⟩
 have y_l:A_l<B:=hBB ▸ blk_lt b_l
 have y_k:A_k<B:=hBB ▸ blk_lt b_k
 have y_r:A_r<B:=hBB ▸ blk_lt b_r
 have y_B:=below_size hB
 have p_h:=h
 have b_l0:=b_l
 have b_k0:=b_k
 have b_r0:=b_r
 have hB0:=hB
 refine Al O O (clone_c t0.x t0.s w1 h_01 (by omega)) ?_
 rintro x w2 ⟨hx,hn⟩
 rw [← hBB] at hx
 have zn:=hn.size
 replace hB:=hB.bs hn
 replace h:=h.bs hn
 replace hv:=hv.bs hn
 replace b_l:=b_l.bs hn
 replace b_k:=b_k.bs hn
 replace b_r:=b_r.bs hn
 replace h_01:=h_01.bs hn
 have hK:=hBB ▸ hn
 clear hn
 have s_x:=own_slT hx
 refine Lw.val (Ac O) O<|Af<|Aa<|Cw.out<|Ae<|Ab<|Lw.val (Ad O) O<|Lw.val (Aj (ag_3 _) O (by assumption) O) O ?_
 refine Lw.val (Ba st_23 O O s_x k O hk) O<|Ay (Cv (sz_3 _) O O O hx (by rw [List.length_map];exact hk)) ?_
 rintro w3 ⟨hx3,hg, -⟩
 rw [← List.map_set] at hx3
 have hK3:Below B w1 w3:=Below.grown hK hg (by omega) (fun b e=>(own_block hx b e).1)
 clear s_x hx hg
 clear hv
 have gd:∀t ∈ ts,0≤t.s.getD k default∧t.s.getD k default≤64:=fun t ht=>by
  have S:=(Shapes.ok_iff t.s).1 (tok_ok (badT_at g3 ht)).1
  rcases Nat.lt_or_ge k t.s.length with h|h
  ·have:=dim_at S.2.1 h;omega
  ·rw [List.getD_eq_getElem?_getD,List.getElem?_eq_none h];decide
 have h3:=p_h.stay p_h (Nat.le_of_eq hBB.symm) hK3
 have hv3:=h3.1
 have b_l3:=b_l0.bl hK3 y_l
 have b_k3:=b_k0.bl hK3 y_k
 clear b_l b_k b_r hB h_01 h
 refine Af<|Aa<|Cw.out<|Ae<|Ae<|Ab<|Lw.val (Aj (ag_26 _) O (by assumption) O) O ?_
 refine Lw.val (Av st_26 O (by assumption)) O ?_
 refine Lw.val (Ad O) O<|Af<|Aa<|Cw.out<|Cw.block ?_
 refine Bj (S:=Nat) (fun i=>[(2, .pointer (some ⟨A_l,0,none⟩)),(3, .pointer (some ⟨A_k,0,none⟩)),(4, .pointer (some ⟨A_r,0,none⟩)),(6,x),(43,v),(44, .int .i64 (ts.length:Int)),(45, .int .i64 (i:Int))]) (fun i w' =>i≤ts.length∧(∀t ∈ ts.take i,alk t.s t0.s k=true)∧Below B w1 w' ∧w'.ownsRow B 3 1 x t0.s.length ((t0.s.set k (jsum k (ts.take i))).map (Value.int .i64))) (fun i=>ts.length - i) (0) ⟨rfl,rfl,rfl,rfl,rfl,rfl,rfl,trivial⟩ ?_ ?_
 ·exact ⟨Nat.zero_le _,fun t ht=>by simp at ht,hK3,hx3⟩
 clear hx3 hK3 b_l3 b_k3 hv3 h3
 rintro i w4 ⟨hi,hC,hK,hx⟩
 have hK4:=hK
 have zK:=hK.size
 have h4:=p_h.stay p_h (Nat.le_of_eq hBB.symm) hK
 have b_k:=b_k0.bl hK y_k
 have b_l:=b_l0.bl hK y_l
 have b_r:=b_r0.bl hK y_r
 have hB:=hB0.trans (hK.mono (by omega))
 obtain ⟨s',hs'⟩:∃s',s' =t0.s.set k (jsum k (ts.take i)):=⟨_,rfl⟩
 have ls' :s'.length=t0.s.length:=by rw [hs'];exact List.length_set
 rw [← hs',← ls'] at hx
 have gk:s'.getD k default=jsum k (ts.take i):=by rw [hs'];exact set_set_id hk _
 have hks:k<s'.length:=by omega
 refine Ae<|Ab<|Lw.val (Bh O O) O<|Af<|Aa<|Cw.out<|Ae<|Au O ?_ ?_
 ·intro g
  have hi' :i<ts.length:=by have:=of_decide_eq_true g;omega
  obtain ⟨t,et,mt,k1,k2⟩:=tens_at hi'
  have h_t:=h4.2 t mt
  have e1:ts.take (i+1)=ts.take i++[t]:=by rw [List.take_succ_eq_append_getElem hi',← et]
  have gt:=gd t mt
  have js:jsum k (ts.take (i+1))=jsum k (ts.take i)+t.s.getD k default:=by rw [e1,jsum_append];simp [jsum]
  have jl:=jsum_le (k:=k) (ts:=ts.take i) fun u hu=>gd u (List.mem_of_mem_take hu)
  rw [List.length_take] at jl
  refine Aq<|Aa<|Cw.out<|Ae<|Cw.block<|Ae<|Ab<|Lw.val (Bz st_26 O O h4.1 i O hi') O<|Lw.val (Cc (cs:=[t.x,t.y]) (ag_33 _) (sz_33 _) O h4.1 O (by decide) (two_cells k1 k2)) O<|Cb (cs:=[t.x,t.y]) it_33 O O O O (fun _=>rfl) (h_t.one) ?_
  rintro A_x w5 eA_x b_x hn5 zhn5
  have h_t1:=(h_t.bs hn5).1
  have b_k:=b_k.bs hn5
  have b_r:=b_r.bs hn5
  have hx:=own_bs hx hn5
  have hK:=hK.trans (hn5.mono (by omega))
  have zK:=hK.size
  have hB:=bt hB hn5
  have s_x:=own_slT hx
  refine Af<|Aa<|Cw.out<|Ae<|Ae<|Ab<|Lw.val (Ag (q:=0) Tryz.underlying33 O (sz_23 _) O) O<|Lw.val (Aj (ag_23 _) O (by assumption) O) O ?_
  refine Lw.val (Ad O) O<|Lw.val (Aj (ag_3 _) O (by assumption) O) O ?_
  refine Al O O (alike_c t.x x t.s s' k w5 h_t1 s_x hks) ?_
  rintro _ w6 ⟨rfl,hn6⟩
  have h_t1:=h_t1.bs hn6
  have b_x:=b_x.bs hn6
  have b_k:=b_k.bs hn6
  have b_r:=b_r.bs hn6
  have hx:=own_bs hx hn6
  have hK:=hK.trans (hn6.mono (by omega))
  have zK:=hK.size
  have hB:=bt hB hn6
  have s_x:=own_slT hx
  refine Lw.val (Bx O) O<|Af<|Aa<|Cw.out<|Au O ?_ ?_
  ·intro g2
   have g2:alk t.s t0.s k=false:=by rw [hs',alk_set] at g2;simpa using g2
   refine Ae<|Ab<|Lw.val (Bn (vs:=[]) (cs:=[.slice none 0 0, .slice none 0 0]) O (by kernel_rfl)) O<|Ay (Bp (cs:=[.slice none 0 0, .slice none 0 0]) O O O O O b_r O) ?_
   rintro w3 ⟨b_r,hg, -⟩
   have hB:=hB.grown hg (below_size hB) (by rintro _ ⟨⟩;omega)
   refine Lw.val (Ac O) O<|Af<|Aa<|Cw.out<|An<|Ak<|Bk<|Ak<|Ak<|Bk<|Ak<|Bf O O O (by assumption) (Tryz.underlying33) O O O ?_
   rw [jnE_ten hA (by rw [es0,show (ts.all fun t=>alk t.s t0.s ((k:Int)).toNat)=false from List.all_eq_false.2 ⟨t,mt,by rw [Int.toNat_natCast,g2];decide⟩];rfl)]
   exact ⟨hB,ansK_no (by decide)⟩
  intro g2
  have g2:alk t.s t0.s k=true:=by rw [hs',alk_set] at g2;simpa using g2
  have lk:t.s.length=t0.s.length:=by
   unfold alk at g2
   simp only [Bool.and_eq_true,decide_eq_true_eq] at g2
   exact g2.1.1
  have hkt:k<t.s.length:=by omega
  refine Aq<|Aa<|Cw.out<|Cw.tail 11 mixed (by kernel_rfl)<|Qw.val (fun w1 hq=>Ad O) O<|Qw.val (fun w1 hq=>Aj (ag_3 _) O (Blk.bs (by assumption) hq) O) O ?_
  refine Qw.val (fun w1 hq=>Ba st_23 O O (Sl.bs s_x hq) k O hks) O<|Qw.val (fun w1 hq=>(Bg (ag_3 _) O (Sl.bs s_x hq) hks).as (congrArg (Value.int .i64) gk)) O<|Qw.val (fun w1 hq=>Ag (q:=0) Tryz.underlying33 O (sz_23 _) O) O<|Qw.val (fun w1 hq=>Aj (ag_23 _) O (Blk.bs (by assumption) hq) O) O ?_
  refine Qw.val (fun w1 hq=>Aj (ag_3 _) O (Blk.bs (by assumption) hq) O) O ?_
  refine Qw.val (fun w1 hq=>Ba st_23 O O (Sl.bs h_t1 hq) k O hkt) O<|Qw.val (fun w1 hq=>Bg (ag_3 _) O (Sl.bs h_t1 hq) hkt) O<|Qw.val (fun w1 hq=>Bc O O (by omega)) O<|Qw.val (fun w1 hq=>Ba st_23 O O (Sl.bs s_x hq) k O hks) O ?_
  refine Cj (fun w7 hq=> ?_)
  have hx:=own_bs hx hq
  have hK:=hK.trans (hq.mono (by omega))
  have zK:=hK.size
  clear hq
  refine Ay (Cv (sz_3 _) O O O hx (by rw [List.length_map];exact hks)) ?_
  rintro w8 ⟨hx8,hg, -⟩
  rw [← List.map_set,hs',List.set_set,← js,← hs',ls'] at hx8
  have hC' :∀u ∈ ts.take (i+1),alk u.s t0.s k=true:=fun u hu=>by
   rw [e1] at hu
   rcases List.mem_append.1 hu with h|h
   ·exact hC u h
   ·rw [List.mem_singleton.1 h];exact g2
  have hK8:Below B w1 w8:=Below.grown hK hg (by omega) (fun b e=>(own_block hx b e).1)
  refine Af<|Bo<|Aa<|Cw.out<|Ab<|Lw.val (Bc O O (by omega)) O<|Lw.val (Ad O) O<|Af ?_
  exact Aa (Bq (i+1) ⟨rfl,rfl,rfl,rfl,rfl,rfl,rfl,trivial⟩ (⟨hi',hC',hK8,hx8⟩) (by omega))
 intro g
 have hi' :i=ts.length:=by have:=of_decide_eq_false g;omega
 subst hi'
 rw [List.take_length] at hC hs' gk
 have eS:s' =jnS ts k:=by rw [hs'];unfold jnS;rw [es0]
 have hAll:(ts.all fun t=>alk t.s (s0T ts) k)=true:=List.all_eq_true.2 fun t ht=>by rw [es0];exact hC t ht
 have hT:∀t ∈ ts,k<t.s.length∧Shapes.ok t.s=true:=fun t ht=>⟨by
  have g2:=hC t ht
  unfold alk at g2
  simp only [Bool.and_eq_true,decide_eq_true_eq] at g2
  have:=g2.1.1
  omega,(tok_ok (badT_at g3 ht)).1⟩
 have jl:=jsum_le (k:=k) (ts:=ts) gd
 have s_x:=own_slT hx
 refine Bi<|Am<|Am<|Az<|Aa<|Cw.out<|Ae<|Ae<|Ab<|Lw.val (Ad O) O<|Al O O (check_c x s' w4 s_x) ?_
 rintro _ w6 ⟨rfl,hn6⟩
 have h6:=h4.bs hn6
 have b_k:=b_k.bs hn6
 have b_l:=b_l.bs hn6
 have b_r:=b_r.bs hn6
 have hx:=own_bs hx hn6
 have hK:=hK.trans (hn6.mono (by omega))
 have zK:=hK.size
 have hB:=bt hB hn6
 have s_x:=own_slT hx
 refine Lw.val (Bx O) O<|Af<|Aa<|Cw.out<|Au O ?_ ?_
 ·intro g2
  have g2:Shapes.ok s' =false:=by simpa using g2
  refine Ae<|Ab<|Lw.val (Bn (vs:=[]) (cs:=[.slice none 0 0, .slice none 0 0]) O (by kernel_rfl)) O<|Ay (Bp (cs:=[.slice none 0 0, .slice none 0 0]) O O O O O b_r O) ?_
  rintro w3 ⟨b_r,hg, -⟩
  have hB:=hB.grown hg (below_size hB) (by rintro _ ⟨⟩;omega)
  refine Lw.val (Ac O) O<|Af<|Aa<|Cw.out<|An<|Ak<|Bf O O O (by assumption) (Tryz.underlying33) O O O ?_
  rw [jnE_ten hA (by rw [Int.toNat_natCast,← eS,g2,Bool.and_false])]
  exact ⟨hB,ansK_no (by decide)⟩
 intro g2
 have okS:Shapes.ok s' =true:=by simpa using g2
 have S:=(Shapes.ok_iff s').1 okS
 have hE:jnE ts (k:Int)=0:=by unfold jnE;rw [hA,Int.toNat_natCast,hAll,← eS,okS];rfl
 have eL:jnL ts k=(List.range (Shapes.size s').toNat).map fun i:Nat=>jv k ts (Shapes.place s' (i:Int)):=by unfold jnL;rw [← eS]
 rw [hE,Int.toNat_natCast,eL,← eS]
 refine Aq<|Aa<|Cw.out<|Ae<|Ab<|Lw.val (Ad O) O<|Lw.val (C7 (vs:=[]) (us:=[.pointer (some ⟨A_k,0,none⟩), .pointer (some ⟨A_l,0,none⟩)]) O O) O<|Al O O (filled_c x s' 227 [.pointer (some ⟨A_k,0,none⟩), .pointer (some ⟨A_l,0,none⟩)] (fun i=>jv k ts (Shapes.place s' (i:Int))) _ s_x okS (fun i a w' hb _ ha=>joinF_c A_k A_l k v ts (Shapes.place s' i) a w' (b_k.bs hb) (b_l.bs hb) (h6.bs hb) (by omega) hT (by rw [Shapes.place_length];exact hks) (by rw [Shapes.place_length];exact S.1.2) (gk ▸ Shapes.inn_at (Shapes.place_in (by omega) S.2.1) (k:=k) hks) (by omega) ha)) ?_
 rintro _ w ⟨hn,x1,x2,rfl,hm⟩
 have hm:=hm.k
 have zw6:=hn.size
 have b_r:=b_r.bs hn
 have hB:=bt hB hn
 have q_r:A_r<w6.heap.size:=by omega
 refine Lw.val (Ax (i:=0) O O) O<|Lw.val (Ax (i:=1) O O) O<|Ay (Bp (cs:=[x1,x2]) O O O O hm.at.one b_r O) ?_
 rintro w5 ⟨b_r5,hg, -⟩
 have hB5:=hB.grown hg (below_size hB) (by rintro _ ⟨⟩;omega)
 refine Lw.val (Ac O) O<|Af<|Aa<|Cw.out<|An<|Bf O O O (by assumption) (Tryz.underlying33) O O O ?_
 have zz:=below_size hB
 exact ⟨hB5,x1,x2,rfl,fun h=>absurd rfl h,fun _=>⟨(bl_krow hm.row hg q_r).mono (by omega),(bl_krow hm.col hg q_r).mono (by omega),hm.apart⟩⟩
end Go.Proofs.YtmipoeanpnnjoaaGreatDoor

/-! Plain laws on joining that the document's answer needs too. -/
namespace Go.Proofs.YtmipoeanpnnjoaaGreatDoor
open Go Go.Dd Go.RowKit
set_option maxRecDepth 100000

theorem tok_sz {s:List Int} {l:List (BitVec 32)} (h:tok s l=true):Shapes.ok s=true∧l.length=(Shapes.prod s).toNat:=by
 obtain ⟨h1,h2⟩:=tok_ok h
 exact ⟨h1,by rw [h2,Shapes.size_ok h1]⟩
theorem tat_pl {s p:List Int} {l:List (BitVec 32)} (h:tok s l=true) (hp:Shapes.inn s p=true):tatV s l p=pl s l p:=by
 unfold tatV Shapes.index pl
 rw [(tok_ok h).1,hp,h];rfl
/-! ### A direction that is changed -/
theorem set_split {s:List Int} {k:Nat} (h:k<s.length) (c:Int):s.set k c=s.take k++c::s.drop (k+1):=List.set_eq_take_append_cons_drop.trans (if_pos h)
theorem set_get {s:List Int} {k:Nat} (h:k<s.length):s.set k (s.getD k default)=s:=by
 have:s[k]=s.getD k default:=by simp [h]
 rw [← this];exact List.set_getElem_self h
theorem wo_set {s:List Int} {k:Nat} (h:k<s.length) (c:Int):wo (s.set k c) k=wo s k:=by
 have l1:(s.take k).length=k:=by rw [List.length_take];omega
 unfold wo
 rw [set_split h]
 congr 1
 ·rw [List.take_append_of_le_length (by omega),List.take_of_length_le (by omega)]
 ·rw [List.drop_append,List.drop_of_length_le (by omega),l1,show k+1 - k=1 by omega];rfl
theorem set_inn {s p:List Int} {k:Nat} (h:k<s.length) {c d:Int} (hp:Shapes.inn (s.set k c) p=true) (hd:p.getD k default<d):Shapes.inn (s.set k d) p=true:=by
 obtain ⟨l1,h1⟩:=Shapes.inn_iff.1 hp
 rw [List.length_set] at l1 h1
 refine Shapes.inn_iff.2 ⟨by rw [List.length_set];exact l1,fun i hi=> ?_⟩
 rw [List.length_set] at hi
 have hx:=h1 i hi
 by_cases e:i=k
 ·subst e
  rw [set_set_id h]
  exact ⟨hx.1,hd⟩
 ·have e1:∀c:Int,(s.set k c).getD i default=s.getD i default:=fun c=>by
   rw [List.getD_eq_getElem?_getD,List.getElem?_set_ne (by omega),List.getD_eq_getElem?_getD]
  rw [e1] at hx ⊢
  exact hx
theorem alk_iff {a b:List Int} {k:Nat} (h:k<b.length):alk a b k=true↔a=b.set k (a.getD k default):=by
 unfold alk
 simp only [Bool.and_eq_true,decide_eq_true_eq]
 constructor
 ·rintro ⟨⟨h1,h2⟩,h3⟩
  rw [set_split h,← h2,← h3]
  exact split_at (by omega)
 ·intro e
  have l1:(b.take k).length=k:=by rw [List.length_take];omega
  obtain ⟨c,hc⟩:∃c,c=a.getD k default:=⟨_,rfl⟩
  rw [← hc] at e
  refine ⟨⟨by rw [e,List.length_set], ?_⟩, ?_⟩
  ·rw [e,set_split h,List.take_append_of_le_length (by omega),List.take_of_length_le (by omega)]
  ·rw [e,set_split h,List.drop_append,List.drop_of_length_le (by omega),l1,show k+1 - k=1 by omega];rfl

/-! ### Some that can be joined -/
structure Jo (k:Nat) (s:List Int) (ts:List T4):Prop where
 few:1≤ts.length∧ts.length≤4
 one:s0T ts=s
 toks:∀t ∈ ts,tok t.s t.l=true
 hk:k<s.length
 als:∀t ∈ ts,t.s=s.set k (t.s.getD k default)
 oks:Shapes.ok (s.set k (jsum k ts))=true
theorem jnE_iff {ts:List T4} {k:Nat}:jnE ts (k:Int)=0↔Jo k (s0T ts) ts:=by
 constructor
 ·intro h
  have hA:jnA ts (k:Int)=false:=by
   cases hc:jnA ts (k:Int) with
   |false=>rfl
   |true=>rw [jnE_bad hc] at h;cases h
  have hC:((ts.all fun t=>alk t.s (s0T ts) (k:Int).toNat) && Shapes.ok (jnS ts (k:Int).toNat))=true:=by
   cases hc:((ts.all fun t=>alk t.s (s0T ts) (k:Int).toNat) && Shapes.ok (jnS ts (k:Int).toNat)) with
   |true=>rfl
   |false=>rw [jnE_ten hA hc] at h;cases h
  rw [Int.toNat_natCast,Bool.and_eq_true,List.all_eq_true] at hC
  simp only [jnA,Bool.or_eq_false_iff,decide_eq_false_iff_not] at hA
  obtain ⟨⟨⟨⟨a1,a2⟩,a3⟩,a4⟩,a5⟩:=hA
  have hk:k<(s0T ts).length:=by omega
  exact ⟨by omega,rfl,fun t ht=>badT_at a3 ht,hk,fun t ht=>(alk_iff hk).1 (hC.1 t ht),hC.2⟩
 ·intro J
  have hb:badT ts=false:=by
   cases hc:badT ts with
   |false=>rfl
   |true=>
    obtain ⟨t,ht,h⟩:=List.any_eq_true.1 hc
    rw [J.toks t ht] at h;cases h
  have hA:jnA ts (k:Int)=false:=by
   have:=J.few
   have:=J.hk
   unfold jnA
   rw [hb,decide_eq_false (by omega),decide_eq_false (by omega),decide_eq_false (by omega),decide_eq_false (by omega)];rfl
  unfold jnE
  rw [hA,Int.toNat_natCast,List.all_eq_true.2 fun t ht=>(alk_iff J.hk).2 (J.als t ht),show Shapes.ok (jnS ts k)=true from J.oks];rfl
theorem Jo.dim {k:Nat} {s:List Int} {ts:List T4} (J:Jo k s ts) {t:T4} (ht:t ∈ ts):1≤t.s.getD k default∧t.s.getD k default≤64∧k<t.s.length:=by
 have h:=J.als t ht
 have hk:k<t.s.length:=by rw [h,List.length_set];exact J.hk
 have:=dim_at ((Shapes.ok_iff t.s).1 (tok_ok (J.toks t ht)).1).2.1 hk
 exact ⟨this.1,this.2,hk⟩
theorem Jo.S {k:Nat} {s:List Int} {ts:List T4} (J:Jo k s ts):jnS ts k=s.set k (jsum k ts):=by unfold jnS;rw [J.one]
theorem Jo.L {k:Nat} {s:List Int} {ts:List T4} (J:Jo k s ts):jnL ts k=Go.Dd.mk (s.set k (jsum k ts)) (jv k ts):=by
 unfold jnL Go.Dd.mk
 rw [J.S,Shapes.size_ok J.oks]
theorem Jo.good {k:Nat} {s:List Int} {ts:List T4} (J:Jo k s ts):Shapes.good (s.set k (jsum k ts)):=((Shapes.ok_iff _).1 J.oks).2.1
theorem Jo.at {k:Nat} {s p:List Int} {ts:List T4} (J:Jo k s ts) (hp:Shapes.inn (s.set k (jsum k ts)) p=true):pl (jnS ts k) (jnL ts k) p=jv k ts p:=by
 rw [J.S,J.L];exact pl_mk J.good hp
end Go.Proofs.YtmipoeanpnnjoaaGreatDoor

/-! Lists of whole numbers in memory; some that are joined along a direction. -/
namespace Go.Proofs.YtmipoeanpnnjoaaGreatDoor
open Go Go.Dd Go.RowKit
set_option maxRecDepth 100000

instance:Inhabited T4:=⟨⟨.slice none 0 0, .slice none 0 0,[],[]⟩⟩
/-- Lists of whole numbers, in memory. -/
structure LI (w:World) (v:Value) (ps:List (Value×List Int)):Prop where
 sl:SlT (fun p:Value×List Int=>p.1) w v ps
 each:∀p ∈ ps,SlT (Value.int .i64) w p.1 p.2
abbrev ints2 (ps:List (Value×List Int)):List (List Int):=ps.map (·.2)
def jn1 (k:Nat) (s x:List Int):Option (List Int):=if x.length=s.length∧k<s.length∧(∀m,m<s.length→m≠k→s.getD m default=x.getD m default) then some (s.set k (s.getD k default+x.getD k default)) else none
def jnR (k:Nat):List Int→List (List Int)→Option (List Int)
 |s,[]=>some s
 |s,x::r=>match jn1 k s x with
  |some s' =>jnR k s' r
  |none=>none
theorem okd {s:List Int} (h:Shapes.ok s=true) {i:Nat} (hi:i<s.length):1≤s.getD i default∧s.getD i default≤64:=by
 rw [List.getD_eq_getElem?_getD,List.getElem?_eq_getElem hi]
 exact ((Shapes.ok_iff s).1 h).2.1 _ (List.getElem_mem hi)
end Go.Proofs.YtmipoeanpnnjoaaGreatDoor

/-! Contract: the document's shape of some that are joined. -/
namespace Go.Proofs.YtmipoeanpnnjoaaGreatDoor
open Go Go.Dd Go.RowKit
set_option maxRecDepth 100000

def jdA (l:List (List Int)) (al:Int):Bool:=decide (l.length<1)||decide (4<l.length)||l.any (fun s=> !Shapes.ok s)||decide (al<0)||decide (((l.headD []).length:Int)≤al)
def jdS (l:List (List Int)) (al:Int):Option (List Int):=jnR al.toNat (l.headD []) l.tail
def jdR:Option (List Int)→Int
 |some s=>if Shapes.ok s then 0 else 10
 |none=>10
def jdE (l:List (List Int)) (al:Int):Int:=if jdA l al then 1 else jdR (jdS l al)
theorem rjoined_c (v:Value) (ps:List (Value×List Int)) (al:Int) (W:World) (h:LI W v ps):
  Fnc Tryz.prog 151 [v, .int .i64 al] W (fun r w' =>Below W.heap.size W w' ∧∃x s,r= .tuple #[x, .int .i64 (jdE (ints2 ps) al)]∧SlT (Value.int .i64) w' x s∧(jdE (ints2 ps) al=0→jdS (ints2 ps) al=some s)):=by
 have hB:=Below.refl W.heap.size W
 have s_v:=h.sl
 have lv:ps.length≤9223372036854775807:=s_v.le
 obtain ⟨E,hE⟩:∃E,E=jdE (ints2 ps) al:=⟨_,rfl⟩
 rw [← hE]
 have li:(ints2 ps).length=ps.length:=List.length_map ..
 refine Ap (n:=100) Tryz.func151 (by kernel_rfl) O O O<|Ae<|Ab<|Lw.val (Ac O) O<|Lw.val (Ac O) O<|Af<|Aa<|Cw.out<|Ae<|Ae<|Ab<|Lw.val (Ad O) O<|Lw.val (Av st_125 O (by assumption)) O ?_
 refine Lw.val (Bh O O) O<|Lw.val (Ad O) O ?_
 refine Bt 13 O ?_ ?_
 ·intro g
  have g:ps.length<1:=by have:=of_decide_eq_true g;omega
  refine Ai (dj:=13) O O O O<|Ai (dj:=13) O O O O<|Ai (dj:=13) O O O O<|Lw.val (As O O) O<|Af<|Aa<|Cw.out<|Br O<|Ae<|Ab<|Lw.val (Ac O) O<|Lw.val (Ac O) O<|Af<|Aa<|Cw.out<|An<|Ak<|Bu O O O ?_
  have e1:E=1:=by
   rw [hE]
   unfold jdE
   rw [if_pos (by unfold jdA;rw [li,decide_eq_true g];rfl)]
  rw [e1]
  exact ⟨hB, .slice none 0 0,[],rfl,Sl.nil _ _,fun h=>by cases h⟩
 intro g1
 have g1:¬ps.length<1:=by have:=of_decide_eq_false g1;omega
 refine Lw.take (dj:=13) O O<|Lw.val (Ad O) O<|Lw.take (dj:=13) O O<|Lw.val (Av st_125 O (by assumption)) O ?_
 refine Lw.take (dj:=13) O O<|Lw.val (Cr O O) O<|Lw.val (Bd O O) O<|Af<|Aa<|Cw.out<|Au O ?_ ?_
 ·intro g
  have g:4<ps.length:=by have:=of_decide_eq_true g;omega
  refine Ae<|Ab<|Lw.val (Ac O) O<|Lw.val (Ac O) O<|Af<|Aa<|Cw.out<|An<|Ak<|Bu O O O ?_
  have e1:E=1:=by
   rw [hE]
   unfold jdE
   rw [if_pos (by unfold jdA;rw [li,decide_eq_true g];simp)]
  rw [e1]
  exact ⟨hB, .slice none 0 0,[],rfl,Sl.nil _ _,fun h=>by cases h⟩
 intro g2
 have g2:¬4<ps.length:=by have:=of_decide_eq_false g2;omega
 refine Aq<|Aa<|Cw.out<|Ae<|Ae<|Ab<|Lw.val (Ac O) O<|Af<|Aa<|Cw.out<|Cw.block ?_
 refine Bj (S:=Nat) (fun i=>[(0,v),(1, .int .i64 al),(6, .int .i64 (i:Int))]) (fun i w' =>i≤ps.length∧(∀p ∈ ps.take i,Shapes.ok p.2=true)∧Below W.heap.size W w') (fun i=>ps.length - i) (0) ⟨rfl,rfl,rfl,trivial⟩ ?_ ?_
 ·exact ⟨Nat.zero_le _,fun p hp=>by simp at hp,Below.refl _ _⟩
 rintro i w1 ⟨hi,hok,hB⟩
 have s_v1:=s_v.bs hB
 refine Ae<|Ae<|Ab<|Lw.val (Ad O) O<|Lw.val (Ad O) O<|Lw.val (Av st_125 O (by assumption)) O ?_
 refine Lw.val (Bh O O) O<|Af<|Aa<|Cw.out<|Au O ?_ ?_
 ·intro g
  have hi' :i<ps.length:=by have:=of_decide_eq_true g;omega
  obtain ⟨p,hp⟩:∃p,p=ps[i]:=⟨_,rfl⟩
  have pm:p ∈ ps:=hp ▸ List.getElem_mem hi'
  have s_p:=(h.each p pm).bs hB
  have ep:(ps.getD i default).1=p.1:=by rw [List.getD_eq_getElem?_getD,List.getElem?_eq_getElem hi',← hp];rfl
  refine Aq<|Aa<|Cw.out<|Ae<|Cw.block<|Ae<|Ab<|Lw.val (Ad O) O<|Lw.val (Ad O) O<|Lw.val (Ba st_125 O O s_v1 i O hi') O<|Lw.val (Ex.as (Bg (ag_23 _) O s_v1 hi') ep) O<|Al O O (rcheck_c p.1 p.2 w1 s_p) ?_
  rintro _ w2 ⟨rfl,hn⟩
  have hB2:=bt hB hn
  refine Lw.val (Bx O) O<|Af<|Aa<|Cw.out<|Au O ?_ ?_
  ·intro g3
   have g3:Shapes.ok p.2=false:=by simpa using g3
   refine Ae<|Ab<|Lw.val (Ac O) O<|Lw.val (Ac O) O<|Af<|Aa<|Cw.out<|An<|Bk<|Ak<|Ak<|Bk<|Ak<|Bu O O O ?_
   have e1:E=1:=by
    rw [hE]
    unfold jdE
    rw [if_pos (by unfold jdA;rw [show (ints2 ps).any (fun s=> !Shapes.ok s)=true from List.any_eq_true.2 ⟨p.2,List.mem_map_of_mem pm,by rw [g3];rfl⟩];simp)]
   rw [e1]
   exact ⟨hB2, .slice none 0 0,[],rfl,Sl.nil _ _,fun h=>by cases h⟩
  intro g3
  have g3:Shapes.ok p.2=true:=by simpa using g3
  refine Aq<|Bo<|Aa<|Cw.out<|Ab<|Lw.val (Ad O) O<|Lw.val (Bc O O (by omega)) O<|Lw.val (Ac O) O<|Af ?_
  have hok' :∀q ∈ ps.take (i+1),Shapes.ok q.2=true:=fun q hq=>by
   rw [List.take_succ_eq_append_getElem hi'] at hq
   rcases List.mem_append.1 hq with hq|hq
   ·exact hok q hq
   ·rw [List.mem_singleton.1 hq,← hp];exact g3
  exact Aa (Bq (i+1) ⟨rfl,rfl,rfl,trivial⟩ (⟨hi',hok',hB2⟩) (by omega))
 intro g
 have hi' :i=ps.length:=by have:=of_decide_eq_false g;omega
 rw [hi',List.take_length] at hok
 clear g hi hi'
 have l0:0<ps.length:=by omega
 obtain ⟨p0,hp0⟩:∃p,p=ps[0]:=⟨_,rfl⟩
 have pm0:p0 ∈ ps:=hp0 ▸ List.getElem_mem l0
 have s_p0:=(h.each p0 pm0).bs hB
 have ep0:(ps.getD 0 default).1=p0.1:=by rw [List.getD_eq_getElem?_getD,List.getElem?_eq_getElem l0,← hp0];rfl
 have eh:(ints2 ps).headD []=p0.2:=by
  rw [hp0]
  match ps,l0 with
  |a::l,_=>rfl
 have ok0:=hok p0 pm0
 have len0:=((Shapes.ok_iff p0.2).1 ok0).1
 refine Bi<|Am<|Am<|Az<|Aa<|Cw.out<|Ae<|Ae<|Ab<|Lw.val (Ad O) O<|Lw.val (Bh O O) O<|Lw.val (Ad O) O ?_
 refine Bt 32 O ?_ ?_
 ·intro g
  have g:=of_decide_eq_true g
  refine Ai (dj:=32) O O O O<|Ai (dj:=32) O O O O<|Ai (dj:=32) O O O O<|Ai (dj:=32) O O O O<|Ai (dj:=32) O O O O<|Ai (dj:=32) O O O O<|Lw.val (As O O) O<|Af<|Aa<|Cw.out<|Br O<|Ae<|Ab<|Lw.val (Ac O) O<|Lw.val (Ac O) O<|Af<|Aa<|Cw.out<|An<|Ak<|Bu O O O ?_
  have e1:E=1:=by
   rw [hE]
   unfold jdE
   rw [if_pos (by unfold jdA;rw [decide_eq_true g];simp)]
  rw [e1]
  exact ⟨hB, .slice none 0 0,[],rfl,Sl.nil _ _,fun h=>by cases h⟩
 intro g3
 have g3:¬al<0:=of_decide_eq_false g3
 refine Lw.take (dj:=32) O O<|Lw.val (Ad O) O<|Lw.take (dj:=32) O O<|Lw.val (Ad O) O<|Lw.take (dj:=32) O O<|Lw.val (Ba st_125 O O s_v1 0 O l0) O<|Lw.take (dj:=32) O O<|Lw.val (Ex.as (Bg (ag_23 _) O s_v1 l0) ep0) O<|Lw.take (dj:=32) O O<|Lw.val (Av st_23 O (by assumption)) O ?_
 refine Lw.take (dj:=32) O O<|Lw.val (Cu O O) O<|Lw.val (Bd O O) O<|Af<|Aa<|Cw.out<|Au O ?_ ?_
 ·intro g
  have g:=of_decide_eq_true g
  refine Ae<|Ab<|Lw.val (Ac O) O<|Lw.val (Ac O) O<|Af<|Aa<|Cw.out<|An<|Ak<|Bu O O O ?_
  have e1:E=1:=by
   rw [hE]
   unfold jdE
   rw [if_pos (by unfold jdA;rw [eh,decide_eq_true (show (p0.2.length:Int)≤al by omega)];simp)]
  rw [e1]
  exact ⟨hB, .slice none 0 0,[],rfl,Sl.nil _ _,fun h=>by cases h⟩
 intro g4
 have g4:al<(p0.2.length:Int):=by have:=of_decide_eq_false g4;omega
 obtain ⟨k,rfl⟩:∃k:Nat,al=(k:Int):=⟨al.toNat,by omega⟩
 have hk:k<p0.2.length:=by omega
 have hA:jdA (ints2 ps) (k:Int)=false:=by
  unfold jdA
  rw [li,eh,decide_eq_false g1,decide_eq_false g2,decide_eq_false g3,decide_eq_false (show ¬(p0.2.length:Int)≤(k:Int) by omega)]
  rw [List.any_eq_false.2 fun s hs=>by
   obtain ⟨p,hp,rfl⟩:=List.mem_map.1 hs
   rw [hok p hp];decide]
  rfl
 obtain ⟨R,hR⟩:∃R,R=jdS (ints2 ps) (k:Int):=⟨_,rfl⟩
 have hR2:jnR k p0.2 ((ints2 ps).drop 1)=R:=by
  rw [hR]
  unfold jdS
  rw [eh,Int.toNat_natCast,List.drop_one]
 have hER:E=jdR R:=by
  rw [hE,hR]
  unfold jdE
  rw [hA];rfl
 rw [← hR]
 clear hR hE hA eh
 refine Aq<|Aa<|Cw.out<|Ae<|Ab<|Lw.val (Ad O) O<|Lw.val (Ba st_125 O O s_v1 0 O l0) O<|Lw.val (Ex.as (Bg (ag_23 _) O s_v1 l0) ep0) O<|Bl (Cq (base:=W.heap.size) st_23 it_3 O (by decide) O O (World.ownsRow_nil _ _ _ _) s_p0 (one_map (fun _=>rfl) _) (by omega) (by omega) hB.size) O ?_
 rintro x0 w2 ⟨o_x,hn, -⟩
 rw [List.nil_append,Nat.zero_add] at o_x
 have hB:=hB.trans hn
 refine Lw.val (Ac O) O<|Af<|Aa<|Cw.out<|Ae<|Ae<|Ab<|Lw.val (Ac O) O<|Af<|Aa<|Cw.out<|Cw.block ?_
 refine Bj (S:=(Nat×Value×List Int)) (fun z=>[(0,v),(1, .int .i64 (k:Int)),(7,z.2.1),(8, .int .i64 (z.1:Int))]) (fun z w' =>1≤z.1∧z.1≤ps.length∧w'.ownsRow W.heap.size 3 1 z.2.1 z.2.2.length (z.2.2.map (Value.int .i64))∧z.2.2.length=p0.2.length∧(0≤z.2.2.getD k default∧z.2.2.getD k default≤64*(z.1:Int))∧jnR k z.2.2 ((ints2 ps).drop z.1)=R∧Below W.heap.size W w') (fun z=>ps.length - z.1) ((1,x0,p0.2)) ⟨rfl,rfl,rfl,rfl,trivial⟩ ?_ ?_
 ·have:=okd ok0 hk
  exact ⟨Nat.le_refl _,l0,o_x,rfl,by simp only;omega,hR2,hB⟩
 rintro ⟨i,x,s⟩ w3 ⟨h1,hi,o_x,ls,hs,hJ,hB⟩
 replace h1:1≤i:=h1
 replace hi:i≤ps.length:=hi
 replace o_x:w3.ownsRow W.heap.size 3 1 x s.length (s.map (Value.int .i64)):=o_x
 replace ls:s.length=p0.2.length:=ls
 replace hs:0≤s.getD k default∧s.getD k default≤64*(i:Int):=hs
 replace hJ:jnR k s ((ints2 ps).drop i)=R:=hJ
 have s_v3:=s_v.bs hB
 have s_x:=own_slT o_x
 refine Ae<|Ae<|Ab<|Lw.val (Ad O) O<|Lw.val (Ad O) O<|Lw.val (Av st_125 O (by assumption)) O ?_
 refine Lw.val (Bh O O) O<|Af<|Aa<|Cw.out<|Au O ?_ ?_
 ·intro g
  have hi' :i<ps.length:=by have:=of_decide_eq_true g;omega
  obtain ⟨p,hp⟩:∃p,p=ps[i]:=⟨_,rfl⟩
  have pm:p ∈ ps:=hp ▸ List.getElem_mem hi'
  have s_p:=(h.each p pm).bs hB
  have okp:=hok p pm
  have ep:(ps.getD i default).1=p.1:=by rw [List.getD_eq_getElem?_getD,List.getElem?_eq_getElem hi',← hp];rfl
  have ed:(ints2 ps).drop i=p.2::(ints2 ps).drop (i+1):=by
   rw [List.drop_eq_getElem_cons (by rw [li];exact hi')]
   congr 1
   rw [hp];exact List.getElem_map ..
  rw [ed] at hJ
  have hno:jn1 k s p.2=none→E=10:=fun hn=>by
   unfold jnR at hJ
   rw [hn] at hJ
   rw [hER,← hJ]
   rfl
  refine Aq<|Aa<|Cw.out<|Ae<|Cw.block<|Ae<|Ae<|Ab<|Lw.val (Ad O) O<|Lw.val (Ad O) O<|Lw.val (Ba st_125 O O s_v3 i O hi') O<|Lw.val (Ex.as (Bg (ag_23 _) O s_v3 hi') ep) O<|Lw.val (Av st_23 O (by assumption)) O ?_
  refine Lw.val (Ad O) O<|Lw.val (Av st_23 O (by assumption)) O ?_
  refine Lw.val (B7 O O) O<|Af<|Aa<|Cw.out<|Au O ?_ ?_
  ·intro g5
   have g5:¬p.2.length=s.length:=fun e=>by rw [e] at g5;simp at g5
   have e10:=hno (by unfold jn1;rw [if_neg fun h=>g5 h.1])
   refine Ae<|Ab<|Lw.val (Ac O) O<|Lw.val (Ac O) O<|Af<|Aa<|Cw.out<|An<|Ak<|Bk<|Ak<|Ak<|Bk<|Ak<|Bu O O O ?_
   rw [e10]
   exact ⟨hB, .slice none 0 0,[],rfl,Sl.nil _ _,fun h=>by cases h⟩
  intro g5
  have g5:p.2.length=s.length:=by simp at g5;omega
  refine Aq<|Aa<|Cw.out<|Ae<|Ae<|Ab<|Lw.val (Ac O) O<|Af<|Aa<|Cw.out<|Cw.block ?_
  refine Bj (S:=Nat) (fun m=>[(0,v),(1, .int .i64 (k:Int)),(7,x),(8, .int .i64 (i:Int)),(9, .int .i64 (m:Int))]) (fun m w' =>m≤s.length∧(∀j,j<m→j≠k→s.getD j default=p.2.getD j default)∧w'.ownsRow W.heap.size 3 1 x s.length (s.map (Value.int .i64))∧Below w3.heap.size w3 w') (fun m=>s.length - m) (0) ⟨rfl,rfl,rfl,rfl,rfl,trivial⟩ ?_ ?_
  ·exact ⟨Nat.zero_le _,fun j hj=>by omega,o_x,Below.refl _ _⟩
  rintro m w4 ⟨hm,hall,o_x,hB4⟩
  have hBW:=bt hB hB4
  have s_v4:=s_v3.bs hB4
  have s_p4:=s_p.bs hB4
  have s_x:=own_slT o_x
  refine Ae<|Ae<|Ab<|Lw.val (Ad O) O<|Lw.val (Ad O) O<|Lw.val (Av st_23 O (by assumption)) O ?_
  refine Lw.val (Bh O O) O<|Af<|Aa<|Cw.out<|Au O ?_ ?_
  ·intro g6
   have hm' :m<s.length:=by have:=of_decide_eq_true g6;omega
   have hmp:m<p.2.length:=by omega
   refine Aq<|Aa<|Cw.out<|Ae<|Cw.block<|Ae<|B5 mixed (by kernel_rfl)<|Qw.val (fun w1 hq=>Ad O) O<|Qw.val (fun w1 hq=>Ad O) O<|Qw.val (fun w1 hq=>B7 O O) O<|Qw.val (fun w1 hq=>Ad O) O ?_
   refine Cl 67 O ?_ ?_
   ·intro g7
    have g7:¬m=k:=fun e=>by rw [e] at g7;simp at g7
    refine Qw.take (dj:=67) O O<|Qw.val (fun w1 hq=>Ad O) O<|Qw.take (dj:=67) O O<|Qw.val (fun w1 hq=>Ad O) O<|Qw.take (dj:=67) O O<|Qw.val (fun w1 hq=>Ba st_125 O O (s_v4.bs hq) i O hi') O<|Qw.take (dj:=67) O O<|Qw.val (fun w1 hq=>Ex.as (Bg (ag_23 _) O (s_v4.bs hq) hi') ep) O<|Qw.take (dj:=67) O O<|Qw.val (fun w1 hq=>Ad O) O<|Qw.take (dj:=67) O O<|Qw.val (fun w1 hq=>Ba st_23 O O (Sl.bs (by assumption) hq) _ O (by omega)) O ?_
    refine Qw.take (dj:=67) O O<|Qw.val (fun w1 hq=>Bg (ag_3 _) O (Sl.bs (by assumption) hq) (by omega)) O ?_
    refine Qw.take (dj:=67) O O<|Qw.val (fun w1 hq=>Ad O) O<|Qw.take (dj:=67) O O<|Qw.val (fun w1 hq=>Ad O) O<|Qw.take (dj:=67) O O<|Qw.val (fun w1 hq=>Ba st_23 O O (Sl.bs (by assumption) hq) _ O (by omega)) O ?_
    refine Qw.take (dj:=67) O O<|Qw.val (fun w1 hq=>Bg (ag_3 _) O (Sl.bs (by assumption) hq) (by omega)) O ?_
    refine Qw.take (dj:=67) O O<|Qw.val (fun w1 hq=>B7 O O) O<|Qw.val (fun w1 hq=>As O O) O ?_
    refine B3 (fun w5 hq=> ?_)
    refine Aa<|Cw.out ?_
    have hB5:=bt hB4 hq
    have o_x5:=own_bs o_x hq
    refine Au O ?_ ?_
    ·intro g8
     have g8:¬s.getD m default=p.2.getD m default:=fun e=>by rw [e] at g8;simp at g8
     have e10:=hno (by unfold jn1;rw [if_neg fun h=>g8 (h.2.2 m hm' g7)])
     refine Ae<|Ab<|Lw.val (Ac O) O<|Lw.val (Ac O) O<|Af<|Aa<|Cw.out<|An<|Bk<|Ak<|Ak<|Bk<|Ak<|Bk<|Ak<|Ak<|Bk<|Ak<|Bu O O O ?_
     rw [e10]
     exact ⟨bt hB hB5, .slice none 0 0,[],rfl,Sl.nil _ _,fun h=>by cases h⟩
    intro g8
    have g8:s.getD m default=p.2.getD m default:=by simp at g8;simpa using g8.symm
    refine Aq<|Bo<|Aa<|Cw.out<|Ab<|Lw.val (Ad O) O<|Lw.val (Bc O O (by omega)) O<|Lw.val (Ac O) O<|Af ?_
    have hall' :∀j,j<m+1→j≠k→s.getD j default=p.2.getD j default:=fun j hj hne=>
     (Nat.lt_succ_iff_lt_or_eq.1 hj).elim (fun h=>hall j h hne) (fun h=>by rw [h];exact g8)
    exact Aa (Bq (m+1) ⟨rfl,rfl,rfl,rfl,rfl,trivial⟩ (⟨hm',hall',o_x5,hB5⟩) (by omega))
   intro g7
   have g7:m=k:=by simp at g7;omega
   refine Ao (dj:=67) O O O O<|Ao (dj:=67) O O O O<|Ao (dj:=67) O O O O<|Ao (dj:=67) O O O O<|Ao (dj:=67) O O O O<|Ao (dj:=67) O O O O<|Ao (dj:=67) O O O O<|Ao (dj:=67) O O O O<|Ao (dj:=67) O O O O<|Ao (dj:=67) O O O O<|Ao (dj:=67) O O O O<|Ao (dj:=67) O O O O<|Qw.val (fun w1 hq=>Bd O O) O ?_
   refine B3 (fun w5 hq=> ?_)
   refine Aa<|Cw.out<|C9 O<|Aq<|Bo<|Aa<|Cw.out<|Ab<|Lw.val (Ad O) O<|Lw.val (Bc O O (by omega)) O<|Lw.val (Ac O) O<|Af ?_
   have hB5:=bt hB4 hq
   have o_x5:=own_bs o_x hq
   have hall' :∀j,j<m+1→j≠k→s.getD j default=p.2.getD j default:=fun j hj hne=>
    (Nat.lt_succ_iff_lt_or_eq.1 hj).elim (fun h=>hall j h hne) (fun h=>absurd (h.trans g7) hne)
   exact Aa (Bq (m+1) ⟨rfl,rfl,rfl,rfl,rfl,trivial⟩ (⟨hm',hall',o_x5,hB5⟩) (by omega))
  intro g6
  have hm' :m=s.length:=by have:=of_decide_eq_false g6;omega
  rw [hm'] at hall
  clear g6 hm hm'
  have hks:k<s.length:=by omega
  have hkp:k<p.2.length:=by omega
  have e1:jn1 k s p.2=some (s.set k (s.getD k default+p.2.getD k default)):=by unfold jn1;rw [if_pos ⟨g5,hks,hall⟩]
  have hJ2:jnR k (s.set k (s.getD k default+p.2.getD k default)) ((ints2 ps).drop (i+1))=R:=by
   unfold jnR at hJ
   rw [e1] at hJ
   exact hJ
  have dk:=okd okp hkp
  refine Bi<|Am<|Am<|Az<|Aa<|Cw.out<|Cw.tail 15 mixed (by kernel_rfl)<|Qw.val (fun w1 hq=>Ad O) O<|Qw.val (fun w1 hq=>Ad O) O<|Qw.val (fun w1 hq=>Ad O) O<|Qw.val (fun w1 hq=>Ad O) O<|Qw.val (fun w1 hq=>Ba st_23 O O (s_x.bs hq) k O hks) O<|Qw.val (fun w1 hq=>Bg (ag_3 _) O (s_x.bs hq) hks) O<|Qw.val (fun w1 hq=>Ad O) O<|Qw.val (fun w1 hq=>Ad O) O<|Qw.val (fun w1 hq=>Ba st_125 O O (s_v4.bs hq) i O hi') O<|Qw.val (fun w1 hq=>Ex.as (Bg (ag_23 _) O (s_v4.bs hq) hi') ep) O<|Qw.val (fun w1 hq=>Ad O) O<|Qw.val (fun w1 hq=>Ba st_23 O O (s_p4.bs hq) k O hkp) O<|Qw.val (fun w1 hq=>Bg (ag_3 _) O (s_p4.bs hq) hkp) O<|Qw.val (fun w1 hq=>Bc O O (by omega)) O<|Qw.val (fun w1 hq=>Ba st_23 O O (s_x.bs hq) k O hks) O ?_
  refine Cj (fun w5 hq=> ?_)
  have hB5:=bt hB4 hq
  have o_x5:=own_bs o_x hq
  refine Ay (Cv (u:= .int .i64 (s.getD k default+p.2.getD k default)) (sz_3 _) O O O o_x5 (by rw [List.length_map];exact hks)) ?_
  rintro w6 ⟨o_x6,hg,hz⟩
  rw [← List.map_set] at o_x6
  have hBW5:=bt hB hB5
  have hB6:=hBW5.grown hg hBW5.size (fun b e=>(own_block o_x5 b e).1)
  refine Af<|Bo<|Aa<|Cw.out<|Ab<|Lw.val (Ad O) O<|Lw.val (Bc O O (by omega)) O<|Lw.val (Ac O) O<|Af ?_
  exact Aa (Bq ((i+1,x,s.set k (s.getD k default+p.2.getD k default))) ⟨rfl,rfl,rfl,rfl,trivial⟩ (⟨by simp only;omega,hi',by simp only [List.length_set];exact o_x6,by simp only [List.length_set];exact ls,by simp only;rw [show (s.set k (s.getD k default+p.2.getD k default)).getD k default=s.getD k default+p.2.getD k default by simp [hks]];omega,hJ2,hB6⟩) (by simp only;omega))
 intro g
 have hi' :i=ps.length:=by have:=of_decide_eq_false g;omega
 rw [hi',List.drop_of_length_le (by rw [li];exact Nat.le_refl _)] at hJ
 have hRs:R=some s:=by rw [← hJ];rfl
 rw [hRs] at hER ⊢
 refine Bi<|Am<|Am<|Az<|Aa<|Cw.out<|Ae<|Ae<|Ab<|Lw.val (Ad O) O<|Al O O (rcheck_c x s w3 s_x) ?_
 rintro _ w4 ⟨rfl,hn⟩
 have hB4:=bt hB hn
 refine Lw.val (Bx O) O<|Af<|Aa<|Cw.out<|Au O ?_ ?_
 ·intro g5
  have g5:Shapes.ok s=false:=by simpa using g5
  have e10:E=10:=by rw [hER];show (if Shapes.ok s=true then (0:Int) else 10)=10;rw [g5];rfl
  refine Ae<|Ab<|Lw.val (Ac O) O<|Lw.val (Ac O) O<|Af<|Aa<|Cw.out<|An<|Ak<|Bu O O O ?_
  rw [e10]
  exact ⟨hB4, .slice none 0 0,[],rfl,Sl.nil _ _,fun h=>by cases h⟩
 intro g5
 have g5:Shapes.ok s=true:=by simpa using g5
 have e0:E=0:=by rw [hER];show (if Shapes.ok s=true then (0:Int) else 10)=0;rw [g5];rfl
 refine Aq<|Aa<|Cw.out<|Ae<|Ab<|Lw.val (Ad O) O<|Lw.val (Ac O) O<|Lw.val (Ac O) O<|Af<|Aa<|Cw.out<|An<|Bu O O O ?_
 rw [e0]
 exact ⟨hB4,x,s,rfl,s_x.bs hn,fun _=>rfl⟩
end Go.Proofs.YtmipoeanpnnjoaaGreatDoor

/-! Plain laws: the document's joined shape is ours; where the numbers of each go. -/
namespace Go.Proofs.YtmipoeanpnnjoaaGreatDoor
open Go Go.Dd Go.RowKit
set_option maxRecDepth 100000

theorem ext_getD {a b:List Int} (h:a.length=b.length) (g:∀j,j<a.length→a.getD j default=b.getD j default):a=b:=by
 refine List.ext_getElem h fun i h1 h2=> ?_
 simpa [h1,h2] using g i h1
theorem set_ne {s:List Int} {k m:Nat} {c:Int} (h:m≠k):(s.set k c).getD m default=s.getD m default:=by
 rw [List.getD_eq_getElem?_getD,List.getElem?_set_ne (by omega),List.getD_eq_getElem?_getD]
theorem alk_jn {k:Nat} {s x:List Int} (hk:k<s.length):alk x s k=true↔(x.length=s.length∧k<s.length∧∀m,m<s.length→m≠k→s.getD m default=x.getD m default):=by
 rw [alk_iff hk]
 constructor
 ·intro e
  have hl:x.length=s.length:=by rw [e,List.length_set]
  refine ⟨hl,hk,fun m hm hne=> ?_⟩
  rw [e,set_ne hne]
 ·rintro ⟨h1,h2,h3⟩
  refine ext_getD (by rw [List.length_set,h1]) fun j hj=> ?_
  by_cases e:j=k
  ·rw [e,set_set_id hk]
  ·rw [set_ne e,h3 j (by omega) e]
theorem jnR_all {k:Nat}:∀{ts:List T4} {s:List Int},k<s.length→jnR k s (ts.map (·.s))=if ts.all (fun t=>alk t.s s k) then some (s.set k (s.getD k default+jsum k ts)) else none
 |[],s,hk=>by
  show some s=_
  simp only [List.all_nil,if_true,jsum,Int.add_zero]
  rw [set_get hk]
 |t::ts,s,hk=>by
  have ih:=jnR_all (ts:=ts) (s:=s.set k (s.getD k default+t.s.getD k default)) (by rw [List.length_set];exact hk)
  rw [List.map_cons,jnR,List.all_cons]
  by_cases h:alk t.s s k=true
  ·rw [h,Bool.true_and]
   have e:jn1 k s t.s=some (s.set k (s.getD k default+t.s.getD k default)):=by unfold jn1;rw [if_pos ((alk_jn hk).1 h)]
   rw [e]
   show jnR k _ _=_
   rw [ih,set_set_id hk,List.set_set,show s.getD k default+t.s.getD k default+jsum k ts=s.getD k default+jsum k (t::ts) by simp only [jsum];omega]
   have e2:(ts.all fun u=>alk u.s (s.set k (s.getD k default+t.s.getD k default)) k)=ts.all fun u=>alk u.s s k:=by
    congr 1;funext u;exact alk_set _
   rw [e2]
  ·have h:alk t.s s k=false:=by simpa using h
   have e:jn1 k s t.s=none:=by
    unfold jn1
    rw [if_neg fun g=>by rw [(alk_jn hk).2 g] at h;cases h]
   rw [e,h];rfl
theorem jdE_jnE {ts:List T4} (al:Int) (h:badT ts=false):jdE (ts.map (·.s)) al=jnE ts al∧(jnE ts al=0→jdS (ts.map (·.s)) al=some (jnS ts al.toNat)):=by
 have e1:(ts.map (·.s)).any (fun s=> !Shapes.ok s)=false:=List.any_eq_false.2 fun s hs=>by
  obtain ⟨t,ht,rfl⟩:=List.mem_map.1 hs
  rw [(tok_ok (badT_at h ht)).1];decide
 have e2:(ts.map (·.s)).headD []=s0T ts:=by cases ts<;>rfl
 have eA:jdA (ts.map (·.s)) al=jnA ts al:=by unfold jdA jnA;rw [e1,e2,h,List.length_map]
 cases hA:jnA ts al with
 |true=>
  rw [hA] at eA
  unfold jdE jnE
  rw [eA,hA]
  exact ⟨rfl,fun h=>by cases h⟩
 |false=>
  rw [hA] at eA
  simp only [jnA,Bool.or_eq_false_iff,decide_eq_false_iff_not] at hA
  obtain ⟨⟨⟨⟨a1,a2⟩,a3⟩,a4⟩,a5⟩:=hA
  obtain ⟨k,rfl⟩:∃k:Nat,al=(k:Int):=⟨al.toNat,by omega⟩
  have hk:k<(s0T ts).length:=by omega
  cases ts with
  |nil=>cases hk
  |cons t r=>
   have hk:k<t.s.length:=hk
   have eS:jdS ((t::r).map (·.s)) (k:Int)=if r.all (fun u=>alk u.s t.s k) then some (jnS (t::r) k) else none:=jnR_all hk
   have et:alk t.s t.s k=true:=(alk_iff hk).2 (set_get hk).symm
   have hA2:jnA (t::r) (k:Int)=false:=by
    unfold jnA
    rw [h,decide_eq_false a1,decide_eq_false a2,decide_eq_false a4,decide_eq_false a5];rfl
   have e3:jdE ((t::r).map (·.s)) (k:Int)=jdR (jdS ((t::r).map (·.s)) (k:Int)):=by unfold jdE;rw [eA];rfl
   have e4:jnE (t::r) (k:Int)=if (r.all fun u=>alk u.s t.s k) && Shapes.ok (jnS (t::r) k) then 0 else 10:=by
    unfold jnE
    rw [hA2,Int.toNat_natCast,List.all_cons,show s0T (t::r)=t.s from rfl,et,Bool.true_and];rfl
   rw [e3,e4,eS,Int.toNat_natCast]
   cases r.all fun u=>alk u.s t.s k with
   |true=>exact ⟨rfl,fun _=>rfl⟩
   |false=>exact ⟨rfl,fun h=>by cases h⟩

/-! ### Where each number goes -/
/-- Where number j of the i-th one goes. -/
def tgt (ts:List T4) (k i j:Nat):Nat:=(Shapes.idx (jnS ts k) ((Shapes.place (ts.getD i default).s (j:Int)).set k ((Shapes.place (ts.getD i default).s (j:Int)).getD k default+jsum k (ts.take i)))).toNat
theorem jsum_nn {k:Nat}:∀{ts:List T4},(∀t ∈ ts,0≤t.s.getD k default)→0≤jsum k ts
 |[],_=>Int.le_refl 0
 |t::ts,h=>by
  have h1:=h t (by simp)
  have h2:=jsum_nn (ts:=ts) fun u hu=>h u (by simp [hu])
  show 0≤t.s.getD k default+jsum k ts
  omega
theorem jv_far {k:Nat}:∀{us:List T4} {vs:List T4} {t:T4} {q:List Int},(∀u ∈ us,0≤u.s.getD k default)→k<q.length→0≤q.getD k default→q.getD k default<t.s.getD k default→
  jv k (us++t::vs) (q.set k (q.getD k default+jsum k us))=tatV t.s t.l q
 |[],vs,t,q,_,hk,h0,h1=>by
  simp only [jsum,Int.add_zero,List.nil_append]
  rw [set_get hk]
  unfold jv
  rw [if_pos h1]
 |u::us,vs,t,q,hu,hk,h0,h1=>by
  have p1:=hu u (by simp)
  have p2:0≤jsum k us:=jsum_nn fun v hv=>hu v (by simp [hv])
  have ih:=jv_far (us:=us) (vs:=vs) (t:=t) (q:=q) (fun v hv=>hu v (by simp [hv])) hk h0 h1
  rw [List.cons_append]
  unfold jv
  rw [set_set_id hk,show jsum k (u::us)=u.s.getD k default+jsum k us from rfl,if_neg (by omega),List.set_set,show q.getD k default+(u.s.getD k default+jsum k us) - u.s.getD k default=q.getD k default+jsum k us by omega]
  exact ih
theorem jn_near {k:Nat} {s:List Int}:∀{ts:List T4} {p:List Int},(∀t ∈ ts,t.s=s.set k (t.s.getD k default))→k<s.length→Shapes.inn (s.set k (jsum k ts)) p=true→
  ∃i,∃hi:i<ts.length,∃q,Shapes.inn ts[i].s q=true∧p=q.set k (q.getD k default+jsum k (ts.take i))
 |[],p,_,hk,hp=>by
  have:=Shapes.inn_at hp (k:=k) (by rw [List.length_set];exact hk)
  rw [set_set_id hk] at this
  simp only [jsum] at this
  omega
 |t::ts,p,ha,hk,hp=>by
  have ip:=Shapes.inn_at hp (k:=k) (by rw [List.length_set];exact hk)
  rw [set_set_id hk,show jsum k (t::ts)=t.s.getD k default+jsum k ts from rfl] at ip
  have lp:=Shapes.inn_length hp
  rw [List.length_set] at lp
  by_cases g:p.getD k default<t.s.getD k default
  ·refine ⟨0,by simp,p, ?_, ?_⟩
   ·show Shapes.inn t.s p=true
    rw [ha t (by simp)]
    exact set_inn hk hp g
   ·simp only [List.take_zero,jsum,Int.add_zero]
    rw [set_get (by omega)]
  ·have hq:Shapes.inn (s.set k (jsum k ts)) (p.set k (p.getD k default - t.s.getD k default))=true:=by
    obtain ⟨l1,h1⟩:=Shapes.inn_iff.1 hp
    refine Shapes.inn_iff.2 ⟨by rw [List.length_set,List.length_set];exact lp,fun m hm=> ?_⟩
    rw [List.length_set] at hm
    by_cases e:m=k
    ·subst e
     rw [set_set_id hk,set_set_id (by omega)]
     omega
    ·have:=h1 m (by rw [List.length_set];exact hm)
     rw [set_ne e] at this ⊢
     rw [set_ne e]
     exact this
   obtain ⟨i,hi,q,h1,h2⟩:=jn_near (ts:=ts) (fun u hu=>ha u (by simp [hu])) hk hq
   refine ⟨i+1,by simp only [List.length_cons];omega,q,h1, ?_⟩
   have lq:k<q.length:=by
    have:=congrArg List.length h2
    rw [List.length_set,List.length_set] at this
    omega
   have e1:=congrArg (fun l:List Int=>l.getD k default) h2
   simp only [set_set_id lq,set_set_id (show k<p.length by omega)] at e1
   have e2:(p.set k (p.getD k default - t.s.getD k default)).set k (p.getD k default)=p:=by
    rw [List.set_set,set_get (by omega)]
   rw [← e2,h2,List.set_set,List.take_succ_cons,show jsum k (t::ts.take i)=t.s.getD k default+jsum k (ts.take i) from rfl]
   congr 1
   omega
theorem Jo.each {k:Nat} {s:List Int} {ts:List T4} (J:Jo k s ts) {i:Nat} (hi:i<ts.length) {j:Nat} (hj:(j:Int)<Shapes.prod ts[i].s):
  Shapes.inn (jnS ts k) ((Shapes.place ts[i].s (j:Int)).set k ((Shapes.place ts[i].s (j:Int)).getD k default+jsum k (ts.take i)))=true∧tgt ts k i j<(jnL ts k).length∧(jnL ts k).getD (tgt ts k i j) default=ts[i].l.getD j default:=by
 have ht:=List.getElem_mem hi
 have d:=J.dim ht
 obtain ⟨o1,o2⟩:=tok_sz (J.toks _ ht)
 have g:=((Shapes.ok_iff _).1 o1).2.1
 obtain ⟨q,hq⟩:∃q,q=Shapes.place ts[i].s (j:Int):=⟨_,rfl⟩
 have iq:Shapes.inn ts[i].s q=true:=by rw [hq];exact Shapes.place_in (by omega) g
 have lq:=Shapes.inn_length iq
 have aq:=Shapes.inn_at iq d.2.2
 have hk:=J.hk
 have e0:ts=ts.take i++ts[i]::ts.drop (i+1):=by
  rw [← List.drop_eq_getElem_cons hi,List.take_append_drop]
 have dn:∀u ∈ ts,0≤u.s.getD k default:=fun u hu=>by have:=(J.dim hu).1;omega
 have n1:0≤jsum k (ts.take i):=jsum_nn fun u hu=>dn u (List.mem_of_mem_take hu)
 have n2:0≤jsum k (ts.drop (i+1)):=jsum_nn fun u hu=>dn u (List.mem_of_mem_drop hu)
 have es:jsum k ts=jsum k (ts.take i)+(ts[i].s.getD k default+jsum k (ts.drop (i+1))):=by
  conv=>lhs;rw [e0,jsum_append]
  rfl
 have eg:ts.getD i default=ts[i]:=by rw [List.getD_eq_getElem?_getD,List.getElem?_eq_getElem hi];rfl
 have inn:Shapes.inn (s.set k (jsum k ts)) (q.set k (q.getD k default+jsum k (ts.take i)))=true:=by
  have ls:ts[i].s.length=s.length:=by rw [J.als _ ht,List.length_set]
  refine Shapes.inn_iff.2 ⟨by rw [List.length_set,List.length_set];omega,fun m hm=> ?_⟩
  rw [List.length_set] at hm
  by_cases e:m=k
  ·subst e
   rw [set_set_id hk,set_set_id (by omega)]
   omega
  ·have:=Shapes.inn_at iq (k:=m) (by omega)
   rw [J.als _ ht,set_ne e] at this
   rw [set_ne e,set_ne e]
   exact this
 have lt:=Shapes.idx_lt J.good inn
 have lL:(jnL ts k).length=(Shapes.prod (s.set k (jsum k ts))).toNat:=by rw [J.L];exact mk_length _ _
 have eT:tgt ts k i j=(Shapes.idx (s.set k (jsum k ts)) (q.set k (q.getD k default+jsum k (ts.take i)))).toNat:=by unfold tgt;rw [eg,← hq,J.S]
 refine ⟨by rw [← hq,J.S];exact inn,by rw [eT,lL];omega, ?_⟩
 have at1:=J.at inn
 unfold pl at at1
 rw [J.S] at at1
 rw [eT,at1]
 have e3:jv k ts (q.set k (q.getD k default+jsum k (ts.take i)))=tatV ts[i].s ts[i].l q:=by
  have:=jv_far (k:=k) (us:=ts.take i) (vs:=ts.drop (i+1)) (t:=ts[i]) (q:=q) (fun u hu=>dn u (List.mem_of_mem_take hu)) (by omega) aq.1 aq.2
  rw [← e0] at this
  exact this
 rw [e3,tat_pl (J.toks _ ht) iq]
 unfold pl
 rw [hq,Shapes.idx_place (by omega) g,Int.emod_eq_of_lt (by omega) hj,Int.toNat_natCast]
theorem Jo.onto {k:Nat} {s:List Int} {ts:List T4} (J:Jo k s ts) {n:Nat} (hn:n<(jnL ts k).length):∃i,∃hi:i<ts.length,∃j:Nat,(j:Int)<Shapes.prod ts[i].s∧tgt ts k i j=n:=by
 have lL:(jnL ts k).length=(Shapes.prod (s.set k (jsum k ts))).toNat:=by rw [J.L];exact mk_length _ _
 have ip:=Shapes.place_in (i:=(n:Int)) (by omega) J.good
 obtain ⟨i,hi,q,h1,h2⟩:=jn_near J.als J.hk ip
 have ht:=List.getElem_mem hi
 obtain ⟨o1,o2⟩:=tok_sz (J.toks _ ht)
 have g:=((Shapes.ok_iff _).1 o1).2.1
 have lt:=Shapes.idx_lt g h1
 have eg:ts.getD i default=ts[i]:=by rw [List.getD_eq_getElem?_getD,List.getElem?_eq_getElem hi];rfl
 refine ⟨i,hi,(Shapes.idx ts[i].s q).toNat,by omega, ?_⟩
 unfold tgt
 rw [eg,Int.toNat_of_nonneg lt.1,Shapes.place_idx g h1,← h2,J.S,Shapes.idx_place (by omega) J.good,Int.emod_eq_of_lt (by omega) (by omega),Int.toNat_natCast]
/-- What is written so far: all of those ahead of the i-th one, and j of it. -/
structure Done (ts:List T4) (k i j:Nat) (m:List (BitVec 32)):Prop where
 len:m.length=(jnL ts k).length
 old:∀(a b:Nat),a<i→(b:Int)<Shapes.prod (ts.getD a default).s→m.getD (tgt ts k a b) default=(jnL ts k).getD (tgt ts k a b) default
 now:∀b,b<j→m.getD (tgt ts k i b) default=(jnL ts k).getD (tgt ts k i b) default
theorem getD_set_same {L m:List (BitVec 32)} {q n:Nat} (hq:q<m.length) (h:m.getD n default=L.getD n default∨n=q):(m.set q (L.getD q default)).getD n default=L.getD n default:=by
 by_cases e:n=q
 ·rw [e];exact getD_set hq
 ·rw [List.getD_eq_getElem?_getD,List.getElem?_set_ne (by omega),← List.getD_eq_getElem?_getD]
  exact h.resolve_right e
theorem Done.set {ts:List T4} {k i j:Nat} {m:List (BitVec 32)} (h:Done ts k i j m) (ht:tgt ts k i j<(jnL ts k).length):Done ts k i (j+1) (m.set (tgt ts k i j) ((jnL ts k).getD (tgt ts k i j) default)):=by
 have hm:tgt ts k i j<m.length:=by rw [h.len];exact ht
 refine ⟨by rw [List.length_set];exact h.len,fun a b ha hb=>getD_set_same hm (.inl (h.old a b ha hb)),fun b hb=>getD_set_same hm ?_⟩
 by_cases e:b=j
 ·exact .inr (by rw [e])
 ·exact .inl (h.now b (by omega))
theorem Done.next {ts:List T4} {k i j:Nat} {m:List (BitVec 32)} (h:Done ts k i j m) (hj:(j:Int)=Shapes.prod (ts.getD i default).s):Done ts k (i+1) 0 m:=by
 refine ⟨h.len,fun a b ha hb=> ?_,fun b hb=>absurd hb (by omega)⟩
 by_cases e:a=i
 ·subst e;exact h.now b (by omega)
 ·exact h.old a b (by omega) hb
theorem Done.all {ts:List T4} {k:Nat} {s:List Int} {m:List (BitVec 32)} (J:Jo k s ts) (h:Done ts k ts.length 0 m):m=jnL ts k:=by
 refine List.ext_getElem h.len fun n h1 h2=> ?_
 obtain ⟨i,hi,j,hj,e⟩:=J.onto h2
 have eg:ts.getD i default=ts[i]:=by rw [List.getD_eq_getElem?_getD,List.getElem?_eq_getElem hi];rfl
 have:=h.old i j hi (by rw [eg];exact hj)
 rw [e] at this
 simpa [h1,h2] using this
end Go.Proofs.YtmipoeanpnnjoaaGreatDoor

/-! Contract: some tensors, joined along a direction, as the document has it. -/
namespace Go.Proofs.YtmipoeanpnnjoaaGreatDoor
open Go Go.Dd Go.RowKit
set_option maxRecDepth 100000

set_option maxHeartbeats 2000000 in
theorem rjoin_c (v:Value) (ts:List T4) (al:Int) (W:World) (h:Tens W v ts):
  Fnc Tryz.prog 44 [v, .int .i64 al] W (fun r w' =>Below W.heap.size W w' ∧AnsK W w' r (jnE ts al) (jnS ts al.toNat) (jnL ts al.toNat)):=by
 have hB:=Below.refl W.heap.size W
 have lv:ts.length≤9223372036854775807:=h.1.le
 refine Ap (n:=123) Tryz.func44 (by kernel_rfl) O O O<|Ae<|Ab<|B8 it_33 O ?_
 rintro A_r w eA_r b_r hn -
 replace hB:=hB.bs hn
 replace h:=h.bs hn
 clear hn
 refine Lw.val (Ac O) O<|Af<|Aa<|Cw.out<|Ae<|Ab<|Lw.val (Ac O) O<|Af<|Aa<|Cw.out<|Ae<|Ae<|Ab<|Lw.val (Ac O) O<|Af<|Aa<|Cw.out<|Cw.block ?_
 have z_r:=blk_lt b_r
 have zB:=below_size hB
 obtain ⟨PS,hPS⟩:∃PS:Nat→List (Value×List Int),PS=fun i=>(ts.take i).map fun t=>(t.x,t.s):=⟨_,rfl⟩
 have ePS:∀i,ints2 (PS i)=(ts.take i).map (·.s):=fun i=>by rw [hPS];simp only [ints2,List.map_map];rfl
 have lPS:∀i,i≤ts.length→(PS i).length=i:=fun i hi=>by rw [hPS,List.length_map,List.length_take];omega
 refine Bj (S:=(Nat×Value)) (fun z=>[(0,v),(1, .int .i64 al),(4, .pointer (some ⟨A_r,0,none⟩)),(6,z.2),(7, .int .i64 (z.1:Int))]) (fun z w' =>z.1≤ts.length∧z.1≤5∧badT (ts.take z.1)=false∧Below w.heap.size w w' ∧w'.ownsRow w.heap.size 23 1 z.2 z.1 ((PS z.1).map fun p=>p.1)) (fun z=>ts.length - z.1) ((0, .slice none 0 0)) ⟨rfl,rfl,rfl,rfl,rfl,trivial⟩ ?_ ?_
 ·exact ⟨Nat.zero_le _,Nat.zero_le _,rfl,Below.refl _ _,by rw [hPS];exact ⟨rfl, .inl ⟨rfl,rfl⟩⟩⟩
 rintro ⟨i,u⟩ w1 ⟨hi,hi5,hbad,hn,o_u⟩
 replace hi:i≤ts.length:=hi
 replace hi5:i≤5:=hi5
 replace hbad:badT (ts.take i)=false:=hbad
 replace o_u:w1.ownsRow w.heap.size 23 1 u i ((PS i).map fun p=>p.1):=o_u
 have hB:=hB.trans (hn.mono zB)
 have h:=h.bs hn
 have b_r:=b_r.bs hn
 have h1:=h.1
 have zn:=hn.size
 have hLI:LI w1 u (PS i):=⟨by
  have:=own_sl o_u
  unfold SlT
  rw [lPS i hi]
  exact this,fun p hp=>by
  rw [hPS] at hp
  obtain ⟨t,ht,rfl⟩:=List.mem_map.1 hp
  exact (h.2 t (List.mem_of_mem_take ht)).1⟩
 refine Ae<|Ae<|Ab<|Lw.val (Ad O) O<|Lw.val (Ad O) O<|Lw.val (Av st_26 O (by assumption)) O ?_
 refine Lw.val (Bh O O) O<|Lw.val (Ad O) O ?_
 refine Bt 23 O ?_ ?_
 ·intro g
  have hi' :i<ts.length:=by have:=of_decide_eq_true g;omega
  refine Lw.take (dj:=23) O O<|Lw.val (Ad O) O<|Lw.take (dj:=23) O O<|Lw.val (C8 O O) O<|Lw.val (As O O) O<|Af<|Aa<|Cw.out<|Au O ?_ ?_
  ·intro g2
   have hi4:i≤4:=by have:=of_decide_eq_true g2;omega
   obtain ⟨a,ha,ham,c1,c2⟩:=tens_at hi'
   have hvs:=h.slice hi'
   have h1:=h.1
   have haw:=h.2 a ham
   have ebad:badT (ts.take (i+1))=(badT (ts.take i)|| !tok a.s a.l):=by unfold badT;rw [List.take_succ_eq_append_getElem hi',List.any_append,← ha];simp
   refine Aq<|Aa<|Cw.out<|Ae<|Cw.block<|Ae<|Ae<|Ab<|Lw.val (Ad O) O<|Lw.val (Ad O) O<|Lw.val (Bz st_26 O O h1 i O hi') O<|Lw.val (Cc (cs:=[a.x,a.y]) (ag_33 _) (sz_33 _) O h1 O (by decide) (two_cells c1 c2)) O<|Al O O (rtcheck_c a.x a.y a.s a.l w1 haw.1 haw.2) ?_
   rintro _ w2 ⟨rfl,hn2⟩
   have hB:=bt hB hn2
   have b_r:=b_r.bs hn2
   refine Lw.val (Bx O) O<|Af<|Aa<|Cw.out<|Au O ?_ ?_
   ·intro g3
    have g3:tok a.s a.l=false:=by simpa using g3
    have hE:jnE ts al=1:=jnE_bad (by
     have:badT ts=true:=List.any_eq_true.2 ⟨a,ham,by rw [g3];rfl⟩
     unfold jnA;rw [this];simp)
    refine Ae<|Ab<|Lw.val (Bn (vs:=[]) (cs:=[.slice none 0 0, .slice none 0 0]) O (by kernel_rfl)) O<|Ay (Bp (cs:=[.slice none 0 0, .slice none 0 0]) O O O O O b_r O) ?_
    rintro w3 ⟨b_r,hg, -⟩
    have hB:=hB.grown hg (below_size hB) (by rintro _ ⟨⟩;omega)
    refine Lw.val (Ac O) O<|Af<|Aa<|Cw.out<|An<|Ak<|Bk<|Ak<|Ak<|Bk<|Ak<|Bf O O O (by assumption) (Tryz.underlying33) O O O ?_
    rw [hE]
    exact ⟨hB,ansK_no (by decide)⟩
   intro g3
   have g3:tok a.s a.l=true:=by simpa using g3
   have h:=h.bs hn2
   have h1:=h.1
   have o_u:=own_bs o_u hn2
   have haw:=haw.bs hn2
   have zn2:=hn2.size
   refine Aq<|Aa<|Cw.out<|Ab<|Lw.val (Ad O) O<|Lw.val (Ad O) O<|Lw.val (Ad O) O<|Lw.val (Bz st_26 O O h1 i O hi') O<|Lw.val (Ch Tryz.underlying33 O (sz_23 _) O hvs) O<|Lw.val (C6 (ag_23 _) O h1 c1) O<|Bl (Cp (vs:=[a.x]) st_125 it_23 O O O (by rw [List.all_cons,haw.1.one'];rfl) O) O ?_
   rintro q w3 ⟨o_q, -,hn3, -⟩
   have o_u:=own_bs o_u hn3
   have hn23:=bt hn2 hn3
   refine Bl (Xw.append2 (base:=w.heap.size) st_125 it_23 O (by decide) O O o_u (own_sl o_q) (by rw [List.all_cons,haw.1.one'];rfl) (by omega) (by omega) (Nat.le_trans zn hn23.size)) O ?_
   rintro u' w4 ⟨o_u,hn4,hg, -⟩
   have hn5:=(hn.trans (hn23.mono zn)).trans hn4
   have eP:(PS (i+1)).map (fun p=>p.1)=(PS i).map (fun p=>p.1)++[a.x]:=by
    rw [hPS]
    simp only
    rw [List.take_succ_eq_append_getElem hi',List.map_append,List.map_append,← ha];rfl
   refine Lw.val (Ac O) O<|Af<|Bo<|Aa<|Cw.out<|Ab<|Lw.val (Ad O) O<|Lw.val (Bc O O (by omega)) O<|Lw.val (Ac O) O<|Af ?_
   exact Aa (Bq ((i+1,u')) ⟨rfl,rfl,rfl,rfl,rfl,trivial⟩ (⟨hi',by simp only;omega,by simp only;rw [ebad,hbad,g3];rfl,hn5,by simp only;rw [eP];exact o_u⟩) (by simp only;omega))
  intro g2
  have hi4:¬i≤4:=by have:=of_decide_eq_false g2;omega
  have lP:=lPS i hi
  have hE:jnE ts al=1:=jnE_bad (by unfold jnA;rw [decide_eq_true (show 4<ts.length by omega)];simp)
  have hJ:jdE (ints2 (PS i)) al=1:=by
   unfold jdE jdA
   rw [List.length_map,lP,decide_eq_true (show 4<i by omega)]
   simp
  refine Bi<|Am<|Am<|Az<|Aa<|Cw.out<|Ae<|Ab<|Lw.val (Ad O) O<|Lw.val (Ad O) O<|Al O O (rjoined_c u (PS i) al w1 hLI) ?_
  rintro _ w2 ⟨hn2,x,s,rfl, -, -⟩
  rw [hJ]
  have hB:=bt hB hn2
  have b_r:=b_r.bs hn2
  refine Lw.val (Ad O) O<|Lw.val (Ax (i:=0) O O) O<|Lw.val (Ax (i:=1) O O) O<|Lw.val (Ac O) O<|Lw.val (Ac O) O<|Af<|Aa<|Cw.out<|Ae<|Ae<|Ab<|Lw.val (Ad O) O<|Lw.val (B7 O O) O<|Af<|Aa<|Cw.out<|Bs O true (rfl)<|Ae<|Ab<|Lw.val (Bn (vs:=[]) (cs:=[.slice none 0 0, .slice none 0 0]) O (by kernel_rfl)) O<|Lw.val (Ad O) O<|Ay (Bp (cs:=[.slice none 0 0, .slice none 0 0]) O O O O O b_r O) ?_
  rintro w3 ⟨b_r,hg, -⟩
  have hB:=hB.grown hg (below_size hB) (by rintro _ ⟨⟩;omega)
  refine Lw.val (Ac O) O<|Af<|Aa<|Cw.out<|An<|Ak<|Bf O O O (by assumption) (Tryz.underlying33) O O O ?_
  rw [hE]
  exact ⟨hB,ansK_no (by decide)⟩
 intro g
 have hi' :i=ts.length:=by have:=of_decide_eq_false g;omega
 rw [hi',List.take_length] at hbad
 have eI:ints2 (PS i)=ts.map (·.s):=by rw [ePS,hi',List.take_length]
 obtain ⟨eE,eS⟩:=jdE_jnE al hbad
 have lts:ts.length≤5:=by omega
 clear o_u ePS lPS hPS
 refine Ai (dj:=23) O O O O<|Ai (dj:=23) O O O O<|Lw.val (Bd O O) O<|Af<|Aa<|Cw.out<|C9 O<|Bi<|Am<|Am<|Az<|Aa<|Cw.out<|Ae<|Ab<|Lw.val (Ad O) O<|Lw.val (Ad O) O<|Al O O (rjoined_c u (PS i) al w1 hLI) ?_
 rintro _ w2 ⟨hn2,x,S,rfl,s_x,hS⟩
 rw [eI,eE] at hS ⊢
 have hB:=bt hB hn2
 have b_r:=b_r.bs hn2
 have h:=h.bs hn2
 have zn2:=hn2.size
 clear hLI hn2 hn
 refine Lw.val (Ad O) O<|Lw.val (Ax (i:=0) O O) O<|Lw.val (Ax (i:=1) O O) O<|Lw.val (Ac O) O<|Lw.val (Ac O) O<|Af<|Aa<|Cw.out<|Ae<|Ae<|Ab<|Lw.val (Ad O) O<|Lw.val (B7 O O) O<|Af<|Aa<|Cw.out<|Au O ?_ ?_
 ·intro g2
  have hne:jnE ts al≠0:=fun e=>by rw [e] at g2;simp at g2
  refine Ae<|Ab<|Lw.val (Bn (vs:=[]) (cs:=[.slice none 0 0, .slice none 0 0]) O (by kernel_rfl)) O<|Lw.val (Ad O) O<|Ay (Bp (cs:=[.slice none 0 0, .slice none 0 0]) O O O O O b_r O) ?_
  rintro w3 ⟨b_r,hg, -⟩
  have hB:=hB.grown hg (below_size hB) (by rintro _ ⟨⟩;omega)
  refine Lw.val (Ac O) O<|Af<|Aa<|Cw.out<|An<|Ak<|Bf O O O (by assumption) (Tryz.underlying33) O O O ?_
  exact ⟨hB,ansK_no hne⟩
 intro g2
 have hE:jnE ts al=0:=by simpa using g2
 have hSS:S=jnS ts al.toNat:=by
  have:=hS hE
  rw [eS hE] at this
  exact (Option.some.inj this).symm
 clear hS eS g2 g eE eI hbad
 rw [hE]
 have hal:0≤al:=by
  rcases Int.lt_or_le al 0 with h0|h0
  ·rw [jnE_bad (by unfold jnA;rw [decide_eq_true h0];simp)] at hE;cases hE
  ·exact h0
 obtain ⟨k,rfl⟩:∃k:Nat,al=(k:Int):=⟨al.toNat,by omega⟩
 have J:=jnE_iff.1 hE
 rw [Int.toNat_natCast] at hSS ⊢
 have J4:=J.few.2
 have okS:Shapes.ok S=true:=by rw [hSS,J.S];exact J.oks
 have lS:S.length=(s0T ts).length:=by rw [hSS,J.S,List.length_set]
 refine Aq<|Aa<|Cw.out<|Ae<|Ab<|Lw.val (Ad O) O<|Al O O (rnew_c x S w2 s_x) ?_
 rintro _ w7 ⟨hn7,⟨hk,p,y,rfl,hm⟩|⟨hk,rfl⟩⟩
 ·refine Lw.val (Ad O) O<|Lw.val (Ax (i:=0) O O) O<|Lw.val (Ax (i:=1) O O) O<|Cb (cs:=[p,y]) it_33 O O O O (fun _=>rfl) (hm.one) ?_
  rintro A_m w8 eA_m b_m hn8 zhn8
  have M:=mine_new hm eA_m b_m hn8 zhn8 hn7.size
  have hw8:=bt hn7 hn8
  have zw:=hw8.size
  have zB:=below_size hB
  have p_h:=h
  have p_x:=s_x
  have q_r:=blk_lt b_r
  have h:=h.bs hw8
  have b_r:=b_r.bs hw8
  have s_x:=s_x.bs hw8
  have hB:=bt hB hw8
  obtain ⟨zs,hzs⟩:∃l,l=List.replicate (Shapes.size S).toNat 0#32:=⟨_,rfl⟩
  rw [← hzs] at M
  have D0:Done ts k 0 0 zs:=⟨by rw [hzs,List.length_replicate,Shapes.size_ok okS,J.L,mk_length,hSS,J.S],fun a b ha=>absurd ha (by omega),fun b hb=>absurd hb (by omega)⟩
  clear hm b_m hn7 hn8 eA_m zhn8 hw8 hzs
  refine Lw.val (Ac O) O<|Af<|Aa<|Cw.out<|Ae<|Ab<|Lw.val (Ac O) O<|Af<|Aa<|Cw.out<|Ae<|Ae<|Ab<|Lw.val (Ac O) O<|Af<|Aa<|Cw.out<|Cw.block ?_
  refine Bj (S:=(Nat×List (BitVec 32))) (fun z=>[(0,v),(1, .int .i64 (k:Int)),(4, .pointer (some ⟨A_r,0,none⟩)),(8,x),(10, .pointer (some ⟨A_m,0,none⟩)),(12, .int .i64 (jsum k (ts.take z.1))),(13, .int .i64 (z.1:Int))]) (fun z w' =>z.1≤ts.length∧Below w2.heap.size w8 w' ∧MineT w' w2.heap.size w8.heap.size A_m p y S z.2∧Done ts k z.1 0 z.2) (fun z=>ts.length - z.1) ((0,zs)) ⟨rfl,rfl,rfl,rfl,rfl,rfl,rfl,trivial⟩ ?_ ?_
  ·exact ⟨Nat.zero_le _,Below.refl _ _,M,D0⟩
  clear M D0
  rintro ⟨i,m⟩ w9 ⟨hi,hw,M,D⟩
  replace hi:i≤ts.length:=hi
  replace M:MineT w9 w2.heap.size w8.heap.size A_m p y S m:=M
  replace D:Done ts k i 0 m:=D
  have hB:=hB.trans (hw.mono (show W.heap.size≤w2.heap.size by omega))
  have zw:=hw.size
  have h:=Tens.stay p_h h (Nat.le_refl _) hw
  have s_x:SlT (Value.int .i64) w9 x S:=Sl.stay s_x fun b e hne=>hw.block b (Sl.blk p_x hne b e)
  have b_r:=b_r.bl hw q_r
  have b_m:=M.box
  have y_m:=M.sly
  have h1:=h.1
  refine Ae<|Ae<|Ab<|Lw.val (Ad O) O<|Lw.val (Ad O) O<|Lw.val (Av st_26 O (by assumption)) O ?_
  refine Lw.val (Bh O O) O<|Af<|Aa<|Cw.out<|Au O ?_ ?_
  ·intro g
   have hi' :i<ts.length:=by have:=of_decide_eq_true g;omega
   obtain ⟨a,ha,ham,c1,c2⟩:=tens_at hi'
   have eg:ts.getD i default=a:=by rw [List.getD_eq_getElem?_getD,List.getElem?_eq_getElem hi',← ha];rfl
   obtain ⟨o1,o2⟩:=tok_sz (J.toks a ham)
   have gd:=((Shapes.ok_iff _).1 o1).2.1
   have da:=J.dim ham
   have hEach:=fun (j:Nat) (hj:(j:Int)<Shapes.prod a.s)=>J.each hi' (j:=j) (by rw [← ha];exact hj)
   rw [← ha] at hEach
   have js:=jsum_le (k:=k) (ts:=ts.take i) fun u hu=>by have:=J.dim (List.mem_of_mem_take hu);omega
   have lti:(ts.take i).length≤4:=by rw [List.length_take];omega
   have hJs:jsum k (ts.take (i+1))=jsum k (ts.take i)+a.s.getD k default:=by
    rw [List.take_succ_eq_append_getElem hi',jsum_append,← ha]
    simp [jsum]
   obtain ⟨jb,hjb⟩:∃jb,jb=jsum k (ts.take i):=⟨_,rfl⟩
   rw [← hjb] at js hJs hEach ⊢
   refine Aq<|Aa<|Cw.out<|Ae<|Cw.block<|Ae<|Ae<|Ab<|Lw.val (Ac O) O<|Af<|Aa<|Cw.out<|Cw.block ?_
   refine Bj (S:=(Nat×List (BitVec 32))) (fun z=>[(0,v),(1, .int .i64 (k:Int)),(4, .pointer (some ⟨A_r,0,none⟩)),(8,x),(10, .pointer (some ⟨A_m,0,none⟩)),(12, .int .i64 jb),(13, .int .i64 (i:Int)),(14, .int .i64 (z.1:Int))]) (fun z w' =>z.1≤a.l.length∧Below w2.heap.size w9 w' ∧MineT w' w2.heap.size w8.heap.size A_m p y S z.2∧Done ts k i z.1 z.2) (fun z=>a.l.length - z.1) ((0,m)) ⟨rfl,rfl,rfl,rfl,rfl,rfl,rfl,rfl,trivial⟩ ?_ ?_
   ·exact ⟨Nat.zero_le _,Below.refl _ _,M,D⟩
   clear M D b_m y_m h1
   rintro ⟨j,m⟩ w10 ⟨hj,hw2,M,D⟩
   replace hj:j≤a.l.length:=hj
   replace M:MineT w10 w2.heap.size w8.heap.size A_m p y S m:=M
   replace D:Done ts k i j m:=D
   have hB:=hB.trans (hw2.mono (show W.heap.size≤w2.heap.size by omega))
   have zw2:=hw2.size
   have h:=Tens.stay p_h h (Nat.le_refl _) hw2
   have s_x:SlT (Value.int .i64) w10 x S:=Sl.stay s_x fun b e hne=>hw2.block b (Sl.blk p_x hne b e)
   have b_r:=b_r.bl hw2 q_r
   have b_m:=M.box
   have y_m:=M.sly
   have h1:=h.1
   have haw:=h.2 a ham
   have haw1:=haw.1
   have haw2:=haw.2
   have lal:=haw2.le
   have hvs:=h.slice hi'
   refine Ae<|Ae<|Ab<|Lw.val (Ad O) O<|Lw.val (Ad O) O<|Lw.val (Ad O) O<|Lw.val (Bz st_26 O O h1 i O hi') O<|Lw.val (Ch Tryz.underlying33 O (sz_31 _) O hvs) O<|Lw.val (C6 (ag_31 _) O h1 c2) O<|Lw.val (Av st_31 O (by assumption)) O ?_
   refine Lw.val (Bh O O) O<|Af<|Aa<|Cw.out<|Au O ?_ ?_
   ·intro g2
    have hj' :j<a.l.length:=by have:=of_decide_eq_true g2;omega
    have hjp:(j:Int)<Shapes.prod a.s:=by omega
    obtain ⟨inn,tlt,tval⟩:=hEach j hjp
    obtain ⟨q,eq⟩:∃q,q=Shapes.place a.s (j:Int):=⟨_,rfl⟩
    have lq:q.length=a.s.length:=by rw [eq,Shapes.place_length]
    have iq:=Shapes.inn_at (by rw [eq];exact Shapes.place_in (by omega) gd:Shapes.inn a.s q=true) da.2.2
    have hkq:k<q.length:=by omega
    rw [← eq] at inn
    have hk2:Shapes.idx S (q.set k (q.getD k default+jb))=((tgt ts k i j:Nat):Int):=by
     have G:=Shapes.idx_lt ((Shapes.ok_iff _).1 okS).2.1 (by rw [hSS];exact inn)
     unfold tgt
     rw [eg,← eq,← hjb,hSS] at*
     omega
    refine Aq<|Aa<|Cw.out<|Ae<|Cw.block<|Ae<|Ab<|Lw.val (Ad O) O<|Lw.val (Ad O) O<|Lw.val (Bz st_26 O O h1 i O hi') O<|Lw.val (Ch Tryz.underlying33 O (sz_23 _) O hvs) O<|Lw.val (C6 (ag_23 _) O h1 c1) O<|Lw.val (Ad O) O<|Al O O (rat_o a.s a.x (j:Int) w10 haw1) ?_
    rintro _ w11 ⟨hn,b,rfl,o_b⟩
    rw [show Shapes.atl a.s (j:Int)=q by rw [eq];unfold Shapes.atl;rw [if_pos ⟨by omega,by rw [Shapes.size_ok o1];exact hjp⟩]] at o_b
    have s_b:=own_slT o_b
    refine Lw.val (Ad O) O<|Lw.val (Ax (i:=0) O O) O<|Lw.val (Ax (i:=1) O O) O<|Lw.val (Ac O) O<|Lw.val (Ac O) O<|Af<|Aa<|Cw.out<|Ae<|Ab<|Lw.val (Ad O) O<|Lw.val (Ad O) O<|Lw.val (Ad O) O<|Lw.val (Ad O) O<|Lw.val (Ba st_23 O O s_b k O hkq) O<|Lw.val (Bg (ag_3 _) O s_b hkq) O<|Lw.val (Ad O) O<|Lw.val (Bc O O (by omega)) O<|Lw.val (Ba st_23 O O s_b k O hkq) O<|Ay (Cv (u:= .int .i64 (q.getD k default+jb)) (sz_3 _) O O O o_b (by rw [List.length_map];exact hkq)) ?_
    rintro w12 ⟨o_b2,hg, -⟩
    rw [← List.map_set] at o_b2
    have hn12:=hn.grown hg hn.size (fun b e=>(own_block o_b b e).1)
    refine Af<|Aa<|Cw.out<|Ae<|Ab<|Lw.val (Ad O) O<|Lw.val (Ad O) O<|Al O O (rindex_c S (q.set k (q.getD k default+jb)) x b w12 (s_x.bs hn12) (own_slT o_b2)) ?_
    rintro _ w13 ⟨rfl,hn13⟩
    rw [index_yes okS (by rw [hSS];exact inn)]
    have hn:=bt hn12 hn13
    have zn13:=hn.size
    have hw2:=hw2.trans (hn.mono (by omega))
    have M:=M.bs hn
    have h:=h.bs hn
    have haw:=haw.bs hn
    have b_m:=M.box
    have y_m:=M.sly
    have haw2:=haw.2
    have h1:=h.1
    have lm:=D.len
    refine Lw.val (Ad O) O<|Lw.val (Ax (i:=0) O O) O<|Lw.val (Ax (i:=1) O O) O<|Lw.val (Ac O) O<|Lw.val (Ac O) O<|Af<|Aa<|Cw.out<|Cw.tail 12 mixed (by kernel_rfl)<|Qw.val (fun w1 hq=>Ag (q:=0) Tryz.underlying33 O (sz_31 _) O) O<|Qw.val (fun w1 hq=>Aj (ag_31 _) O (Blk.bs (by assumption) hq) O) O ?_
    refine Qw.val (fun w1 hq=>Ad O) O<|Qw.val (fun w1 hq=>Ad O) O<|Qw.val (fun w1 hq=>Ad O) O<|Qw.val (fun w1 hq=>Bz st_26 O O (Sl.bs h1 hq) i O hi') O<|Qw.val (fun w1 hq=>Ch Tryz.underlying33 O (sz_31 _) O hvs) O<|Qw.val (fun w1 hq=>C6 (ag_31 _) O (Sl.bs h1 hq) c2) O<|Qw.val (fun w1 hq=>Ad O) O<|Qw.val (fun w1 hq=>Ba st_31 O O (Sl.bs haw2 hq) j O hj') O<|Qw.val (fun w1 hq=>Bg (ag_21 _) O (Sl.bs (by assumption) hq) (by omega)) O ?_
    refine Qw.val (fun w1 hq=>Ba st_31 O O (Sl.bs y_m hq) (tgt ts k i j) hk2 (by omega)) O ?_
    refine Cj (fun w14 hq=> ?_)
    refine Ay ((M.bs hq).st (sz_21 _) O O (by omega)) ?_
    rintro w15 ⟨M2,hg2, -⟩
    have hw3:=(M.bs hq).below (hw2.trans (hq.mono (by omega))) (by omega) hg2
    have D2:=D.set tlt
    rw [tval] at D2
    refine Af<|Bo<|Aa<|Cw.out<|Ab<|Lw.val (Ad O) O<|Lw.val (Bc O O (by omega)) O<|Lw.val (Ac O) O<|Af ?_
    exact Aa (Bq ((j+1,m.set (tgt ts k i j) (a.l.getD j default))) ⟨rfl,rfl,rfl,rfl,rfl,rfl,rfl,rfl,trivial⟩ (⟨hj',hw3,M2,D2⟩) (by simp only;omega))
   intro g2
   have hj' :j=a.l.length:=by have:=of_decide_eq_false g2;omega
   refine Bi<|Am<|Am<|Az<|Aa<|Cw.out<|Ab<|Lw.val (Ad O) O<|Lw.val (Ad O) O<|Lw.val (Ad O) O<|Lw.val (Bz st_26 O O h1 i O hi') O<|Lw.val (Ch Tryz.underlying33 O (sz_23 _) O hvs) O<|Lw.val (C6 (ag_23 _) O h1 c1) O<|Lw.val (Ad O) O<|Lw.val (Ba st_23 O O haw1 k O da.2.2) O<|Lw.val (Bg (ag_3 _) O haw1 da.2.2) O<|Lw.val ((Bc O O (by omega)).as (congrArg (Value.int .i64) hJs.symm)) O<|Lw.val (Ac O) O<|Af<|Bo<|Aa<|Cw.out<|Ab<|Lw.val (Ad O) O<|Lw.val (Bc O O (by omega)) O<|Lw.val (Ac O) O<|Af ?_
   have dp:=Shapes.prod_pos gd
   exact Aa (Bq ((i+1,m)) ⟨rfl,rfl,rfl,rfl,rfl,rfl,rfl,trivial⟩ (⟨hi',hw.trans hw2,M,D.next (by rw [eg];omega)⟩) (by simp only;omega))
  intro g
  have hi' :i=ts.length:=by have:=of_decide_eq_false g;omega
  subst hi'
  have em:m=jnL ts k:=D.all J
  refine Bi<|Am<|Am<|Az<|Aa<|Cw.out<|Ae<|Ab<|Lw.val (Bw (ag_33 _) (sz_33 _) O O (by assumption)) O ?_
  refine Ay (Bp (cs:=[p,y]) O O O O (mine_at M).one b_r O) ?_
  rintro w10 ⟨b_r2,hg, -⟩
  have M2:=M.keep hg (by rintro _ ⟨⟩;exact .inl q_r)
  have hB3:=hB.grown hg (below_size hB) (by rintro _ ⟨⟩;omega)
  refine Lw.val (Ac O) O<|Af<|Aa<|Cw.out<|An<|Bf O O O (by assumption) (Tryz.underlying33) O O O ?_
  rw [em,hSS] at M2
  exact ⟨hB3,p,y,rfl,fun h=>absurd rfl h,fun _=>⟨M2.row.mono (by omega), .inl (own_mono M2.lst.own (by omega)),M2.yx⟩⟩
 exact absurd okS (by rw [hk];decide)
end Go.Proofs.YtmipoeanpnnjoaaGreatDoor

/-! Contracts: the kinds of nodes. -/
namespace Go.Proofs.YtmipoeanpnnjoaaGreatDoor
open Go Go.Dd Go.RowKit
set_option maxRecDepth 100000

/-- A row of six numbers. -/
def kv (l:List Int):Value:= .agg (l.map (Value.int .i64)).toArray
/-- The kinds: where each is put in, its number, its row. -/
def kdT:List (Nat×Int×List Int):=[(2,1,[0,0,0,0,0,1]),(4,2,[0,0,0,0,0,1]),(6,3,[2,2,0,0,0,0]),(8,4,[2,2,0,0,0,0]),(10,7,[2,2,0,0,0,0]),(12,5,[1,1,0,0,0,0]),(16,6,[1,1,0,31,0,0]),(18,8,[2,2,1,8,8,0]),(22,9,[1,1,1,64,0,0]),(24,10,[1,1,0,0,0,1]),(26,11,[1,1,0,0,0,2]),(28,12,[1,4,0,3,0,0]),(32,13,[1,1,0,3,0,0])]
def KD (k v:Value):Prop:=∃p ∈ kdT,k= .int .u8 p.2.1∧v=kv p.2.2
end Go.Proofs.YtmipoeanpnnjoaaGreatDoor

/-! Contracts: is a node one of a kind; order; the shapes of nodes. -/
namespace Go.Proofs.YtmipoeanpnnjoaaGreatDoor
open Go Go.Dd Go.RowKit
set_option maxRecDepth 100000

/-- A node, and where its lists lie. -/
structure N5 where
 k:BitVec 8
 x:Value
 y:Value
 i:List Int
 s:List Int
 n:Int
 p:Int
def N5.cells (a:N5):List Value:=[b8 a.k,a.x,a.y, .int .i64 a.n, .int .i64 a.p]
abbrev N5.v (a:N5):Value:= .agg a.cells.toArray
structure N5.at (w:World) (a:N5):Prop where
 i:SlT (Value.int .i64) w a.x a.i
 s:SlT (Value.int .i64) w a.y a.s
theorem N5.at.bs {w w' :World} {a:N5} (h:N5.at w a) (g:Below w.heap.size w w'):N5.at w' a:=⟨h.i.bs g,h.s.bs g⟩
theorem N5.at.ones {w:World} {a:N5} (h:N5.at w a):a.cells.all (·.oneCell')=true:=by
 unfold N5.cells
 rw [List.all_cons,List.all_cons,List.all_cons,h.i.one',h.s.one'];rfl
/-- Whether a list has each number below its length, and is short. -/
def cov (l:List Int):Bool:=(List.range l.length).all fun i=>l.contains (i:Int)
theorem cov_iff {l:List Int}:cov l=true↔∀j,j<l.length→l.contains (j:Int)=true:=by
 unfold cov
 rw [List.all_eq_true]
 exact ⟨fun h j hj=>h j (List.mem_range.2 hj),fun h j hj=>h j (List.mem_range.1 hj)⟩
theorem cov_no {l:List Int} {j:Nat} (hj:j<l.length) (h:l.contains (j:Int)=false):cov l=false:=by
 cases hk:cov l with
 |false=>rfl
 |true=>rw [cov_iff.1 hk j hj] at h;cases h
def gord (l:List Int):Bool:=cov l && decide (l.length≤4)
def kindB (least most lo hi ar sh:Int) (i s:List Int) (n p:Int):Bool:=
 !(decide ((i.length:Int)<least)||decide (most<(i.length:Int))||decide (n<lo)||decide (hi<n)||decide (p<0)||decide (ar<p)) && (if sh=0 then decide (s.length=0) else if sh=1 then Shapes.ok s else gord s)
end Go.Proofs.YtmipoeanpnnjoaaGreatDoor

/-! Contracts: shapes without a direction, turned, joined. -/
namespace Go.Proofs.YtmipoeanpnnjoaaGreatDoor
open Go Go.Dd Go.RowKit
set_option maxRecDepth 100000

/-! ### Without a direction -/
def woG (s:List Int) (k:Int):List Int:=if (s.length:Int)≤k then [] else if s.length=1 then [1] else s.eraseIdx k.toNat
/-! ### Turned -/
def trnG (s o:List Int):List Int:=if s.length=o.length then o.map (fun k=>s.getD k.toNat default) else []
/-! ### Joined -/
def jnG (l:List (List Int)) (k:Nat):List Int:=match jnR k (l.headD []) l.tail with
 |some s=>if k<s.length then s else []
 |none=>[]
theorem getD_mem {l:List Int} {j:Nat} (h:j<l.length):l.getD j default ∈ l:=by
 rw [List.getD_eq_getElem?_getD,List.getElem?_eq_getElem h];exact List.getElem_mem h
end Go.Proofs.YtmipoeanpnnjoaaGreatDoor

/-! Contract: the shape of a node, of those that it takes in. -/
namespace Go.Proofs.YtmipoeanpnnjoaaGreatDoor
open Go Go.Dd Go.RowKit
set_option maxRecDepth 100000

/-- A kind's row. -/
def kdOf (k:BitVec 8):Option (List Int):=(kdT.find? (fun p=>decide (p.2.1=(k.toNat:Int)))).map (·.2.2)
def kindF (k:BitVec 8) (i s:List Int) (n p:Int):Bool:=match kdOf k with
 |some [a,b,c,d,e,f]=>kindB a b c d e f i s n p
 |_=>false
theorem kindB_iff {l m lo hi ar sh:Int} {i s:List Int} {n p:Int}:kindB l m lo hi ar sh i s n p=true↔(l≤(i.length:Int)∧(i.length:Int)≤m∧lo≤n∧n≤hi∧0≤p∧p≤ar)∧(if sh=0 then decide (s.length=0) else if sh=1 then Shapes.ok s else gord s)=true:=by
 unfold kindB
 rw [Bool.and_eq_true,Bool.not_eq_true',Bool.or_eq_false_iff,Bool.or_eq_false_iff,Bool.or_eq_false_iff,Bool.or_eq_false_iff,Bool.or_eq_false_iff]
 simp only [decide_eq_false_iff_not]
 constructor
 ·rintro ⟨⟨⟨⟨⟨⟨h1,h2⟩,h3⟩,h4⟩,h5⟩,h6⟩,h7⟩
  exact ⟨⟨by omega,by omega,by omega,by omega,by omega,by omega⟩,h7⟩
 ·rintro ⟨⟨h1,h2,h3,h4,h5,h6⟩,h7⟩
  exact ⟨⟨⟨⟨⟨⟨by omega,by omega⟩,by omega⟩,by omega⟩,by omega⟩,by omega⟩,h7⟩
def gshN (k:BitVec 8) (s:List Int) (n p:Int) (ins:List (List Int)):List Int:=
 let a:=ins.getD 0 []
 let b:=ins.getD 1 []
 if k=1#8∨k=2#8 then s else if k=5#8∨k=6#8 then a else if k=3#8∨k=4#8 then (if a=b then a else [])
 else if k=10#8 then (if Shapes.size a=Shapes.size s then s else []) else if k=7#8 then (if pshE a b=0 then [a.getD 0 default,b.getD 1 default] else [])
 else if k=8#8 then (if wshE a b n p=0 then wshS a b n p else []) else if k=9#8 then (if poolE a n=0 then pshS a n else [])
 else if k=11#8 then trnG a s else if k=12#8 then jnG ins n.toNat else if k=13#8 then woG a n else []
/-- What a node's kind asks of it. -/
theorem kindF_at {k:BitVec 8} {i s:List Int} {n p:Int} (h:kindF k i s n p=true) {a b c d e f:Int} (hk:kdOf k=some [a,b,c,d,e,f]):(a≤(i.length:Int)∧(i.length:Int)≤b∧c≤n∧n≤d∧0≤p∧p≤e)∧(if f=0 then decide (s.length=0) else if f=1 then Shapes.ok s else gord s)=true:=by
 unfold kindF at h
 rw [hk] at h
 exact kindB_iff.1 h
theorem kd_1:kdOf 1#8=some [0,0,0,0,0,1]:=by decide
theorem kd_2:kdOf 2#8=some [0,0,0,0,0,1]:=by decide
theorem kd_3:kdOf 3#8=some [2,2,0,0,0,0]:=by decide
theorem kd_4:kdOf 4#8=some [2,2,0,0,0,0]:=by decide
theorem kd_5:kdOf 5#8=some [1,1,0,0,0,0]:=by decide
theorem kd_6:kdOf 6#8=some [1,1,0,31,0,0]:=by decide
theorem kd_7:kdOf 7#8=some [2,2,0,0,0,0]:=by decide
theorem kd_8:kdOf 8#8=some [2,2,1,8,8,0]:=by decide
theorem kd_9:kdOf 9#8=some [1,1,1,64,0,0]:=by decide
theorem kd_10:kdOf 10#8=some [1,1,0,0,0,1]:=by decide
theorem kd_11:kdOf 11#8=some [1,1,0,0,0,2]:=by decide
theorem kd_12:kdOf 12#8=some [1,4,0,3,0,0]:=by decide
theorem kd_13:kdOf 13#8=some [1,1,0,3,0,0]:=by decide
theorem kd_some:∀k:BitVec 8,(kdOf k).isSome=true→(k=1#8∨k=2#8∨k=3#8∨k=4#8∨k=5#8∨k=6#8∨k=7#8∨k=8#8∨k=9#8∨k=10#8∨k=11#8∨k=12#8∨k=13#8):=by decide+kernel
end Go.Proofs.YtmipoeanpnnjoaaGreatDoor

/-! Contracts: the shapes of a graph; may it be; its weights. -/
namespace Go.Proofs.YtmipoeanpnnjoaaGreatDoor
open Go Go.Dd Go.RowKit
set_option maxRecDepth 100000

instance:Inhabited N5:=⟨⟨0#8, .slice none 0 0, .slice none 0 0,[],[],0,0⟩⟩
/-- What a row's lookup comes to. -/
theorem kd_look {k:BitVec 8} {r:List Int} (h:kdOf k=some r):KD (b8 k) (kv r)∧(∀v,KD (b8 k) v→v=kv r)∧r.length=6:=by
 unfold kdOf at h
 cases hf:kdT.find? (fun p=>decide (p.2.1=(k.toNat:Int))) with
 |none=>rw [hf] at h;cases h
 |some p=>
  rw [hf] at h
  obtain rfl:p.2.2=r:=by simpa using h
  have hm:=List.mem_of_find?_eq_some hf
  have hk:p.2.1=(k.toNat:Int):=by have:=List.find?_some hf;simpa using this
  have hu:∀p ∈ kdT,∀q ∈ kdT,p.2.1=q.2.1→p=q:=by decide
  have h6:∀p ∈ kdT,p.2.2.length=6:=by decide
  refine ⟨⟨p,hm,by rw [hk],rfl⟩,fun v ⟨q,hq,h1,h2⟩=> ?_,h6 p hm⟩
  have:(k.toNat:Int)=q.2.1:=by injection h1
  rw [h2,hu p hm q hq (hk.trans this)]
theorem six_of {l:List Int} (h:l.length=6):∃a b c d e f,l=[a,b,c,d,e,f]:=by
 match l,h with
 |[a,b,c,d,e,f],_=>exact ⟨a,b,c,d,e,f,rfl⟩
abbrev nodeT:TypeId:=25
end Go.Proofs.YtmipoeanpnnjoaaGreatDoor

/-! Contract: the document's: is a node one of its kind? -/
namespace Go.Proofs.YtmipoeanpnnjoaaGreatDoor
open Go Go.Dd Go.RowKit
set_option maxRecDepth 100000

/-- How many a kind takes in. -/
def tkR (k:BitVec 8):Int×Int×Bool:=match kdOf k with
 |some (a::b::_)=>(a,b,true)
 |_=>(0,0,false)
theorem takes_c (k:BitVec 8) (w:World):Fnc Tryz.prog 135 [b8 k] w (fun r w' =>r= .tuple #[.int .i64 (tkR k).1, .int .i64 (tkR k).2.1, .bool (tkR k).2.2]∧Below w.heap.size w w'):=by
 refine Ap (n:=23) Tryz.func135 (by kernel_rfl) O O O<|Ae<|Ab<|Lw.val (Ac O) O<|Lw.val (Ac O) O<|Lw.val (Ac O) O<|Af<|Aa<|Cw.out<|Ae<|Ae<|Ab<|Lw.val (Ad O) O<|Af<|Aa<|Cw.out<|Cw.block<|Ae<|Ae<|Ab<|Lw.val (Ce O (show _=some (b8 (1#8)) from rfl)) O<|Lw.val (Ac O) O<|Af<|Aa<|Cw.out<|Au O ?_ ?_
 ·intro g
  have g:k=1#8:=of_decide_eq_true g
  refine Aq<|Aa<|Cw.out<|Bs O true ((decide_eq_true g))<|Ae<|Ab<|Lw.val (Ac O) O<|Lw.val (Ac O) O<|Lw.val (Ac O) O<|Af<|Aa<|Cw.out<|An<|Bk<|Ak<|Cz O O O O ?_
  rw [g]
  exact ⟨by kernel_rfl,Below.refl _ _⟩
 intro g1
 have g1:¬k=1#8:=of_decide_eq_false g1
 refine Ab<|Lw.val (Ce O (show _=some (b8 (2#8)) from rfl)) O<|Lw.val (Ac O) O<|Af<|Aa<|Cw.out<|Au O ?_ ?_
 ·intro g
  have g:k=2#8:=of_decide_eq_true g
  refine Ae<|Ab<|Lw.val (Ac O) O<|Lw.val (Ac O) O<|Lw.val (Ac O) O<|Af<|Aa<|Cw.out<|An<|Bk<|Ak<|Cz O O O O ?_
  rw [g]
  exact ⟨by kernel_rfl,Below.refl _ _⟩
 intro g2
 have g2:¬k=2#8:=of_decide_eq_false g2
 refine Ae<|Ae<|Ab<|Lw.val (Ce O (show _=some (b8 (3#8)) from rfl)) O<|Lw.val (Ac O) O<|Af<|Aa<|Cw.out<|Au O ?_ ?_
 ·intro g
  have g:k=3#8:=of_decide_eq_true g
  refine Aq<|Aa<|Cw.out<|Bs O true ((decide_eq_true g))<|Ae<|Ab<|Lw.val (Ac O) O<|Lw.val (Ac O) O<|Lw.val (Ac O) O<|Af<|Aa<|Cw.out<|An<|Bk<|Ak<|Cz O O O O ?_
  rw [g]
  exact ⟨by kernel_rfl,Below.refl _ _⟩
 intro g3
 have g3:¬k=3#8:=of_decide_eq_false g3
 refine Ae<|Ab<|Lw.val (Ce O (show _=some (b8 (4#8)) from rfl)) O<|Lw.val (Ac O) O<|Af<|Aa<|Cw.out<|Au O ?_ ?_
 ·intro g
  have g:k=4#8:=of_decide_eq_true g
  refine Aq<|Aa<|Cw.out<|Bs O true ((decide_eq_true g))<|Ae<|Ab<|Lw.val (Ac O) O<|Lw.val (Ac O) O<|Lw.val (Ac O) O<|Af<|Aa<|Cw.out<|An<|Bk<|Ak<|Cz O O O O ?_
  rw [g]
  exact ⟨by kernel_rfl,Below.refl _ _⟩
 intro g4
 have g4:¬k=4#8:=of_decide_eq_false g4
 refine Ae<|Ab<|Lw.val (Ce O (show _=some (b8 (7#8)) from rfl)) O<|Lw.val (Ac O) O<|Af<|Aa<|Cw.out<|Au O ?_ ?_
 ·intro g
  have g:k=7#8:=of_decide_eq_true g
  refine Aq<|Aa<|Cw.out<|Bs O true ((decide_eq_true g))<|Ae<|Ab<|Lw.val (Ac O) O<|Lw.val (Ac O) O<|Lw.val (Ac O) O<|Af<|Aa<|Cw.out<|An<|Bk<|Ak<|Cz O O O O ?_
  rw [g]
  exact ⟨by kernel_rfl,Below.refl _ _⟩
 intro g7
 have g7:¬k=7#8:=of_decide_eq_false g7
 refine Ab<|Lw.val (Ce O (show _=some (b8 (8#8)) from rfl)) O<|Lw.val (Ac O) O<|Af<|Aa<|Cw.out<|Au O ?_ ?_
 ·intro g
  have g:k=8#8:=of_decide_eq_true g
  refine Ae<|Ab<|Lw.val (Ac O) O<|Lw.val (Ac O) O<|Lw.val (Ac O) O<|Af<|Aa<|Cw.out<|An<|Bk<|Ak<|Cz O O O O ?_
  rw [g]
  exact ⟨by kernel_rfl,Below.refl _ _⟩
 intro g8
 have g8:¬k=8#8:=of_decide_eq_false g8
 refine Ae<|Ae<|Ab<|Lw.val (Ce O (show _=some (b8 (5#8)) from rfl)) O<|Lw.val (Ac O) O<|Af<|Aa<|Cw.out<|Au O ?_ ?_
 ·intro g
  have g:k=5#8:=of_decide_eq_true g
  refine Aq<|Aa<|Cw.out<|Bs O true ((decide_eq_true g))<|Ae<|Ab<|Lw.val (Ac O) O<|Lw.val (Ac O) O<|Lw.val (Ac O) O<|Af<|Aa<|Cw.out<|An<|Bk<|Ak<|Cz O O O O ?_
  rw [g]
  exact ⟨by kernel_rfl,Below.refl _ _⟩
 intro g5
 have g5:¬k=5#8:=of_decide_eq_false g5
 refine Ae<|Ab<|Lw.val (Ce O (show _=some (b8 (6#8)) from rfl)) O<|Lw.val (Ac O) O<|Af<|Aa<|Cw.out<|Au O ?_ ?_
 ·intro g
  have g:k=6#8:=of_decide_eq_true g
  refine Aq<|Aa<|Cw.out<|Bs O true ((decide_eq_true g))<|Ae<|Ab<|Lw.val (Ac O) O<|Lw.val (Ac O) O<|Lw.val (Ac O) O<|Af<|Aa<|Cw.out<|An<|Bk<|Ak<|Cz O O O O ?_
  rw [g]
  exact ⟨by kernel_rfl,Below.refl _ _⟩
 intro g6
 have g6:¬k=6#8:=of_decide_eq_false g6
 refine Ae<|Ab<|Lw.val (Ce O (show _=some (b8 (9#8)) from rfl)) O<|Lw.val (Ac O) O<|Af<|Aa<|Cw.out<|Au O ?_ ?_
 ·intro g
  have g:k=9#8:=of_decide_eq_true g
  refine Aq<|Aa<|Cw.out<|Bs O true ((decide_eq_true g))<|Ae<|Ab<|Lw.val (Ac O) O<|Lw.val (Ac O) O<|Lw.val (Ac O) O<|Af<|Aa<|Cw.out<|An<|Bk<|Ak<|Cz O O O O ?_
  rw [g]
  exact ⟨by kernel_rfl,Below.refl _ _⟩
 intro g9
 have g9:¬k=9#8:=of_decide_eq_false g9
 refine Ae<|Ab<|Lw.val (Ce O (show _=some (b8 (10#8)) from rfl)) O<|Lw.val (Ac O) O<|Af<|Aa<|Cw.out<|Au O ?_ ?_
 ·intro g
  have g:k=10#8:=of_decide_eq_true g
  refine Aq<|Aa<|Cw.out<|Bs O true ((decide_eq_true g))<|Ae<|Ab<|Lw.val (Ac O) O<|Lw.val (Ac O) O<|Lw.val (Ac O) O<|Af<|Aa<|Cw.out<|An<|Bk<|Ak<|Cz O O O O ?_
  rw [g]
  exact ⟨by kernel_rfl,Below.refl _ _⟩
 intro g10
 have g10:¬k=10#8:=of_decide_eq_false g10
 refine Ae<|Ab<|Lw.val (Ce O (show _=some (b8 (11#8)) from rfl)) O<|Lw.val (Ac O) O<|Af<|Aa<|Cw.out<|Au O ?_ ?_
 ·intro g
  have g:k=11#8:=of_decide_eq_true g
  refine Aq<|Aa<|Cw.out<|Bs O true ((decide_eq_true g))<|Ae<|Ab<|Lw.val (Ac O) O<|Lw.val (Ac O) O<|Lw.val (Ac O) O<|Af<|Aa<|Cw.out<|An<|Bk<|Ak<|Cz O O O O ?_
  rw [g]
  exact ⟨by kernel_rfl,Below.refl _ _⟩
 intro g11
 have g11:¬k=11#8:=of_decide_eq_false g11
 refine Ab<|Lw.val (Ce O (show _=some (b8 (13#8)) from rfl)) O<|Lw.val (Ac O) O<|Af<|Aa<|Cw.out<|Au O ?_ ?_
 ·intro g
  have g:k=13#8:=of_decide_eq_true g
  refine Ae<|Ab<|Lw.val (Ac O) O<|Lw.val (Ac O) O<|Lw.val (Ac O) O<|Af<|Aa<|Cw.out<|An<|Bk<|Ak<|Cz O O O O ?_
  rw [g]
  exact ⟨by kernel_rfl,Below.refl _ _⟩
 intro g13
 have g13:¬k=13#8:=of_decide_eq_false g13
 refine Ae<|Ab<|Lw.val (Ce O (show _=some (b8 (12#8)) from rfl)) O<|Lw.val (Ac O) O<|Af<|Aa<|Cw.out<|Au O ?_ ?_
 ·intro g
  have g:k=12#8:=of_decide_eq_true g
  refine Ae<|Ab<|Lw.val (Ac O) O<|Lw.val (Ac O) O<|Lw.val (Ac O) O<|Af<|Aa<|Cw.out<|An<|Bk<|Ak<|Cz O O O O ?_
  rw [g]
  exact ⟨by kernel_rfl,Below.refl _ _⟩
 intro g12
 have g12:¬k=12#8:=of_decide_eq_false g12
 refine Aq<|Bo<|Aa<|Cw.out<|Ae<|Ab<|Lw.val (Ac O) O<|Lw.val (Ac O) O<|Lw.val (Ac O) O<|Af<|Aa<|Cw.out<|An<|Cz O O O O ?_
 have e:kdOf k=none:=by
  cases h:kdOf k with
  |none=>rfl
  |some r=>
   have:=kd_some k (by rw [h];rfl)
   rcases this with h|h|h|h|h|h|h|h|h|h|h|h|h<;>contradiction
 rw [show tkR k=(0,0,false) by unfold tkR;rw [e]]
 exact ⟨rfl,Below.refl _ _⟩
theorem within10_c (n a b:Int) (w:World):Fnc Tryz.prog 136 [.int .i64 n, .int .i64 a, .int .i64 b] w (fun r w' =>r= .bool (decide (a≤n) && decide (n≤b))∧Below w.heap.size w w'):=by
 refine Ap (n:=15) Tryz.func136 (by kernel_rfl) O O O<|Ae<|Ab<|Lw.val (Ac O) O<|Af<|Aa<|Cw.out<|Ae<|Ab<|Lw.val (Ad O) O<|Lw.val (Ad O) O<|Lw.val (Cu O O) O<|Lw.val (Ad O) O ?_
 refine Bt 10 O ?_ ?_
 ·intro g
  refine Lw.take (dj:=10) O O<|Lw.val (Ad O) O<|Lw.take (dj:=10) O O<|Lw.val (Ad O) O<|Lw.take (dj:=10) O O<|Lw.val (C8 O O) O<|Lw.val (As O O) O<|Lw.val (Ac O) O<|Af<|Aa<|Cw.out<|An<|Bb O O ?_
  rw [g]
  exact ⟨rfl,Below.refl _ _⟩
 intro g
 refine Ai (dj:=10) O O O O<|Ai (dj:=10) O O O O<|Ai (dj:=10) O O O O<|Lw.val (Bd O O) O<|Lw.val (Ac O) O<|Af<|Aa<|Cw.out<|An<|Bb O O ?_
 rw [g]
 exact ⟨rfl,Below.refl _ _⟩
def shpB (f:Int) (s:List Int):Bool:=if f=0 then decide (s.length=0) else if f=1 then Shapes.ok s else gord s
theorem kindF_eq {k:BitVec 8} {i s:List Int} {n p a b c d e f:Int} (hk:kdOf k=some [a,b,c,d,e,f]) (h1:a≤(i.length:Int)) (h2:(i.length:Int)≤b):
  kindF k i s n p=(decide (c≤n∧n≤d∧0≤p∧p≤e) && shpB f s):=by
 unfold kindF
 rw [hk]
 show kindB a b c d e f i s n p=_
 rw [Bool.eq_iff_iff,kindB_iff,Bool.and_eq_true,decide_eq_true_iff]
 unfold shpB
 constructor
 ·rintro ⟨⟨-, -,q1,q2,q3,q4⟩,q5⟩;exact ⟨⟨q1,q2,q3,q4⟩,q5⟩
 ·rintro ⟨⟨q1,q2,q3,q4⟩,q5⟩;exact ⟨⟨h1,h2,q1,q2,q3,q4⟩,q5⟩
theorem kindF_no {k:BitVec 8} {i s:List Int} {n p a b c d e f:Int} (hk:kdOf k=some [a,b,c,d,e,f]) (h:¬(a≤(i.length:Int)∧(i.length:Int)≤b)):kindF k i s n p=false:=by
 cases hf:kindF k i s n p with
 |false=>rfl
 |true=>
  have:=(kindF_at hf hk).1
  exact absurd ⟨this.1,this.2.1⟩ h
theorem fl_ge {l:List Int}:∀m:Nat,(∀i:Nat,i<m→1≤cn (i:Int) l)→m≤fl (m:Int) l
 |0,_=>Nat.zero_le _
 |m+1,h=>by
  have:=fl_ge m fun i hi=>h i (by omega)
  have:=h m (by omega)
  rw [fl_succ];omega
theorem fl_gt {l:List Int} {j:Nat} (hj:2≤cn (j:Int) l):∀m:Nat,j<m→(∀i:Nat,i<m→1≤cn (i:Int) l)→m+1≤fl (m:Int) l
 |0,h,_=>by omega
 |m+1,h,hh=>by
  rw [fl_succ]
  by_cases e:j=m
  ·have:=fl_ge m fun i hi=>hh i (by omega)
   rw [← e] at this ⊢;omega
  ·have:=fl_gt hj m (by omega) fun i hi=>hh i (by omega)
   have:=hh m (by omega)
   omega
theorem cn_none {i:Int}:∀{l:List Int},i ∉ l→cn i l=0
 |[],_=>rfl
 |x::l,h=>by
  simp only [cn]
  rw [cn_none fun hm=>h (List.mem_cons_of_mem _ hm),if_neg fun e=>h (by rw [e];simp)]
/-- Two words for an order of directions. -/
theorem gord_ord (s:List Int):gord s=(decide (s.length≤4) && ordOk s):=by
 unfold gord
 by_cases h4:s.length≤4
 ·rw [decide_eq_true h4,Bool.and_true,Bool.true_and,Bool.eq_iff_iff]
  constructor
  ·intro hc
   have hm:∀i:Nat,i<s.length→1≤cn (i:Int) s:=fun i hi=>cn_mem (by simpa using cov_iff.1 hc i hi)
   refine cn_ord fun i hi=> ?_
   have h1:=hm i hi
   by_cases e:2≤cn (i:Int) s
   ·have:=fl_gt e s.length hi hm
    have:=fl_le (s.length:Int) s
    omega
   ·omega
  ·intro ho
   refine cov_iff.2 fun j hj=> ?_
   have:=ord_cn ho h4 hj
   cases hc:s.contains (j:Int) with
   |true=>rfl
   |false=>
    exfalso
    have hno:(j:Int) ∉ s:=by simpa using hc
    have h0:cn (j:Int) s=0:=cn_none hno
    omega
 ·rw [decide_eq_false h4];simp
theorem kd_rest:∀k:BitVec 8,((decide (k=1#8)||decide (k=2#8)||decide (k=10#8)||decide (k=11#8))||(match kdOf k with
  |some [_,_,c,d,e,f]=>decide (f=0) && (decide (k=8#8)||decide (e=0)) && (decide (k=6#8)||decide (k=8#8)||decide (k=9#8)||decide (k=12#8)||decide (k=13#8)||(decide (c=0) && decide (d=0)))
  |_=>true))=true:=by decide+kernel
theorem kdOf_none {k:BitVec 8} {i s:List Int} {n p:Int} (h:kdOf k=none):kindF k i s n p=false:=by unfold kindF;rw [h]
theorem tk_cases (k:BitVec 8):(kdOf k=none∧tkR k=(0,0,false))∨∃a b c d e f,kdOf k=some [a,b,c,d,e,f]∧tkR k=(a,b,true):=by
 cases h:kdOf k with
 |none=>exact .inl ⟨rfl,by unfold tkR;rw [h]⟩
 |some r=>
  have:=(kd_look h).2.2
  obtain ⟨a,b,c,d,e,f,rfl⟩:=six_of this
  exact .inr ⟨a,b,c,d,e,f,rfl,by unfold tkR;rw [h]⟩
theorem rnode_c (x:N5) (W:World) (hx:N5.at W x):Fnc Tryz.prog 34 [x.v] W (fun r w' =>r= .bool (kindF x.k x.i x.s x.n x.p)∧Below W.heap.size W w'):=by
 have hB:=Below.refl W.heap.size W
 have h_i:=hx.i
 have h_s:=hx.s
 refine Ap (n:=112) Tryz.func34 (by kernel_rfl) O O O<|Ae<|Ab<|Bv (cs:=x.cells) O O O ?_
 rintro A_x w eA_x b_x hn -
 replace hB:=hB.bs hn
 replace h_i:=h_i.bs hn
 replace h_s:=h_s.bs hn
 clear hn
 refine Lw.val (Ac O) O<|Af<|Aa<|Cw.out<|Ae<|Ab<|Lw.val (Ag (q:=0) Tryz.underlying25 O (sz_22 _) O) O<|Lw.val (Aj (ag_22 _) O (by assumption) O) O ?_
 refine Al O O (takes_c x.k _) ?_
 rintro _ w ⟨rfl,hn⟩
 replace hB:=hB.bs hn
 replace h_i:=h_i.bs hn
 replace h_s:=h_s.bs hn
 replace b_x:=b_x.bs hn
 clear hn
 rcases tk_cases x.k with ⟨e1,e2⟩|⟨a,b,c,d,e,f,e1,e2⟩
 ·rw [e2]
  refine Lw.val (Ad O) O<|Lw.val (Ax (i:=0) O O) O<|Lw.val (Ax (i:=1) O O) O<|Lw.val (Ax (i:=2) O O) O<|Lw.val (Ac O) O<|Lw.val (Ac O) O<|Lw.val (Ac O) O<|Af<|Aa<|Cw.out<|Ae<|Ae<|Ab<|Lw.val (Ad O) O<|Lw.val (Bx O) O<|Lw.val (Ad O) O<|Cd 15 (v' := .bool true) O (congrArg Value.bool (rfl))<|Ai (dj:=15) O O O O<|Ai (dj:=15) O O O O<|Ai (dj:=15) O O O O<|Ai (dj:=15) O O O O<|Ai (dj:=15) O O O O<|Ai (dj:=15) O O O O<|Ai (dj:=15) O O O O<|Lw.val (As O O) O<|Af<|Aa<|Cw.out<|Br O<|Ae<|Ab<|Lw.val (Ac O) O<|Af<|Aa<|Cw.out<|An<|Ak<|Bb O O ?_
  exact ⟨by rw [kdOf_none e1],hB⟩
 rw [e2]
 refine Lw.val (Ad O) O<|Lw.val (Ax (i:=0) O O) O<|Lw.val (Ax (i:=1) O O) O<|Lw.val (Ax (i:=2) O O) O<|Lw.val (Ac O) O<|Lw.val (Ac O) O<|Lw.val (Ac O) O<|Af<|Aa<|Cw.out<|Ae<|Ae<|Ab<|Lw.val (Ad O) O<|Lw.val (Bx O) O<|Lw.val (Ad O) O<|Cd 15 (v' := .bool false) O (congrArg Value.bool (rfl))<|Lw.take (dj:=15) O O<|Lw.val (Ag (q:=0) Tryz.underlying25 O (sz_23 _) O) O<|Lw.take (dj:=15) O O<|Lw.val (Aj (ag_23 _) O (by assumption) O) O ?_
 refine Lw.take (dj:=15) O O<|Lw.val (Av st_23 O (by assumption)) O ?_
 refine Lw.take (dj:=15) O O<|Lw.val (Ad O) O<|Lw.take (dj:=15) O O<|Lw.val (Ad O) O<|Lw.take (dj:=15) O O<|Al O O (within10_c (x.i.length:Int) a b w) ?_
 rintro _ w ⟨rfl,hn⟩
 replace hB:=hB.bs hn
 replace h_i:=h_i.bs hn
 replace h_s:=h_s.bs hn
 replace b_x:=b_x.bs hn
 clear hn
 refine Lw.take (dj:=15) O O<|Lw.val (Bx O) O<|Lw.val (Bd O O) O<|Af<|Aa<|Cw.out<|Au O ?_ ?_
 ·intro q
  refine Ae<|Ab<|Lw.val (Ac O) O<|Af<|Aa<|Cw.out<|An<|Ak<|Bb O O ?_
  have q:¬(a≤(x.i.length:Int)∧(x.i.length:Int)≤b):=by simp at q;omega
  exact ⟨by rw [kindF_no e1 q],hB⟩
 intro q
 have q:a≤(x.i.length:Int)∧(x.i.length:Int)≤b:=by simp at q;omega
 obtain ⟨h1,h2⟩:=q
 clear e2
 refine Aq<|Aa<|Cw.out<|Ae<|Ae<|Ab<|Lw.val (Ag (q:=0) Tryz.underlying25 O (sz_22 _) O) O<|Lw.val (Aj (ag_22 _) O (by assumption) O) O ?_
 refine Af<|Aa<|Cw.out<|Cw.block<|Ae<|Ae<|Ab<|Lw.val (Ce O (show _=some (b8 (1#8)) from rfl)) O<|Lw.val (Ac O) O<|Af<|Aa<|Cw.out<|Au O ?_ ?_
 ·intro q
  have g:x.k=1#8:=of_decide_eq_true q
  refine Aq<|Aa<|Cw.out<|Bs O true (q)<|Ae<|Ab<|Lw.val (Ag (q:=0) Tryz.underlying25 O (sz_23 _) O) O<|Lw.val (Aj (ag_23 _) O (by assumption) O) O ?_
  have K8:kindF x.k x.i x.s x.n x.p=(Shapes.ok x.s && decide (x.n=0) && decide (x.p=0)):=by
   have e2:=e1
   rw [g,kd_1] at e2
   cases e2
   rw [kindF_eq e1 h1 h2,Bool.eq_iff_iff]
   show ((decide _ && Shapes.ok x.s)=true)↔_
   simp only [Bool.and_eq_true,decide_eq_true_eq]
   constructor
   ·rintro ⟨q1,q2⟩;exact ⟨⟨q2,by omega⟩,by omega⟩
   ·rintro ⟨⟨q1,q2⟩,q3⟩;exact ⟨by omega,q1⟩
  rw [K8]
  refine Al O O (rcheck_c x.y x.s _ h_s) ?_
  rintro _ w ⟨rfl,hn⟩
  replace hB:=hB.bs hn
  replace h_i:=h_i.bs hn
  replace h_s:=h_s.bs hn
  replace b_x:=b_x.bs hn
  clear hn
  refine Lw.val (Ad O) O ?_
  refine Bt 33 O ?_ ?_
  ·intro q1
   refine Lw.take (dj:=33) O O<|Lw.val (Ag (q:=0) Tryz.underlying25 O (sz_3 _) O) O<|Lw.take (dj:=33) O O<|Lw.val (Aj (ag_3 _) O (by assumption) O) O ?_
   refine Lw.take (dj:=33) O O<|Lw.val (Cn O O) O<|Lw.val (As O O) O<|Lw.val (Ad O) O ?_
   refine Bt 38 O ?_ ?_
   ·intro q2
    refine Lw.take (dj:=38) O O<|Lw.val (Ag (q:=0) Tryz.underlying25 O (sz_3 _) O) O<|Lw.take (dj:=38) O O<|Lw.val (Aj (ag_3 _) O (by assumption) O) O ?_
    refine Lw.take (dj:=38) O O<|Lw.val (Cn O O) O<|Lw.val (As O O) O<|Lw.val (Ac O) O<|Af<|Aa<|Cw.out<|An<|Bk<|Ak<|Bb O O ?_
    rw [q1,q2]
    exact ⟨rfl,hB⟩
   intro q2
   refine Ai (dj:=38) O O O O<|Ai (dj:=38) O O O O<|Ai (dj:=38) O O O O<|Lw.val (Bd O O) O<|Lw.val (Ac O) O<|Af<|Aa<|Cw.out<|An<|Bk<|Ak<|Bb O O ?_
   rw [q1,q2]
   exact ⟨rfl,hB⟩
  intro q1
  refine Ai (dj:=33) O O O O<|Ai (dj:=33) O O O O<|Ai (dj:=33) O O O O<|Lw.val (Bd O O) O<|Lw.val (Ad O) O<|Ai (dj:=38) O O O O<|Ai (dj:=38) O O O O<|Ai (dj:=38) O O O O<|Lw.val (Bd O O) O<|Lw.val (Ac O) O<|Af<|Aa<|Cw.out<|An<|Bk<|Ak<|Bb O O ?_
  rw [q1]
  exact ⟨rfl,hB⟩
 intro q1
 refine Ae<|Ab<|Lw.val (Ce O (show _=some (b8 (2#8)) from rfl)) O<|Lw.val (Ac O) O<|Af<|Aa<|Cw.out<|Au O ?_ ?_
 ·intro q
  have g:x.k=2#8:=of_decide_eq_true q
  refine Aq<|Aa<|Cw.out<|Bs O true (q)<|Ae<|Ab<|Lw.val (Ag (q:=0) Tryz.underlying25 O (sz_23 _) O) O<|Lw.val (Aj (ag_23 _) O (by assumption) O) O ?_
  have K8:kindF x.k x.i x.s x.n x.p=(Shapes.ok x.s && decide (x.n=0) && decide (x.p=0)):=by
   have e2:=e1
   rw [g,kd_2] at e2
   cases e2
   rw [kindF_eq e1 h1 h2,Bool.eq_iff_iff]
   show ((decide _ && Shapes.ok x.s)=true)↔_
   simp only [Bool.and_eq_true,decide_eq_true_eq]
   constructor
   ·rintro ⟨q1,q2⟩;exact ⟨⟨q2,by omega⟩,by omega⟩
   ·rintro ⟨⟨q1,q2⟩,q3⟩;exact ⟨by omega,q1⟩
  rw [K8]
  refine Al O O (rcheck_c x.y x.s _ h_s) ?_
  rintro _ w ⟨rfl,hn⟩
  replace hB:=hB.bs hn
  replace h_i:=h_i.bs hn
  replace h_s:=h_s.bs hn
  replace b_x:=b_x.bs hn
  clear hn
  refine Lw.val (Ad O) O ?_
  refine Bt 33 O ?_ ?_
  ·intro q1
   refine Lw.take (dj:=33) O O<|Lw.val (Ag (q:=0) Tryz.underlying25 O (sz_3 _) O) O<|Lw.take (dj:=33) O O<|Lw.val (Aj (ag_3 _) O (by assumption) O) O ?_
   refine Lw.take (dj:=33) O O<|Lw.val (Cn O O) O<|Lw.val (As O O) O<|Lw.val (Ad O) O ?_
   refine Bt 38 O ?_ ?_
   ·intro q2
    refine Lw.take (dj:=38) O O<|Lw.val (Ag (q:=0) Tryz.underlying25 O (sz_3 _) O) O<|Lw.take (dj:=38) O O<|Lw.val (Aj (ag_3 _) O (by assumption) O) O ?_
    refine Lw.take (dj:=38) O O<|Lw.val (Cn O O) O<|Lw.val (As O O) O<|Lw.val (Ac O) O<|Af<|Aa<|Cw.out<|An<|Bk<|Ak<|Bb O O ?_
    rw [q1,q2]
    exact ⟨rfl,hB⟩
   intro q2
   refine Ai (dj:=38) O O O O<|Ai (dj:=38) O O O O<|Ai (dj:=38) O O O O<|Lw.val (Bd O O) O<|Lw.val (Ac O) O<|Af<|Aa<|Cw.out<|An<|Bk<|Ak<|Bb O O ?_
   rw [q1,q2]
   exact ⟨rfl,hB⟩
  intro q1
  refine Ai (dj:=33) O O O O<|Ai (dj:=33) O O O O<|Ai (dj:=33) O O O O<|Lw.val (Bd O O) O<|Lw.val (Ad O) O<|Ai (dj:=38) O O O O<|Ai (dj:=38) O O O O<|Ai (dj:=38) O O O O<|Lw.val (Bd O O) O<|Lw.val (Ac O) O<|Af<|Aa<|Cw.out<|An<|Bk<|Ak<|Bb O O ?_
  rw [q1]
  exact ⟨rfl,hB⟩
 intro q2
 refine Ab<|Lw.val (Ce O (show _=some (b8 (10#8)) from rfl)) O<|Lw.val (Ac O) O<|Af<|Aa<|Cw.out<|Au O ?_ ?_
 ·intro q
  have g:x.k=10#8:=of_decide_eq_true q
  have K8:kindF x.k x.i x.s x.n x.p=(Shapes.ok x.s && decide (x.n=0) && decide (x.p=0)):=by
   have e2:=e1
   rw [g,kd_10] at e2
   cases e2
   rw [kindF_eq e1 h1 h2,Bool.eq_iff_iff]
   show ((decide _ && Shapes.ok x.s)=true)↔_
   simp only [Bool.and_eq_true,decide_eq_true_eq]
   constructor
   ·rintro ⟨q1,q2⟩;exact ⟨⟨q2,by omega⟩,by omega⟩
   ·rintro ⟨⟨q1,q2⟩,q3⟩;exact ⟨by omega,q1⟩
  rw [K8]
  refine Ae<|Ab<|Lw.val (Ag (q:=0) Tryz.underlying25 O (sz_23 _) O) O<|Lw.val (Aj (ag_23 _) O (by assumption) O) O ?_
  refine Al O O (rcheck_c x.y x.s _ h_s) ?_
  rintro _ w ⟨rfl,hn⟩
  replace hB:=hB.bs hn
  replace h_i:=h_i.bs hn
  replace h_s:=h_s.bs hn
  replace b_x:=b_x.bs hn
  clear hn
  refine Lw.val (Ad O) O ?_
  refine Bt 33 O ?_ ?_
  ·intro q1
   refine Lw.take (dj:=33) O O<|Lw.val (Ag (q:=0) Tryz.underlying25 O (sz_3 _) O) O<|Lw.take (dj:=33) O O<|Lw.val (Aj (ag_3 _) O (by assumption) O) O ?_
   refine Lw.take (dj:=33) O O<|Lw.val (Cn O O) O<|Lw.val (As O O) O<|Lw.val (Ad O) O ?_
   refine Bt 38 O ?_ ?_
   ·intro q2
    refine Lw.take (dj:=38) O O<|Lw.val (Ag (q:=0) Tryz.underlying25 O (sz_3 _) O) O<|Lw.take (dj:=38) O O<|Lw.val (Aj (ag_3 _) O (by assumption) O) O ?_
    refine Lw.take (dj:=38) O O<|Lw.val (Cn O O) O<|Lw.val (As O O) O<|Lw.val (Ac O) O<|Af<|Aa<|Cw.out<|An<|Bk<|Ak<|Bb O O ?_
    rw [q1,q2]
    exact ⟨rfl,hB⟩
   intro q2
   refine Ai (dj:=38) O O O O<|Ai (dj:=38) O O O O<|Ai (dj:=38) O O O O<|Lw.val (Bd O O) O<|Lw.val (Ac O) O<|Af<|Aa<|Cw.out<|An<|Bk<|Ak<|Bb O O ?_
   rw [q1,q2]
   exact ⟨rfl,hB⟩
  intro q1
  refine Ai (dj:=33) O O O O<|Ai (dj:=33) O O O O<|Ai (dj:=33) O O O O<|Lw.val (Bd O O) O<|Lw.val (Ad O) O<|Ai (dj:=38) O O O O<|Ai (dj:=38) O O O O<|Ai (dj:=38) O O O O<|Lw.val (Bd O O) O<|Lw.val (Ac O) O<|Af<|Aa<|Cw.out<|An<|Bk<|Ak<|Bb O O ?_
  rw [q1]
  exact ⟨rfl,hB⟩
 intro q10
 refine Ae<|Ab<|Lw.val (Ce O (show _=some (b8 (11#8)) from rfl)) O<|Lw.val (Ac O) O<|Af<|Aa<|Cw.out<|Au O ?_ ?_
 ·intro q
  have g:x.k=11#8:=of_decide_eq_true q
  have K8:kindF x.k x.i x.s x.n x.p=(decide (x.s.length≤4) && ordOk x.s && decide (x.n=0) && decide (x.p=0)):=by
   have e2:=e1
   rw [g,kd_11] at e2
   cases e2
   rw [kindF_eq e1 h1 h2,Bool.eq_iff_iff]
   show ((decide _ && gord x.s)=true)↔_
   rw [gord_ord]
   simp only [Bool.and_eq_true,decide_eq_true_eq]
   constructor
   ·rintro ⟨q1,q2,q3⟩;exact ⟨⟨⟨q2,q3⟩,by omega⟩,by omega⟩
   ·rintro ⟨⟨⟨q1,q2⟩,q3⟩,q4⟩;exact ⟨by omega,q1,q2⟩
  rw [K8]
  refine Ae<|Ab<|Lw.val (Ag (q:=0) Tryz.underlying25 O (sz_23 _) O) O<|Lw.val (Aj (ag_23 _) O (by assumption) O) O ?_
  refine Lw.val (Av st_23 O (by assumption)) O ?_
  refine Lw.val (C8 O O) O<|Lw.val (Ad O) O ?_
  refine Bt 49 O ?_ ?_
  ·intro q4
   have l4:x.s.length≤4:=by have:=of_decide_eq_true q4;omega
   refine Lw.take (dj:=49) O O<|Lw.val (Ag (q:=0) Tryz.underlying25 O (sz_23 _) O) O<|Lw.take (dj:=49) O O<|Lw.val (Aj (ag_23 _) O (by assumption) O) O ?_
   refine Lw.take (dj:=49) O O<|Lw.val (Ag (q:=0) Tryz.underlying25 O (sz_23 _) O) O<|Lw.take (dj:=49) O O<|Lw.val (Aj (ag_23 _) O (by assumption) O) O ?_
   refine Lw.take (dj:=49) O O<|Lw.val (Av st_23 O (by assumption)) O ?_
   refine Lw.take (dj:=49) O O<|Al O O (rorder_c x.y x.s x.s.length _ h_s l4) ?_
   rintro _ w ⟨rfl,hn⟩
   replace hB:=hB.bs hn
   replace h_i:=h_i.bs hn
   replace h_s:=h_s.bs hn
   replace b_x:=b_x.bs hn
   clear hn
   rw [decide_eq_true (show x.s.length=x.s.length from rfl),Bool.true_and,decide_eq_true l4]
   refine Lw.val (As O O) O<|Lw.val (Ad O) O ?_
   refine Bt 57 O ?_ ?_
   ·intro q5
    refine Lw.take (dj:=57) O O<|Lw.val (Ag (q:=0) Tryz.underlying25 O (sz_3 _) O) O<|Lw.take (dj:=57) O O<|Lw.val (Aj (ag_3 _) O (by assumption) O) O ?_
    refine Lw.take (dj:=57) O O<|Lw.val (Cn O O) O<|Lw.val (As O O) O<|Lw.val (Ad O) O ?_
    refine Bt 62 O ?_ ?_
    ·intro q6
     refine Lw.take (dj:=62) O O<|Lw.val (Ag (q:=0) Tryz.underlying25 O (sz_3 _) O) O<|Lw.take (dj:=62) O O<|Lw.val (Aj (ag_3 _) O (by assumption) O) O ?_
     refine Lw.take (dj:=62) O O<|Lw.val (Cn O O) O<|Lw.val (As O O) O<|Lw.val (Ac O) O<|Af<|Aa<|Cw.out<|An<|Bk<|Ak<|Bb O O ?_
     rw [q5,q6]
     exact ⟨rfl,hB⟩
    intro q6
    refine Ai (dj:=62) O O O O<|Ai (dj:=62) O O O O<|Ai (dj:=62) O O O O<|Lw.val (Bd O O) O<|Lw.val (Ac O) O<|Af<|Aa<|Cw.out<|An<|Bk<|Ak<|Bb O O ?_
    rw [q5,q6]
    exact ⟨rfl,hB⟩
   intro q5
   refine Ai (dj:=57) O O O O<|Ai (dj:=57) O O O O<|Ai (dj:=57) O O O O<|Lw.val (Bd O O) O<|Lw.val (Ad O) O<|Ai (dj:=62) O O O O<|Ai (dj:=62) O O O O<|Ai (dj:=62) O O O O<|Lw.val (Bd O O) O<|Lw.val (Ac O) O<|Af<|Aa<|Cw.out<|An<|Bk<|Ak<|Bb O O ?_
   rw [q5]
   exact ⟨rfl,hB⟩
  intro q4
  have l4:¬x.s.length≤4:=by have:=of_decide_eq_false q4;omega
  refine Ai (dj:=49) O O O O<|Ai (dj:=49) O O O O<|Ai (dj:=49) O O O O<|Ai (dj:=49) O O O O<|Ai (dj:=49) O O O O<|Ai (dj:=49) O O O O<|Lw.val (Bd O O) O<|Lw.val (Ad O) O<|Ai (dj:=57) O O O O<|Ai (dj:=57) O O O O<|Ai (dj:=57) O O O O<|Lw.val (Bd O O) O<|Lw.val (Ad O) O<|Ai (dj:=62) O O O O<|Ai (dj:=62) O O O O<|Ai (dj:=62) O O O O<|Lw.val (Bd O O) O<|Lw.val (Ac O) O<|Af<|Aa<|Cw.out<|An<|Bk<|Ak<|Bb O O ?_
  rw [decide_eq_false l4]
  exact ⟨rfl,hB⟩
 intro q11
 have hr:=kd_rest x.k
 rw [q1,q2,q10,q11,e1] at hr
 simp only [Bool.or_false,Bool.false_or,Bool.and_eq_true,Bool.or_eq_true,decide_eq_true_eq] at hr
 obtain ⟨⟨f0,e8⟩,cd⟩:=hr
 have K:kindF x.k x.i x.s x.n x.p=(decide (c≤x.n∧x.n≤d∧0≤x.p∧x.p≤e) && decide (x.s.length=0)):=by
  rw [kindF_eq e1 h1 h2,f0];rfl
 clear q1 q2 q10 q11 f0
 refine Aq<|Bo<|Aa<|Cw.out<|Ae<|Ae<|Ab<|Lw.val (Ag (q:=0) Tryz.underlying25 O (sz_23 _) O) O<|Lw.val (Aj (ag_23 _) O (by assumption) O) O ?_
 refine Lw.val (Av st_23 O (by assumption)) O ?_
 refine Lw.val (Cr O O) O<|Lw.val (Ad O) O ?_
 refine Bt 71 O ?_ ?_
 ·intro q
  have q:¬x.s.length=0:=by have:=of_decide_eq_true q;omega
  refine Ai (dj:=71) O O O O<|Ai (dj:=71) O O O O<|Ai (dj:=71) O O O O<|Ai (dj:=71) O O O O<|Lw.passN (dj:=75) O O O<|Lw.passN (dj:=75) O O O<|Lw.passN (dj:=75) O O O<|Ai (dj:=71) O O O O<|Lw.val (As O O) O<|Af<|Aa<|Cw.out<|Br O<|Ae<|Ab<|Lw.val (Ac O) O<|Af<|Aa<|Cw.out<|An<|Ak<|Bb O O ?_
  exact ⟨by rw [K,decide_eq_false q,Bool.and_false],hB⟩
 intro q
 have l0:x.s.length=0:=by have:=of_decide_eq_false q;omega
 refine Lw.take (dj:=71) O O<|Lw.val (Ag (q:=0) Tryz.underlying25 O (sz_22 _) O) O<|Lw.take (dj:=71) O O<|Lw.val (Aj (ag_22 _) O (by assumption) O) O ?_
 refine Lw.take (dj:=71) O O<|Lw.val (Ex.neq8 O (show _=some (b8 (8#8)) from rfl)) O<|Lw.take (dj:=71) O O<|Lw.val (Ad O) O ?_
 refine Bt 75 O ?_ ?_
 ·intro q8
  have k8:¬x.k=8#8:=by simpa using q8
  have e0:e=0:=e8.resolve_left k8
  refine Lw.take (dj:=75) O O<|Lw.val (Ag (q:=0) Tryz.underlying25 O (sz_3 _) O) O<|Lw.take (dj:=75) O O<|Lw.val (Aj (ag_3 _) O (by assumption) O) O ?_
  refine Lw.take (dj:=75) O O<|Lw.val (B7 O O) O<|Lw.take (dj:=71) O O<|Lw.val (As O O) O<|Lw.val (Bd O O) O<|Af<|Aa<|Cw.out<|Au O ?_ ?_
  ·intro q
   have p0:¬x.p=0:=by simpa using q
   refine Ae<|Ab<|Lw.val (Ac O) O<|Af<|Aa<|Cw.out<|An<|Ak<|Bb O O ?_
   exact ⟨by rw [K,decide_eq_false (show ¬(c≤x.n∧x.n≤d∧0≤x.p∧x.p≤e) by omega),Bool.false_and],hB⟩
  intro q
  have p0:x.p=0:=by simpa using q
  refine Aq<|Aa<|Cw.out<|Ae<|Ae<|Ab<|Lw.val (Ag (q:=0) Tryz.underlying25 O (sz_22 _) O) O<|Lw.val (Aj (ag_22 _) O (by assumption) O) O ?_
  refine Af<|Aa<|Cw.out<|Cw.block<|Ae<|Ab<|Lw.val (Ce O (show _=some (b8 (6#8)) from rfl)) O<|Lw.val (Ac O) O<|Af<|Aa<|Cw.out<|Au O ?_ ?_
  ·intro q
   have g:x.k=6#8:=of_decide_eq_true q
   have e2:=e1
   rw [g,kd_6] at e2
   cases e2
   refine Ae<|Ab<|Lw.val (Ag (q:=0) Tryz.underlying25 O (sz_3 _) O) O<|Lw.val (Aj (ag_3 _) O (by assumption) O) O ?_
   refine Al O O (within10_c x.n 0 31 _) ?_
   rintro _ w ⟨rfl,hn⟩
   replace hB:=hB.bs hn
   replace h_i:=h_i.bs hn
   replace h_s:=h_s.bs hn
   replace b_x:=b_x.bs hn
   clear hn
   refine Lw.val (Ac O) O<|Af<|Aa<|Cw.out<|An<|Bk<|Ak<|Bb O O ?_
   refine ⟨congrArg Value.bool ?_,hB⟩
   rw [K,Bool.eq_iff_iff]
   simp only [Bool.and_eq_true,decide_eq_true_eq]
   omega
  intro q6
  refine Ae<|Ab<|Lw.val (Ce O (show _=some (b8 (8#8)) from rfl)) O<|Lw.val (Ac O) O<|Af<|Aa<|Cw.out<|Bs O false ((decide_eq_false k8))<|Ae<|Ab<|Lw.val (Ce O (show _=some (b8 (9#8)) from rfl)) O<|Lw.val (Ac O) O<|Af<|Aa<|Cw.out<|Au O ?_ ?_
  ·intro q
   have g:x.k=9#8:=of_decide_eq_true q
   have e2:=e1
   rw [g,kd_9] at e2
   cases e2
   refine Ae<|Ab<|Lw.val (Ag (q:=0) Tryz.underlying25 O (sz_3 _) O) O<|Lw.val (Aj (ag_3 _) O (by assumption) O) O ?_
   refine Al O O (within10_c x.n 1 64 _) ?_
   rintro _ w ⟨rfl,hn⟩
   replace hB:=hB.bs hn
   replace h_i:=h_i.bs hn
   replace h_s:=h_s.bs hn
   replace b_x:=b_x.bs hn
   clear hn
   refine Lw.val (Ac O) O<|Af<|Aa<|Cw.out<|An<|Bk<|Ak<|Bb O O ?_
   refine ⟨congrArg Value.bool ?_,hB⟩
   rw [K,Bool.eq_iff_iff]
   simp only [Bool.and_eq_true,decide_eq_true_eq]
   omega
  intro q9
  refine Ae<|Ae<|Ab<|Lw.val (Ce O (show _=some (b8 (12#8)) from rfl)) O<|Lw.val (Ac O) O<|Af<|Aa<|Cw.out<|Au O ?_ ?_
  ·intro qq
   have g:x.k=12#8:=of_decide_eq_true qq
   have e2:=e1
   rw [g,kd_12] at e2
   cases e2
   refine Aq<|Aa<|Cw.out<|Bs O true (qq)<|Ae<|Ab<|Lw.val (Ag (q:=0) Tryz.underlying25 O (sz_3 _) O) O<|Lw.val (Aj (ag_3 _) O (by assumption) O) O ?_
   refine Al O O (within10_c x.n 0 3 _) ?_
   rintro _ w ⟨rfl,hn⟩
   replace hB:=hB.bs hn
   replace h_i:=h_i.bs hn
   replace h_s:=h_s.bs hn
   replace b_x:=b_x.bs hn
   clear hn
   refine Lw.val (Ac O) O<|Af<|Aa<|Cw.out<|An<|Bk<|Ak<|Bb O O ?_
   refine ⟨congrArg Value.bool ?_,hB⟩
   rw [K,Bool.eq_iff_iff]
   simp only [Bool.and_eq_true,decide_eq_true_eq]
   omega
  intro q12
  refine Ab<|Lw.val (Ce O (show _=some (b8 (13#8)) from rfl)) O<|Lw.val (Ac O) O<|Af<|Aa<|Cw.out<|Au O ?_ ?_
  ·intro q
   have g:x.k=13#8:=of_decide_eq_true q
   have e2:=e1
   rw [g,kd_13] at e2
   cases e2
   refine Ae<|Ab<|Lw.val (Ag (q:=0) Tryz.underlying25 O (sz_3 _) O) O<|Lw.val (Aj (ag_3 _) O (by assumption) O) O ?_
   refine Al O O (within10_c x.n 0 3 _) ?_
   rintro _ w ⟨rfl,hn⟩
   replace hB:=hB.bs hn
   replace h_i:=h_i.bs hn
   replace h_s:=h_s.bs hn
   replace b_x:=b_x.bs hn
   clear hn
   refine Lw.val (Ac O) O<|Af<|Aa<|Cw.out<|An<|Bk<|Ak<|Bb O O ?_
   refine ⟨congrArg Value.bool ?_,hB⟩
   rw [K,Bool.eq_iff_iff]
   simp only [Bool.and_eq_true,decide_eq_true_eq]
   omega
  intro q13
  have cd0:c=0∧d=0:=by
   rcases cd with ((((h|h)|h)|h)|h)|h
   ·exact absurd (decide_eq_true h) (by rw [q6];decide)
   ·exact absurd h k8
   ·exact absurd (decide_eq_true h) (by rw [q9];decide)
   ·exact absurd (decide_eq_true h) (by rw [q12];decide)
   ·exact absurd (decide_eq_true h) (by rw [q13];decide)
   ·exact h
  refine Aq<|Bo<|Aa<|Cw.out<|Ae<|Ab<|Lw.val (Ag (q:=0) Tryz.underlying25 O (sz_3 _) O) O<|Lw.val (Aj (ag_3 _) O (by assumption) O) O ?_
  refine Lw.val (Cn O O) O<|Lw.val (Ac O) O<|Af<|Aa<|Cw.out<|An<|Bb O O ?_
  refine ⟨congrArg Value.bool ?_,hB⟩
  rw [K,Bool.eq_iff_iff]
  simp only [Bool.and_eq_true,decide_eq_true_eq]
  omega
 intro q8
 have g:x.k=8#8:=by simpa using q8
 have e2:=e1
 rw [g,kd_8] at e2
 cases e2
 refine Ai (dj:=75) O O O O<|Ai (dj:=75) O O O O<|Ai (dj:=75) O O O O<|Lw.take (dj:=71) O O<|Lw.val (Bd O O) O<|Lw.val (Bd O O) O<|Af<|Aa<|Cw.out<|C9 O<|Aq<|Aa<|Cw.out<|Ae<|Ae<|Ab<|Lw.val (Ag (q:=0) Tryz.underlying25 O (sz_22 _) O) O<|Lw.val (Aj (ag_22 _) O (by assumption) O) O ?_
 refine Af<|Aa<|Cw.out<|Cw.block<|Ae<|Ab<|Lw.val (Ce O (show _=some (b8 (6#8)) from rfl)) O<|Lw.val (Ac O) O<|Af<|Aa<|Cw.out<|Bs O false ((by rw [g];rfl))<|Ae<|Ab<|Lw.val (Ce O (show _=some (b8 (8#8)) from rfl)) O<|Lw.val (Ac O) O<|Af<|Aa<|Cw.out<|Bs O true ((by rw [g];rfl))<|Ae<|Ab<|Lw.val (Ag (q:=0) Tryz.underlying25 O (sz_3 _) O) O<|Lw.val (Aj (ag_3 _) O (by assumption) O) O ?_
 refine Al O O (within10_c x.n 1 8 _) ?_
 rintro _ w ⟨rfl,hn⟩
 replace hB:=hB.bs hn
 replace h_i:=h_i.bs hn
 replace h_s:=h_s.bs hn
 replace b_x:=b_x.bs hn
 clear hn
 refine Lw.val (Ad O) O ?_
 refine Bt 93 O ?_ ?_
 ·intro q9
  refine Lw.take (dj:=93) O O<|Lw.val (Ag (q:=0) Tryz.underlying25 O (sz_3 _) O) O<|Lw.take (dj:=93) O O<|Lw.val (Aj (ag_3 _) O (by assumption) O) O ?_
  refine Lw.take (dj:=93) O O<|Al O O (within10_c x.p 0 8 _) ?_
  rintro _ w ⟨rfl,hn⟩
  replace hB:=hB.bs hn
  replace h_i:=h_i.bs hn
  replace h_s:=h_s.bs hn
  replace b_x:=b_x.bs hn
  clear hn
  refine Lw.val (As O O) O<|Lw.val (Ac O) O<|Af<|Aa<|Cw.out<|An<|Bk<|Ak<|Bb O O ?_
  have q9' :1≤x.n∧x.n≤8:=by simpa using q9
  refine ⟨congrArg Value.bool ?_,hB⟩
  rw [K,Bool.eq_iff_iff]
  simp only [Bool.and_eq_true,decide_eq_true_eq]
  omega
 intro q9
 have q9' :¬(1≤x.n∧x.n≤8):=by simp at q9;omega
 refine Ai (dj:=93) O O O O<|Ai (dj:=93) O O O O<|Ai (dj:=93) O O O O<|Lw.val (Bd O O) O<|Lw.val (Ac O) O<|Af<|Aa<|Cw.out<|An<|Bk<|Ak<|Bb O O ?_
 exact ⟨by rw [K,decide_eq_false (show ¬(1≤x.n∧x.n≤8∧0≤x.p∧x.p≤8) by omega),Bool.false_and],hB⟩
end Go.Proofs.YtmipoeanpnnjoaaGreatDoor

/-! Contracts: what a kind does. -/
namespace Go.Proofs.YtmipoeanpnnjoaaGreatDoor
open Go Go.Dd Go.RowKit
set_option maxRecDepth 100000

theorem MadeK.mono {W W1 w:World} {x y:Value} {s:List Int} {l:List (BitVec 32)} (h:MadeK W1 w x y s l) (hb:W.heap.size≤W1.heap.size):MadeK W w x y s l:=⟨h.row.mono hb,h.col.mono hb,h.apart⟩
/-- An answer: a tensor of one's own, or an empty one. -/
def AnsD (W w:World) (r:Value) (e:Int) (s:List Int) (l:List (BitVec 32)):Prop:=
 ∃c:T4,r= .tuple #[c.v, .int .i64 e]∧c.at w∧(e≠0→c.s=[]∧c.l=[]∧c.x= .slice none 0 0∧c.y= .slice none 0 0)∧(e=0→c.s=s∧c.l=l∧MadeK W w c.x c.y s l)
theorem ansD_no {W w:World} {e:Int} {s:List Int} {l:List (BitVec 32)} (h:e≠0):AnsD W w (.tuple #[.agg #[.slice none 0 0, .slice none 0 0], .int .i64 e]) e s l:=⟨⟨.slice none 0 0, .slice none 0 0,[],[]⟩,rfl,⟨Sl.nil _ _,Sl.nil _ _⟩,fun _=>⟨rfl,rfl,rfl,rfl⟩,fun h0=>absurd h0 h⟩
theorem Gets.d {W w:World} {r:Value} {e:Int} {s:List Int} {l:List (BitVec 32)} (h:Gets W w r e s l):AnsD W w r e s l:=by
 obtain ⟨c,h1,h2,h3,h4⟩:=h
 exact ⟨c,h1,h2,h3,fun he=>⟨(h4 he).1,(h4 he).2.1,(h4 he).2.2.k⟩⟩
theorem AnsK.d {W w:World} {r:Value} {e:Int} {s:List Int} {l:List (BitVec 32)} (h:AnsK W w r e s l):AnsD W w r e s l:=by
 obtain ⟨x,y,rfl,q1,q2⟩:=h
 by_cases he:e=0
 ·exact ⟨⟨x,y,s,l⟩,rfl,(q2 he).at,fun h=>absurd he h,fun _=>⟨rfl,rfl,q2 he⟩⟩
 ·obtain ⟨rfl,rfl⟩:=q1 he
  exact ansD_no he
theorem AnsD.low {W W1 w:World} {r:Value} {e:Int} {s:List Int} {l:List (BitVec 32)} (h:AnsD W1 w r e s l) (hb:W.heap.size≤W1.heap.size):AnsD W w r e s l:=by
 obtain ⟨c,h1,h2,h3,h4⟩:=h
 exact ⟨c,h1,h2,h3,fun he=>⟨(h4 he).1,(h4 he).2.1,(h4 he).2.2.mono hb⟩⟩

/-- What an action comes to. -/
def actE (k:BitVec 8) (x:N5) (ts:List T4):Int:=
 let a:=ts.getD 0 default
 let b:=ts.getD 1 default
 if k=3#8∨k=4#8 then e2 a.s a.l b.s b.l else if k=7#8 then prdE a b else if k=5#8 then e1 a.s a.l else if k=6#8 then eSh a.s a.l x.n
 else if k=8#8 then wofE a b x.n x.p else if k=9#8 then wpoE a x.n else if k=10#8 then mvE a x.s else if k=11#8 then tnE a x.s else if k=12#8 then jnE ts x.n else suE a x.n
def actS (k:BitVec 8) (x:N5) (ts:List T4):List Int:=
 let a:=ts.getD 0 default
 let b:=ts.getD 1 default
 if k=3#8∨k=4#8 then a.s else if k=7#8 then [a.s.getD 0 default,b.s.getD 1 default] else if k=5#8 then a.s else if k=6#8 then a.s
 else if k=8#8 then wshS a.s b.s x.n x.p else if k=9#8 then pshS a.s x.n else if k=10#8 then x.s else if k=11#8 then turn a.s x.s else if k=12#8 then jnS ts x.n.toNat else without a.s x.n.toNat
def actL (k:BitVec 8) (x:N5) (ts:List T4):List (BitVec 32):=
 let a:=ts.getD 0 default
 let b:=ts.getD 1 default
 if k=3#8 then z2 (·+·) a.s a.l b.l else if k=4#8 then z2 (·*·) a.s a.l b.l else if k=7#8 then prdL a b else if k=5#8 then z1 reluB a.s a.l else if k=6#8 then z1 (shB x.n.toNat) a.s a.l
 else if k=8#8 then wofL a b x.n x.p else if k=9#8 then wpoL a x.n else if k=10#8 then a.l else if k=11#8 then tuL a.s a.l x.s else if k=12#8 then jnL ts x.n.toNat else suL a.s a.l x.n.toNat
theorem mord_c (v:Value) (l:List Int) (w:World) (hv:SlT (Value.int .i64) w v l):Fnc Tryz.prog 134 [v] w (fun r w' =>r= .bool (gord l)∧Below w.heap.size w w'):=by
 have hle:=hv.le
 refine Ap (n:=17) Tryz.func134 (by kernel_rfl) O O O<|Ae<|Ab<|Lw.val (Ac O) O<|Af<|Aa<|Cw.out<|Ae<|Ae<|Ab<|Lw.val (Ad O) O<|Lw.val (Av st_23 O (by assumption)) O ?_
 refine Lw.val (Ad O) O<|Af<|Aa<|Cw.out<|Cw.block ?_
 refine Bj (S:=Nat) (fun i=>[(0,v),(5, .int .i64 (l.length:Int)),(6, .int .i64 (i:Int))]) (fun i w' =>i≤l.length∧(∀j,j<i→l.contains (j:Int)=true)∧Below w.heap.size w w') (fun i=>l.length - i) (0) ⟨rfl,rfl,rfl,trivial⟩ ?_ ?_
 ·exact ⟨Nat.zero_le _,fun _ h=>by omega,Below.refl _ _⟩
 rintro i w1 ⟨hi,hC,hB⟩
 have hv1:=hv.bs hB
 refine Ae<|Ab<|Lw.val (Bh O O) O<|Af<|Aa<|Cw.out<|Ae<|Au O ?_ ?_
 ·intro h
  have hi' :i<l.length:=by have:=of_decide_eq_true h;omega
  refine Aq<|Aa<|Cw.out<|Ae<|Cw.block<|Ae<|Ab<|Lw.val (Ad O) O<|Lw.val (Ac O) O<|Af<|Aa<|Cw.out<|Ae<|Ab<|Lw.val (Ad O) O<|Lw.val (Ad O) O<|Al O O (contains_c v l (i:Int) w1 hv1) ?_
  rintro _ w2 ⟨rfl,hn⟩
  have hB2:=hB.trans (hn.mono (below_size hB))
  refine Lw.val (Bx O) O<|Af<|Aa<|Cw.out<|Au O ?_ ?_
  ·intro g
   have g1:l.contains (i:Int)=false:=by simpa using g
   refine Ae<|Ab<|Lw.val (Ac O) O<|Af<|Aa<|Cw.out<|An<|Bk<|Ak<|Ak<|Bk<|Ak<|Bb O O ?_
   refine ⟨?_,hB2⟩
   unfold gord;rw [cov_no hi' g1];rfl
  intro g
  have g1:l.contains (i:Int)=true:=by simpa using g
  refine Aq<|Bo<|Aa<|Cw.out<|Ab<|Lw.val (Bc O O (by omega)) O<|Lw.val (Ad O) O<|Af ?_
  exact Aa (Bq (i+1) ⟨rfl,rfl,rfl,trivial⟩ (⟨hi',fun j hj=>(Nat.lt_succ_iff_lt_or_eq.1 hj).elim (hC j) (fun e=>e ▸ g1),hB2⟩) (by omega))
 intro h
 have hi' :i=l.length:=by have:=of_decide_eq_false h;omega
 subst hi'
 have hok:cov l=true:=cov_iff.2 hC
 refine Bi<|Am<|Am<|Az<|Aa<|Cw.out<|Ae<|Ab<|Lw.val (Ad O) O<|Lw.val (Av st_23 O (by assumption)) O ?_
 refine Lw.val (C8 O O) O<|Lw.val (Ac O) O<|Af<|Aa<|Cw.out<|An<|Bb O O ?_
 refine ⟨?_,hB⟩
 unfold gord;rw [hok,Bool.true_and];congr 1;exact decide_eq_decide.2 (by omega)
/-- Has a node the fields of its kind? -/
def fldB (k:BitVec 8) (s:List Int) (p:Int):Bool:=if k=10#8 then Shapes.ok s && decide (p=0) else if k=11#8 then gord s && decide (p=0) else if k=8#8 then decide (s.length=0) && decide (0≤p) && decide (p≤8) else decide (s.length=0) && decide (p=0)
theorem len0 {l:List Int}:decide ((l.length:Int)=0)=decide (l.length=0):=decide_eq_decide.2 (by omega)
theorem fields_c (x:N5) (w:World) (hx:N5.at w x):Fnc Tryz.prog 33 [x.v] w (fun r w' =>r= .bool (fldB x.k x.s x.p)∧Below w.heap.size w w'):=by
 have hB:=Below.refl w.heap.size w
 have h_s:=hx.s
 refine Ap (n:=50) Tryz.func33 (by kernel_rfl) O O O<|Ae<|Ab<|Bv (cs:=x.cells) O O O ?_
 rintro A_x w eA_x b_x hn -
 replace hB:=hB.bs hn
 replace h_s:=h_s.bs hn
 clear hn
 refine Lw.val (Ac O) O<|Af<|Aa<|Cw.out<|Ae<|Ae<|Ab<|Lw.val (Ag (q:=0) Tryz.underlying25 O (sz_22 _) O) O<|Lw.val (Aj (ag_22 _) O (by assumption) O) O ?_
 refine Af<|Aa<|Cw.out<|Cw.block<|Ae<|Ab<|Lw.val (Ce O (show _=some (b8 (10#8)) from rfl)) O<|Lw.val (Ac O) O<|Af<|Aa<|Cw.out<|Au O ?_ ?_
 ·intro g
  have g:x.k=10#8:=of_decide_eq_true g
  have e:fldB x.k x.s x.p=(Shapes.ok x.s && decide (x.p=0)):=by unfold fldB;rw [if_pos g]
  rw [e]
  refine Ae<|Ab<|Lw.val (Ag (q:=0) Tryz.underlying25 O (sz_23 _) O) O<|Lw.val (Aj (ag_23 _) O (by assumption) O) O ?_
  refine Al O O (check_c x.y x.s w h_s) ?_
  rintro _ w1 ⟨rfl,hn1⟩
  have b_x:=b_x.bs hn1
  have hB:=bt hB hn1
  refine Lw.val (Ad O) O ?_
  refine Bt 10 O ?_ ?_
  ·intro g2
   refine Lw.take (dj:=10) O O<|Lw.val (Ag (q:=0) Tryz.underlying25 O (sz_3 _) O) O<|Lw.take (dj:=10) O O<|Lw.val (Aj (ag_3 _) O (by assumption) O) O ?_
   refine Lw.take (dj:=10) O O<|Lw.val (Cn O O) O<|Lw.val (As O O) O<|Lw.val (Ac O) O<|Af<|Aa<|Cw.out<|An<|Bk<|Ak<|Bb O O ?_
   rw [g2]
   exact ⟨rfl,hB⟩
  intro g2
  refine Ai (dj:=10) O O O O<|Ai (dj:=10) O O O O<|Ai (dj:=10) O O O O<|Lw.val (Bd O O) O<|Lw.val (Ac O) O<|Af<|Aa<|Cw.out<|An<|Bk<|Ak<|Bb O O ?_
  rw [g2]
  exact ⟨rfl,hB⟩
 intro g10
 have g10:¬x.k=10#8:=of_decide_eq_false g10
 refine Ae<|Ab<|Lw.val (Ce O (show _=some (b8 (11#8)) from rfl)) O<|Lw.val (Ac O) O<|Af<|Aa<|Cw.out<|Au O ?_ ?_
 ·intro g
  have g:x.k=11#8:=of_decide_eq_true g
  have e:fldB x.k x.s x.p=(gord x.s && decide (x.p=0)):=by unfold fldB;rw [if_neg g10,if_pos g]
  rw [e]
  refine Ae<|Ab<|Lw.val (Ag (q:=0) Tryz.underlying25 O (sz_23 _) O) O<|Lw.val (Aj (ag_23 _) O (by assumption) O) O ?_
  refine Al O O (mord_c x.y x.s w h_s) ?_
  rintro _ w1 ⟨rfl,hn1⟩
  have b_x:=b_x.bs hn1
  have hB:=bt hB hn1
  refine Lw.val (Ad O) O ?_
  refine Bt 20 O ?_ ?_
  ·intro g2
   refine Lw.take (dj:=20) O O<|Lw.val (Ag (q:=0) Tryz.underlying25 O (sz_3 _) O) O<|Lw.take (dj:=20) O O<|Lw.val (Aj (ag_3 _) O (by assumption) O) O ?_
   refine Lw.take (dj:=20) O O<|Lw.val (Cn O O) O<|Lw.val (As O O) O<|Lw.val (Ac O) O<|Af<|Aa<|Cw.out<|An<|Bk<|Ak<|Bb O O ?_
   rw [g2]
   exact ⟨rfl,hB⟩
  intro g2
  refine Ai (dj:=20) O O O O<|Ai (dj:=20) O O O O<|Ai (dj:=20) O O O O<|Lw.val (Bd O O) O<|Lw.val (Ac O) O<|Af<|Aa<|Cw.out<|An<|Bk<|Ak<|Bb O O ?_
  rw [g2]
  exact ⟨rfl,hB⟩
 intro g11
 have g11:¬x.k=11#8:=of_decide_eq_false g11
 refine Ae<|Ab<|Lw.val (Ce O (show _=some (b8 (8#8)) from rfl)) O<|Lw.val (Ac O) O<|Af<|Aa<|Cw.out<|Au O ?_ ?_
 ·intro g
  have g:x.k=8#8:=of_decide_eq_true g
  have e:fldB x.k x.s x.p=(decide (x.s.length=0) && decide (0≤x.p) && decide (x.p≤8)):=by unfold fldB;rw [if_neg g10,if_neg g11,if_pos g]
  rw [e,← len0]
  refine Ae<|Ab<|Lw.val (Ag (q:=0) Tryz.underlying25 O (sz_23 _) O) O<|Lw.val (Aj (ag_23 _) O (by assumption) O) O ?_
  refine Lw.val (Av st_23 O (by assumption)) O ?_
  refine Lw.val (Cn O O) O<|Lw.val (Ad O) O ?_
  refine Bt 31 O ?_ ?_
  ·intro g2
   refine Lw.take (dj:=31) O O<|Lw.val (Ag (q:=0) Tryz.underlying25 O (sz_3 _) O) O<|Lw.take (dj:=31) O O<|Lw.val (Aj (ag_3 _) O (by assumption) O) O ?_
   refine Lw.take (dj:=31) O O<|Lw.val (Cu O O) O<|Lw.val (As O O) O<|Lw.val (Ad O) O ?_
   refine Bt 36 O ?_ ?_
   ·intro g3
    refine Lw.take (dj:=36) O O<|Lw.val (Ag (q:=0) Tryz.underlying25 O (sz_3 _) O) O<|Lw.take (dj:=36) O O<|Lw.val (Aj (ag_3 _) O (by assumption) O) O ?_
    refine Lw.take (dj:=36) O O<|Lw.val (C8 O O) O<|Lw.val (As O O) O<|Lw.val (Ac O) O<|Af<|Aa<|Cw.out<|An<|Bk<|Ak<|Bb O O ?_
    rw [g2,g3]
    exact ⟨rfl,hB⟩
   intro g3
   refine Ai (dj:=36) O O O O<|Ai (dj:=36) O O O O<|Ai (dj:=36) O O O O<|Lw.val (Bd O O) O<|Lw.val (Ac O) O<|Af<|Aa<|Cw.out<|An<|Bk<|Ak<|Bb O O ?_
   rw [g2,g3]
   exact ⟨rfl,hB⟩
  intro g2
  refine Ai (dj:=31) O O O O<|Ai (dj:=31) O O O O<|Ai (dj:=31) O O O O<|Lw.val (Bd O O) O<|Lw.val (Ad O) O<|Ai (dj:=36) O O O O<|Ai (dj:=36) O O O O<|Ai (dj:=36) O O O O<|Lw.val (Bd O O) O<|Lw.val (Ac O) O<|Af<|Aa<|Cw.out<|An<|Bk<|Ak<|Bb O O ?_
  rw [g2]
  exact ⟨rfl,hB⟩
 intro g8
 have g8:¬x.k=8#8:=of_decide_eq_false g8
 have e:fldB x.k x.s x.p=(decide (x.s.length=0) && decide (x.p=0)):=by unfold fldB;rw [if_neg g10,if_neg g11,if_neg g8]
 rw [e,← len0]
 refine Aq<|Bo<|Aa<|Cw.out<|Ae<|Ab<|Lw.val (Ag (q:=0) Tryz.underlying25 O (sz_23 _) O) O<|Lw.val (Aj (ag_23 _) O (by assumption) O) O ?_
 refine Lw.val (Av st_23 O (by assumption)) O ?_
 refine Lw.val (Cn O O) O<|Lw.val (Ad O) O ?_
 refine Bt 45 O ?_ ?_
 ·intro g2
  refine Lw.take (dj:=45) O O<|Lw.val (Ag (q:=0) Tryz.underlying25 O (sz_3 _) O) O<|Lw.take (dj:=45) O O<|Lw.val (Aj (ag_3 _) O (by assumption) O) O ?_
  refine Lw.take (dj:=45) O O<|Lw.val (Cn O O) O<|Lw.val (As O O) O<|Lw.val (Ac O) O<|Af<|Aa<|Cw.out<|An<|Bb O O ?_
  rw [g2]
  exact ⟨rfl,hB⟩
 intro g2
 refine Ai (dj:=45) O O O O<|Ai (dj:=45) O O O O<|Ai (dj:=45) O O O O<|Lw.val (Bd O O) O<|Lw.val (Ac O) O<|Af<|Aa<|Cw.out<|An<|Bb O O ?_
 rw [g2]
 exact ⟨rfl,hB⟩
end Go.Proofs.YtmipoeanpnnjoaaGreatDoor

/-! Contracts: one, two, and what each kind calls. -/
namespace Go.Proofs.YtmipoeanpnnjoaaGreatDoor
open Go Go.Dd Go.RowKit
set_option maxRecDepth 100000

theorem ten_cells {ts:List T4} {j:Nat} (h:j<ts.length):∀i,i<2→∃q,[ts[j].x,ts[j].y][i]? =some q∧(cellsOf ts)[j*2+i]? =some q:=fun i hi=>by
 obtain ⟨h1,h2⟩:=cells_at h
 rcases (show i=0∨i=1 by omega) with rfl|rfl
 ·exact ⟨_,rfl,h1⟩
 ·exact ⟨_,rfl,h2⟩
theorem sl_none {w w' :World} {sz:Nat} {v:Value} (h:Sl w sz v 0 []):Sl w' sz v 0 []:=by
 obtain ⟨h1,ao,cap,e,h2,h3,h4, -⟩:=h
 exact ⟨h1,ao,cap,e,h2,h3,h4,fun _ _ j u hu=>by simp at hu⟩
/-- A store elsewhere. -/
theorem AnsD.by {W w w' :World} {r:Value} {e:Int} {s:List Int} {l:List (BitVec 32)} {A:Nat} (h:AnsD W w r e s l) (g:w.grownBy w' (some A)) (hA:A<W.heap.size):AnsD W w' r e s l:=by
 obtain ⟨d,h1,h2,h3,h4⟩:=h
 by_cases he:e=0
 ·obtain ⟨q1,q2,q3⟩:=h4 he
  have m:MadeK W w' d.x d.y s l:=⟨q3.row.heap fun b e=>g.block b (q3.row.lt b e).2 (fun e2=>by have:=(q3.row.lt b e).1;have:=Option.some.inj e2;omega),q3.col.heap fun b e=>g.block b (q3.col.lt b e).2 (fun e2=>by have:=(q3.col.lt b e).1;have:=Option.some.inj e2;omega),q3.apart⟩
  exact ⟨d,h1,by have:=m.at;unfold T4.at at this ⊢;rw [q1,q2];exact this,h3,fun _=>⟨q1,q2,m⟩⟩
 ·obtain ⟨q1,q2, -⟩:=h3 he
  refine ⟨d,h1, ?_,h3,fun h0=>absurd h0 he⟩
  unfold T4.at at h2 ⊢
  rw [q1,q2] at h2 ⊢
  exact ⟨sl_none h2.1,sl_none h2.2⟩
theorem AnsD.ones {W w:World} {r:Value} {e:Int} {s:List Int} {l:List (BitVec 32)} (h:AnsD W w r e s l):∃x y,r= .tuple #[.agg [x,y].toArray, .int .i64 e]∧[x,y].all (·.oneCell')=true:=by
 obtain ⟨d,h1,h2, -⟩:=h
 exact ⟨d.x,d.y,h1,by rw [List.all_cons,List.all_cons,h2.1.one',h2.2.one'];rfl⟩
theorem two1_c (x:N5) (v:Value) (a b:T4) (A:Nat) (f:FuncId) (e:Int) (s:List Int) (l:List (BitVec 32)) (w:World) (b_A:Blk w A 83 [.func (.func f) #[] #[]]) (hx:N5.at w x) (h:Tens w v [a,b])
  (hf:∀w1,Below w.heap.size w w1→Fnc Tryz.prog f [a.v,b.v] w1 (fun r w' =>Below w1.heap.size w1 w' ∧AnsD w1 w' r e s l)):
  Fnc Tryz.prog 199 [x.v,v, .pointer (some ⟨A,0,none⟩)] w (fun r w' =>Below w.heap.size w w' ∧AnsD w w' r e s l):=by
 obtain ⟨W,hW⟩:∃W,W=w:=⟨_,rfl⟩
 rw [← hW] at b_A hx h hf
 rw [← hW]
 have hB:=Below.refl W.heap.size W
 have h_i:=hx.i
 have h_s:=hx.s
 have h_v:=h.1
 refine Ap (n:=17) Tryz.func199 (by kernel_rfl) O O O<|Ae<|Ab<|Bv (cs:=x.cells) O O O ?_
 rintro A_x w eA_x b_x hn -
 replace hB:=hB.bs hn
 clear hn
 have yx:=blk_lt b_x
 refine B8 it_33 O ?_
 rintro A_r w eA_r b_r hn -
 replace hB:=hB.bs hn
 replace b_x:=b_x.bs hn
 clear hn
 refine Lw.val (Ac O) O<|Af<|Aa<|Cw.out<|Ae ?_
 have z0:=below_size hB
 have yr:=blk_lt b_r
 refine Cw.any mixed (fun w2 hd _=> ?_)
 have hB2:=hB.trans (hd.mono z0)
 refine Cs (fun w' =>Below W.heap.size W w') (fun hC=> ?_) (hB2)
 refine AwC.take (i:=0) (Ah Ar) O (by kernel_rfl) (by kernel_rfl) (by kernel_rfl) (fun w1 hc=>Aj (ag_83 _) O (Blk.bs (by assumption) hc) O) O ?_
 refine AwC.take (i:=1) (Ah Ar) O (by kernel_rfl) (by kernel_rfl) (by kernel_rfl) (fun w1 hc=>Ad O) O<|AwC.take (i:=2) (Ah Ar) O (by kernel_rfl) (by kernel_rfl) (by kernel_rfl) (fun w1 hc=>Bz st_26 O O (h_v.bs hc) 0 O (show 0<2 by decide)) O<|AwC.take (i:=3) (Ah Ar) O (by kernel_rfl) (by kernel_rfl) (by kernel_rfl) (fun w1 hc=>Cc (cs:=[a.x,a.y]) (ag_33 _) (sz_33 _) O (h_v.bs hc) O (by decide) (ten_cells (ts:=[a,b]) (j:=0) Nat.zero_lt_two)) O<|AwC.take (i:=4) (Ah Ar) O (by kernel_rfl) (by kernel_rfl) (by kernel_rfl) (fun w1 hc=>Ad O) O<|AwC.take (i:=5) (Ah Ar) O (by kernel_rfl) (by kernel_rfl) (by kernel_rfl) (fun w1 hc=>Bz st_26 O O (h_v.bs hc) 1 O (show 1<2 by decide)) O<|AwC.take (i:=6) (Ah Ar) O (by kernel_rfl) (by kernel_rfl) (by kernel_rfl) (fun w1 hc=>Cc (cs:=[b.x,b.y]) (ag_33 _) (sz_33 _) O (h_v.bs hc) O (by decide) (ten_cells (ts:=[a,b]) (j:=1) Nat.one_lt_two)) O<|AwC.only (by assumption) (i:=7) (by kernel_rfl) O ?_
 refine Lw.callV (p:=[]) (q:=[]) O O O (hf w2 hB2) ?_
 rintro r w3 ⟨hn3,hA⟩
 obtain ⟨rx,ry,rfl,r1⟩:=hA.ones
 have z2:=hd.size
 have z3:=hn3.size
 have hB3:=hB2.trans (hn3.mono (by omega))
 have b_r3:=(b_r.bs hd).bs hn3
 refine AwC.back<|AwC.take (i:=8) (Ah Ar) O (by kernel_rfl) (by kernel_rfl) (by kernel_rfl) (fun w1 hc=>Ax (i:=0) O O) O<|AwC.take (i:=9) (Ah Ar) O (by kernel_rfl) (by kernel_rfl) (by kernel_rfl) (fun w1 hc=>Ax (i:=1) O O) O<|AwC.only (by assumption) (i:=10) (by kernel_rfl) O ?_
 refine Ay (Bp (cs:=[rx,ry]) (k:=2) (by kernel_rfl) O O O r1 b_r3 O) ?_
 rintro w4 ⟨b_r4,hg4,hz4⟩
 have hA4:=hA.by hg4 (by omega)
 have hB4:=hB3.grown hg4 (by omega) (by rintro _ ⟨⟩;omega)
 refine AwC.back<|AwC.take (i:=11) (Ah Ar) O (by kernel_rfl) (by kernel_rfl) (by kernel_rfl) (fun w1 hc=>Ac O) O<|Ck (by assumption) (by kernel_rfl) ?_
 refine Aa<|Cw.out<|An<|Bf O O O (by assumption) (Tryz.underlying33) O O O ?_
 exact ⟨hB4,hA4.low (by omega)⟩
theorem one1_c (x:N5) (v:Value) (a:T4) (A:Nat) (f:FuncId) (e:Int) (s:List Int) (l:List (BitVec 32)) (w:World) (b_A:Blk w A 107 [.func (.func f) #[] #[]]) (hx:N5.at w x) (h:Tens w v [a])
  (hf:∀w1,Below w.heap.size w w1→Fnc Tryz.prog f [x.v,a.v] w1 (fun r w' =>Below w1.heap.size w1 w' ∧AnsD w1 w' r e s l)):
  Fnc Tryz.prog 206 [x.v,v, .pointer (some ⟨A,0,none⟩)] w (fun r w' =>Below w.heap.size w w' ∧AnsD w w' r e s l):=by
 obtain ⟨W,hW⟩:∃W,W=w:=⟨_,rfl⟩
 rw [← hW] at b_A hx h hf
 rw [← hW]
 have hB:=Below.refl W.heap.size W
 have h_i:=hx.i
 have h_s:=hx.s
 have h_v:=h.1
 refine Ap (n:=15) Tryz.func206 (by kernel_rfl) O O O<|Ae<|Ab<|Bv (cs:=x.cells) O O O ?_
 rintro A_x w eA_x b_x hn -
 replace hB:=hB.bs hn
 clear hn
 have yx:=blk_lt b_x
 refine B8 it_33 O ?_
 rintro A_r w eA_r b_r hn -
 replace hB:=hB.bs hn
 replace b_x:=b_x.bs hn
 clear hn
 refine Lw.val (Ac O) O<|Af<|Aa<|Cw.out<|Ae ?_
 have z0:=below_size hB
 have yr:=blk_lt b_r
 refine Cw.any mixed (fun w2 hd _=> ?_)
 have hB2:=hB.trans (hd.mono z0)
 have b_x2:=b_x.bs hd
 refine Cs (fun w' =>Below W.heap.size W w' ∧Blk w' A_x 25 x.cells) (fun hC=> ?_) (⟨hB2,b_x2⟩)
 refine AwC.take (i:=0) (Ah Ar) O (by kernel_rfl) (by kernel_rfl) (by kernel_rfl) (fun w1 hc=>Aj (ag_107 _) O (b_A.bs hc.1) O) O<|AwC.take (i:=1) (Ah Ar) O (by kernel_rfl) (by kernel_rfl) (by kernel_rfl) (fun w1 hc=>Bw (k:=5) (ag_25 _) (sz_25 _) O O hc.2) O<|AwC.take (i:=2) (Ah Ar) O (by kernel_rfl) (by kernel_rfl) (by kernel_rfl) (fun w1 hc=>Ad O) O<|AwC.take (i:=3) (Ah Ar) O (by kernel_rfl) (by kernel_rfl) (by kernel_rfl) (fun w1 hc=>Bz st_26 O O (h_v.bs hc.1) 0 O (show 0<1 by decide)) O<|AwC.take (i:=4) (Ah Ar) O (by kernel_rfl) (by kernel_rfl) (by kernel_rfl) (fun w1 hc=>Cc (cs:=[a.x,a.y]) (ag_33 _) (sz_33 _) O (h_v.bs hc.1) O (by decide) (ten_cells (ts:=[a]) (j:=0) Nat.zero_lt_one)) O<|AwC.only (by assumption) (i:=5) (by kernel_rfl) O ?_
 refine Lw.callV (p:=[]) (q:=[]) O O O (hf w2 hB2) ?_
 rintro r w3 ⟨hn3,hA⟩
 obtain ⟨rx,ry,rfl,r1⟩:=hA.ones
 have z2:=hd.size
 have z3:=hn3.size
 have hB3:=hB2.trans (hn3.mono (by omega))
 have b_r3:=(b_r.bs hd).bs hn3
 have b_x3:=b_x2.bs hn3
 have hC3:Below W.heap.size W w3∧Blk w3 A_x 25 x.cells:=⟨hB3,b_x3⟩
 refine AwC.back<|AwC.take (i:=6) (Ah Ar) O (by kernel_rfl) (by kernel_rfl) (by kernel_rfl) (fun w1 hc=>Ax (i:=0) O O) O<|AwC.take (i:=7) (Ah Ar) O (by kernel_rfl) (by kernel_rfl) (by kernel_rfl) (fun w1 hc=>Ax (i:=1) O O) O<|AwC.only (by assumption) (i:=8) (by kernel_rfl) O ?_
 refine Ay (Bp (cs:=[rx,ry]) (k:=2) (by kernel_rfl) O O O r1 b_r3 O) ?_
 rintro w4 ⟨b_r4,hg4,hz4⟩
 have hA4:=hA.by hg4 (by omega)
 have hB4:=hB3.grown hg4 (by omega) (by rintro _ ⟨⟩;omega)
 have hC4:Below W.heap.size W w4∧Blk w4 A_x 25 x.cells:=⟨hB4,b_x3.by hg4 (fun e=>by have:=Option.some.inj e;omega)⟩
 refine AwC.back<|AwC.take (i:=9) (Ah Ar) O (by kernel_rfl) (by kernel_rfl) (by kernel_rfl) (fun w1 hc=>Ac O) O<|Ck (by assumption) (by kernel_rfl) ?_
 refine Aa<|Cw.out<|An<|Bf O O O (by assumption) (Tryz.underlying33) O O O ?_
 exact ⟨hB4,hA4.low (by omega)⟩
theorem deed1_c (x:N5) (a:T4) (w:World) (hx:N5.at w x) (ha:a.at w):
  Fnc Tryz.prog 117 [x.v,a.v] w (fun r w' =>Below w.heap.size w w' ∧AnsD w w' r (e1 a.s a.l) (a.s) (z1 reluB a.s a.l)):=by
 obtain ⟨W,hW⟩:∃W,W=w:=⟨_,rfl⟩
 rw [← hW] at hx ha
 rw [← hW]
 have hB:=Below.refl W.heap.size W
 have h_s:=hx.s
 have h_a:=ha
 refine Ap (n:=10) Tryz.func117 (by kernel_rfl) O O O<|Ae<|Ab<|Bv (cs:=x.cells) O O O ?_
 rintro A_x w eA_x b_x hn -
 replace hB:=hB.bs hn
 replace h_s:=h_s.bs hn
 replace h_a:=h_a.bs hn
 clear hn
 have yx:=blk_lt b_x
 refine Bv (cs:=[a.x,a.y]) O O O ?_
 rintro A_a w eA_a b_a hn -
 replace hB:=hB.bs hn
 replace h_s:=h_s.bs hn
 replace h_a:=h_a.bs hn
 replace b_x:=b_x.bs hn
 clear hn
 have ya:=blk_lt b_a
 refine B8 it_33 O ?_
 rintro A_r w eA_r b_r hn -
 replace hB:=hB.bs hn
 replace h_s:=h_s.bs hn
 replace h_a:=h_a.bs hn
 replace b_x:=b_x.bs hn
 replace b_a:=b_a.bs hn
 clear hn
 refine Lw.val (Ac O) O<|Af<|Aa<|Cw.out<|Ae<|Ab<|Lw.val (Bw (ag_33 _) (sz_33 _) O O (by assumption)) O ?_
 have z0:=below_size hB
 have yr:=blk_lt b_r
 refine Al O O (relu_p a w h_a) ?_
 rintro r w3 ⟨hn3,hA⟩
 have hA:=Gets.d hA
 obtain ⟨rx,ry,rfl,r1⟩:=hA.ones
 have z3:=hn3.size
 have hB3:=hB.trans (hn3.mono z0)
 have b_r3:=b_r.bs hn3
 refine Lw.val (Ax (i:=0) O O) O<|Lw.val (Ax (i:=1) O O) O<|Ay (Bp (cs:=[rx,ry]) (k:=2) (by kernel_rfl) O O O r1 b_r3 O) ?_
 rintro w4 ⟨b_r4,hg4,hz4⟩
 have hA4:=hA.by hg4 yr
 have hB4:=hB3.grown hg4 (by omega) (by rintro _ ⟨⟩;omega)
 refine Lw.val (Ac O) O<|Af<|Aa<|Cw.out<|An<|Bf O O O (by assumption) (Tryz.underlying33) O O O ?_
 exact ⟨hB4,hA4.low z0⟩
theorem deed2_c (x:N5) (a:T4) (w:World) (hx:N5.at w x) (ha:a.at w):
  Fnc Tryz.prog 119 [x.v,a.v] w (fun r w' =>Below w.heap.size w w' ∧AnsD w w' r (eSh a.s a.l x.n) (a.s) (z1 (shB x.n.toNat) a.s a.l)):=by
 obtain ⟨W,hW⟩:∃W,W=w:=⟨_,rfl⟩
 rw [← hW] at hx ha
 rw [← hW]
 have hB:=Below.refl W.heap.size W
 have h_s:=hx.s
 have h_a:=ha
 refine Ap (n:=12) Tryz.func119 (by kernel_rfl) O O O<|Ae<|Ab<|Bv (cs:=x.cells) O O O ?_
 rintro A_x w eA_x b_x hn -
 replace hB:=hB.bs hn
 replace h_s:=h_s.bs hn
 replace h_a:=h_a.bs hn
 clear hn
 have yx:=blk_lt b_x
 refine Bv (cs:=[a.x,a.y]) O O O ?_
 rintro A_a w eA_a b_a hn -
 replace hB:=hB.bs hn
 replace h_s:=h_s.bs hn
 replace h_a:=h_a.bs hn
 replace b_x:=b_x.bs hn
 clear hn
 have ya:=blk_lt b_a
 refine B8 it_33 O ?_
 rintro A_r w eA_r b_r hn -
 replace hB:=hB.bs hn
 replace h_s:=h_s.bs hn
 replace h_a:=h_a.bs hn
 replace b_x:=b_x.bs hn
 replace b_a:=b_a.bs hn
 clear hn
 refine Lw.val (Ac O) O<|Af<|Aa<|Cw.out<|Ae<|Ab<|Lw.val (Bw (ag_33 _) (sz_33 _) O O (by assumption)) O ?_
 refine Lw.val (Ag (q:=0) Tryz.underlying25 O (sz_3 _) O) O<|Lw.val (Aj (ag_3 _) O (by assumption) O) O ?_
 have z0:=below_size hB
 have yr:=blk_lt b_r
 refine Al O O (shift_p a x.n w h_a) ?_
 rintro r w3 ⟨hn3,hA⟩
 have hA:=Gets.d hA
 obtain ⟨rx,ry,rfl,r1⟩:=hA.ones
 have z3:=hn3.size
 have hB3:=hB.trans (hn3.mono z0)
 have b_r3:=b_r.bs hn3
 refine Lw.val (Ax (i:=0) O O) O<|Lw.val (Ax (i:=1) O O) O<|Ay (Bp (cs:=[rx,ry]) (k:=2) (by kernel_rfl) O O O r1 b_r3 O) ?_
 rintro w4 ⟨b_r4,hg4,hz4⟩
 have hA4:=hA.by hg4 yr
 have hB4:=hB3.grown hg4 (by omega) (by rintro _ ⟨⟩;omega)
 refine Lw.val (Ac O) O<|Af<|Aa<|Cw.out<|An<|Bf O O O (by assumption) (Tryz.underlying33) O O O ?_
 exact ⟨hB4,hA4.low z0⟩
theorem deed3_c (x:N5) (a:T4) (w:World) (hx:N5.at w x) (ha:a.at w):
  Fnc Tryz.prog 121 [x.v,a.v] w (fun r w' =>Below w.heap.size w w' ∧AnsD w w' r (wpoE a x.n) (pshS a.s x.n) (wpoL a x.n)):=by
 obtain ⟨W,hW⟩:∃W,W=w:=⟨_,rfl⟩
 rw [← hW] at hx ha
 rw [← hW]
 have hB:=Below.refl W.heap.size W
 have h_s:=hx.s
 have h_a:=ha
 refine Ap (n:=12) Tryz.func121 (by kernel_rfl) O O O<|Ae<|Ab<|Bv (cs:=x.cells) O O O ?_
 rintro A_x w eA_x b_x hn -
 replace hB:=hB.bs hn
 replace h_s:=h_s.bs hn
 replace h_a:=h_a.bs hn
 clear hn
 have yx:=blk_lt b_x
 refine Bv (cs:=[a.x,a.y]) O O O ?_
 rintro A_a w eA_a b_a hn -
 replace hB:=hB.bs hn
 replace h_s:=h_s.bs hn
 replace h_a:=h_a.bs hn
 replace b_x:=b_x.bs hn
 clear hn
 have ya:=blk_lt b_a
 refine B8 it_33 O ?_
 rintro A_r w eA_r b_r hn -
 replace hB:=hB.bs hn
 replace h_s:=h_s.bs hn
 replace h_a:=h_a.bs hn
 replace b_x:=b_x.bs hn
 replace b_a:=b_a.bs hn
 clear hn
 refine Lw.val (Ac O) O<|Af<|Aa<|Cw.out<|Ae<|Ab<|Lw.val (Bw (ag_33 _) (sz_33 _) O O (by assumption)) O ?_
 refine Lw.val (Ag (q:=0) Tryz.underlying25 O (sz_3 _) O) O<|Lw.val (Aj (ag_3 _) O (by assumption) O) O ?_
 have z0:=below_size hB
 have yr:=blk_lt b_r
 refine Al O O (wpo_c a x.n w h_a) ?_
 rintro r w3 ⟨hn3,hA⟩
 have hA:=Gets.d hA
 obtain ⟨rx,ry,rfl,r1⟩:=hA.ones
 have z3:=hn3.size
 have hB3:=hB.trans (hn3.mono z0)
 have b_r3:=b_r.bs hn3
 refine Lw.val (Ax (i:=0) O O) O<|Lw.val (Ax (i:=1) O O) O<|Ay (Bp (cs:=[rx,ry]) (k:=2) (by kernel_rfl) O O O r1 b_r3 O) ?_
 rintro w4 ⟨b_r4,hg4,hz4⟩
 have hA4:=hA.by hg4 yr
 have hB4:=hB3.grown hg4 (by omega) (by rintro _ ⟨⟩;omega)
 refine Lw.val (Ac O) O<|Af<|Aa<|Cw.out<|An<|Bf O O O (by assumption) (Tryz.underlying33) O O O ?_
 exact ⟨hB4,hA4.low z0⟩
theorem deed4_c (x:N5) (a:T4) (w:World) (hx:N5.at w x) (ha:a.at w):
  Fnc Tryz.prog 123 [x.v,a.v] w (fun r w' =>Below w.heap.size w w' ∧AnsD w w' r (mvE a x.s) (x.s) (a.l)):=by
 obtain ⟨W,hW⟩:∃W,W=w:=⟨_,rfl⟩
 rw [← hW] at hx ha
 rw [← hW]
 have hB:=Below.refl W.heap.size W
 have h_s:=hx.s
 have h_a:=ha
 refine Ap (n:=12) Tryz.func123 (by kernel_rfl) O O O<|Ae<|Ab<|Bv (cs:=x.cells) O O O ?_
 rintro A_x w eA_x b_x hn -
 replace hB:=hB.bs hn
 replace h_s:=h_s.bs hn
 replace h_a:=h_a.bs hn
 clear hn
 have yx:=blk_lt b_x
 refine Bv (cs:=[a.x,a.y]) O O O ?_
 rintro A_a w eA_a b_a hn -
 replace hB:=hB.bs hn
 replace h_s:=h_s.bs hn
 replace h_a:=h_a.bs hn
 replace b_x:=b_x.bs hn
 clear hn
 have ya:=blk_lt b_a
 refine B8 it_33 O ?_
 rintro A_r w eA_r b_r hn -
 replace hB:=hB.bs hn
 replace h_s:=h_s.bs hn
 replace h_a:=h_a.bs hn
 replace b_x:=b_x.bs hn
 replace b_a:=b_a.bs hn
 clear hn
 refine Lw.val (Ac O) O<|Af<|Aa<|Cw.out<|Ae<|Ab<|Lw.val (Bw (ag_33 _) (sz_33 _) O O (by assumption)) O ?_
 refine Lw.val (Ag (q:=0) Tryz.underlying25 O (sz_23 _) O) O<|Lw.val (Aj (ag_23 _) O (by assumption) O) O ?_
 have z0:=below_size hB
 have yr:=blk_lt b_r
 refine Al O O (mshape_c a x.y x.s w h_a h_s) ?_
 rintro r w3 ⟨hn3,hA⟩
 have hA:=AnsK.d hA
 obtain ⟨rx,ry,rfl,r1⟩:=hA.ones
 have z3:=hn3.size
 have hB3:=hB.trans (hn3.mono z0)
 have b_r3:=b_r.bs hn3
 refine Lw.val (Ax (i:=0) O O) O<|Lw.val (Ax (i:=1) O O) O<|Ay (Bp (cs:=[rx,ry]) (k:=2) (by kernel_rfl) O O O r1 b_r3 O) ?_
 rintro w4 ⟨b_r4,hg4,hz4⟩
 have hA4:=hA.by hg4 yr
 have hB4:=hB3.grown hg4 (by omega) (by rintro _ ⟨⟩;omega)
 refine Lw.val (Ac O) O<|Af<|Aa<|Cw.out<|An<|Bf O O O (by assumption) (Tryz.underlying33) O O O ?_
 exact ⟨hB4,hA4.low z0⟩
theorem deed5_c (x:N5) (a:T4) (w:World) (hx:N5.at w x) (ha:a.at w):
  Fnc Tryz.prog 125 [x.v,a.v] w (fun r w' =>Below w.heap.size w w' ∧AnsD w w' r (tnE a x.s) (turn a.s x.s) (tuL a.s a.l x.s)):=by
 obtain ⟨W,hW⟩:∃W,W=w:=⟨_,rfl⟩
 rw [← hW] at hx ha
 rw [← hW]
 have hB:=Below.refl W.heap.size W
 have h_s:=hx.s
 have h_a:=ha
 refine Ap (n:=12) Tryz.func125 (by kernel_rfl) O O O<|Ae<|Ab<|Bv (cs:=x.cells) O O O ?_
 rintro A_x w eA_x b_x hn -
 replace hB:=hB.bs hn
 replace h_s:=h_s.bs hn
 replace h_a:=h_a.bs hn
 clear hn
 have yx:=blk_lt b_x
 refine Bv (cs:=[a.x,a.y]) O O O ?_
 rintro A_a w eA_a b_a hn -
 replace hB:=hB.bs hn
 replace h_s:=h_s.bs hn
 replace h_a:=h_a.bs hn
 replace b_x:=b_x.bs hn
 clear hn
 have ya:=blk_lt b_a
 refine B8 it_33 O ?_
 rintro A_r w eA_r b_r hn -
 replace hB:=hB.bs hn
 replace h_s:=h_s.bs hn
 replace h_a:=h_a.bs hn
 replace b_x:=b_x.bs hn
 replace b_a:=b_a.bs hn
 clear hn
 refine Lw.val (Ac O) O<|Af<|Aa<|Cw.out<|Ae<|Ab<|Lw.val (Bw (ag_33 _) (sz_33 _) O O (by assumption)) O ?_
 refine Lw.val (Ag (q:=0) Tryz.underlying25 O (sz_23 _) O) O<|Lw.val (Aj (ag_23 _) O (by assumption) O) O ?_
 have z0:=below_size hB
 have yr:=blk_lt b_r
 refine Al O O (mturn_c a x.y x.s w h_a h_s) ?_
 rintro r w3 ⟨hn3,hA⟩
 have hA:=AnsK.d hA
 obtain ⟨rx,ry,rfl,r1⟩:=hA.ones
 have z3:=hn3.size
 have hB3:=hB.trans (hn3.mono z0)
 have b_r3:=b_r.bs hn3
 refine Lw.val (Ax (i:=0) O O) O<|Lw.val (Ax (i:=1) O O) O<|Ay (Bp (cs:=[rx,ry]) (k:=2) (by kernel_rfl) O O O r1 b_r3 O) ?_
 rintro w4 ⟨b_r4,hg4,hz4⟩
 have hA4:=hA.by hg4 yr
 have hB4:=hB3.grown hg4 (by omega) (by rintro _ ⟨⟩;omega)
 refine Lw.val (Ac O) O<|Af<|Aa<|Cw.out<|An<|Bf O O O (by assumption) (Tryz.underlying33) O O O ?_
 exact ⟨hB4,hA4.low z0⟩
theorem deed6_c (x:N5) (a:T4) (w:World) (hx:N5.at w x) (ha:a.at w):
  Fnc Tryz.prog 127 [x.v,a.v] w (fun r w' =>Below w.heap.size w w' ∧AnsD w w' r (suE a x.n) (without a.s x.n.toNat) (suL a.s a.l x.n.toNat)):=by
 obtain ⟨W,hW⟩:∃W,W=w:=⟨_,rfl⟩
 rw [← hW] at hx ha
 rw [← hW]
 have hB:=Below.refl W.heap.size W
 have h_s:=hx.s
 have h_a:=ha
 refine Ap (n:=12) Tryz.func127 (by kernel_rfl) O O O<|Ae<|Ab<|Bv (cs:=x.cells) O O O ?_
 rintro A_x w eA_x b_x hn -
 replace hB:=hB.bs hn
 replace h_s:=h_s.bs hn
 replace h_a:=h_a.bs hn
 clear hn
 have yx:=blk_lt b_x
 refine Bv (cs:=[a.x,a.y]) O O O ?_
 rintro A_a w eA_a b_a hn -
 replace hB:=hB.bs hn
 replace h_s:=h_s.bs hn
 replace h_a:=h_a.bs hn
 replace b_x:=b_x.bs hn
 clear hn
 have ya:=blk_lt b_a
 refine B8 it_33 O ?_
 rintro A_r w eA_r b_r hn -
 replace hB:=hB.bs hn
 replace h_s:=h_s.bs hn
 replace h_a:=h_a.bs hn
 replace b_x:=b_x.bs hn
 replace b_a:=b_a.bs hn
 clear hn
 refine Lw.val (Ac O) O<|Af<|Aa<|Cw.out<|Ae<|Ab<|Lw.val (Bw (ag_33 _) (sz_33 _) O O (by assumption)) O ?_
 refine Lw.val (Ag (q:=0) Tryz.underlying25 O (sz_3 _) O) O<|Lw.val (Aj (ag_3 _) O (by assumption) O) O ?_
 have z0:=below_size hB
 have yr:=blk_lt b_r
 refine Al O O (msum_c a x.n w h_a) ?_
 rintro r w3 ⟨hn3,hA⟩
 have hA:=AnsK.d hA
 obtain ⟨rx,ry,rfl,r1⟩:=hA.ones
 have z3:=hn3.size
 have hB3:=hB.trans (hn3.mono z0)
 have b_r3:=b_r.bs hn3
 refine Lw.val (Ax (i:=0) O O) O<|Lw.val (Ax (i:=1) O O) O<|Ay (Bp (cs:=[rx,ry]) (k:=2) (by kernel_rfl) O O O r1 b_r3 O) ?_
 rintro w4 ⟨b_r4,hg4,hz4⟩
 have hA4:=hA.by hg4 yr
 have hB4:=hB3.grown hg4 (by omega) (by rintro _ ⟨⟩;omega)
 refine Lw.val (Ac O) O<|Af<|Aa<|Cw.out<|An<|Bf O O O (by assumption) (Tryz.underlying33) O O O ?_
 exact ⟨hB4,hA4.low z0⟩
theorem deed7_c (x:N5) (v:Value) (a b:T4) (w:World) (h:Tens w v [a,b]):
  Fnc Tryz.prog 129 [x.v,v] w (fun r w' =>Below w.heap.size w w' ∧AnsD w w' r (wofE a b x.n x.p) (wshS a.s b.s x.n x.p) (wofL a b x.n x.p)):=by
 obtain ⟨W,hW⟩:∃W,W=w:=⟨_,rfl⟩
 rw [← hW] at h
 rw [← hW]
 have hB:=Below.refl W.heap.size W
 have h_v:=h.1
 refine Ap (n:=19) Tryz.func129 (by kernel_rfl) O O O<|Ae<|Ab<|Bv (cs:=x.cells) O O O ?_
 rintro A_x w eA_x b_x hn -
 replace hB:=hB.bs hn
 clear hn
 have yx:=blk_lt b_x
 refine B8 it_33 O ?_
 rintro A_r w eA_r b_r hn -
 replace hB:=hB.bs hn
 replace b_x:=b_x.bs hn
 clear hn
 refine Lw.val (Ac O) O<|Af<|Aa<|Cw.out<|Ae ?_
 have z0:=below_size hB
 have yr:=blk_lt b_r
 refine Cw.any mixed (fun w2 hd _=> ?_)
 have hB2:=hB.trans (hd.mono z0)
 have b_x2:=b_x.bs hd
 refine Cs (fun w' =>Below W.heap.size W w' ∧Blk w' A_x 25 x.cells) (fun hC=> ?_) (⟨hB2,b_x2⟩)
 refine AwC.take (i:=0) (Ah Ar) O (by kernel_rfl) (by kernel_rfl) (by kernel_rfl) (fun w1 hc=>Ad O) O<|AwC.take (i:=1) (Ah Ar) O (by kernel_rfl) (by kernel_rfl) (by kernel_rfl) (fun w1 hc=>Bz st_26 O O (h_v.bs hc.1) 0 O (show 0<2 by decide)) O<|AwC.take (i:=2) (Ah Ar) O (by kernel_rfl) (by kernel_rfl) (by kernel_rfl) (fun w1 hc=>Cc (cs:=[a.x,a.y]) (ag_33 _) (sz_33 _) O (h_v.bs hc.1) O (by decide) (ten_cells (ts:=[a,b]) (j:=0) Nat.zero_lt_two)) O<|AwC.take (i:=3) (Ah Ar) O (by kernel_rfl) (by kernel_rfl) (by kernel_rfl) (fun w1 hc=>Ad O) O<|AwC.take (i:=4) (Ah Ar) O (by kernel_rfl) (by kernel_rfl) (by kernel_rfl) (fun w1 hc=>Bz st_26 O O (h_v.bs hc.1) 1 O (show 1<2 by decide)) O<|AwC.take (i:=5) (Ah Ar) O (by kernel_rfl) (by kernel_rfl) (by kernel_rfl) (fun w1 hc=>Cc (cs:=[b.x,b.y]) (ag_33 _) (sz_33 _) O (h_v.bs hc.1) O (by decide) (ten_cells (ts:=[a,b]) (j:=1) Nat.one_lt_two)) O<|AwC.take (i:=6) (Ah Ar) O (by kernel_rfl) (by kernel_rfl) (by kernel_rfl) (fun w1 hc=>Ag (q:=0) Tryz.underlying25 O (sz_3 _) O) O<|AwC.take (i:=7) (Ah Ar) O (by kernel_rfl) (by kernel_rfl) (by kernel_rfl) (fun w1 hc=>Aj (ag_3 _) O hc.2 O) O ?_
 refine AwC.take (i:=8) (Ah Ar) O (by kernel_rfl) (by kernel_rfl) (by kernel_rfl) (fun w1 hc=>Ag (q:=0) Tryz.underlying25 O (sz_3 _) O) O<|AwC.take (i:=9) (Ah Ar) O (by kernel_rfl) (by kernel_rfl) (by kernel_rfl) (fun w1 hc=>Aj (ag_3 _) O hc.2 O) O<|AwC.only (by assumption) (i:=10) (by kernel_rfl) O ?_
 refine Al O O (wof_c a b x.n x.p w2 ((h.2 a (by simp)).bs hB2) ((h.2 b (by simp)).bs hB2)) ?_
 rintro r w3 ⟨hn3,hA⟩
 have hA:=Gets.d hA
 obtain ⟨rx,ry,rfl,r1⟩:=hA.ones
 have z2:=hd.size
 have z3:=hn3.size
 have hB3:=hB2.trans (hn3.mono (by omega))
 have b_r3:=(b_r.bs hd).bs hn3
 have b_x3:=b_x2.bs hn3
 have hC3:Below W.heap.size W w3∧Blk w3 A_x 25 x.cells:=⟨hB3,b_x3⟩
 refine AwC.back<|AwC.take (i:=11) (Ah Ar) O (by kernel_rfl) (by kernel_rfl) (by kernel_rfl) (fun w1 hc=>Ax (i:=0) O O) O<|AwC.take (i:=12) (Ah Ar) O (by kernel_rfl) (by kernel_rfl) (by kernel_rfl) (fun w1 hc=>Ax (i:=1) O O) O<|AwC.only (by assumption) (i:=13) (by kernel_rfl) O ?_
 refine Ay (Bp (cs:=[rx,ry]) (k:=2) (by kernel_rfl) O O O r1 b_r3 O) ?_
 rintro w4 ⟨b_r4,hg4,hz4⟩
 have hA4:=hA.by hg4 (by omega)
 have hB4:=hB3.grown hg4 (by omega) (by rintro _ ⟨⟩;omega)
 have hC4:Below W.heap.size W w4∧Blk w4 A_x 25 x.cells:=⟨hB4,b_x3.by hg4 (fun e=>by have:=Option.some.inj e;omega)⟩
 refine AwC.back<|AwC.take (i:=14) (Ah Ar) O (by kernel_rfl) (by kernel_rfl) (by kernel_rfl) (fun w1 hc=>Ac O) O<|Ck (by assumption) (by kernel_rfl) ?_
 refine Aa<|Cw.out<|An<|Bf O O O (by assumption) (Tryz.underlying33) O O O ?_
 exact ⟨hB4,hA4.low (by omega)⟩
theorem deed8_c (x:N5) (v:Value) (ts:List T4) (w:World) (h:Tens w v ts):
  Fnc Tryz.prog 131 [x.v,v] w (fun r w' =>Below w.heap.size w w' ∧AnsD w w' r (jnE ts x.n) (jnS ts x.n.toNat) (jnL ts x.n.toNat)):=by
 obtain ⟨W,hW⟩:∃W,W=w:=⟨_,rfl⟩
 rw [← hW] at h
 rw [← hW]
 have hB:=Below.refl W.heap.size W
 refine Ap (n:=12) Tryz.func131 (by kernel_rfl) O O O<|Ae<|Ab<|Bv (cs:=x.cells) O O O ?_
 rintro A_x w eA_x b_x hn -
 replace hB:=hB.bs hn
 clear hn
 have yx:=blk_lt b_x
 refine B8 it_33 O ?_
 rintro A_r w eA_r b_r hn -
 replace hB:=hB.bs hn
 replace b_x:=b_x.bs hn
 clear hn
 refine Lw.val (Ac O) O<|Af<|Aa<|Cw.out<|Ae<|Ab<|Lw.val (Ad O) O<|Lw.val (Ag (q:=0) Tryz.underlying25 O (sz_3 _) O) O<|Lw.val (Aj (ag_3 _) O (by assumption) O) O ?_
 have z0:=below_size hB
 have yr:=blk_lt b_r
 refine Al O O (mjoin_c v ts x.n w (h.bs hB)) ?_
 rintro r w3 ⟨hn3,hA⟩
 have hA:=AnsK.d hA
 obtain ⟨rx,ry,rfl,r1⟩:=hA.ones
 have z3:=hn3.size
 have hB3:=hB.trans (hn3.mono z0)
 have b_r3:=b_r.bs hn3
 refine Lw.val (Ax (i:=0) O O) O<|Lw.val (Ax (i:=1) O O) O<|Ay (Bp (cs:=[rx,ry]) (k:=2) (by kernel_rfl) O O O r1 b_r3 O) ?_
 rintro w4 ⟨b_r4,hg4,hz4⟩
 have hA4:=hA.by hg4 yr
 have hB4:=hB3.grown hg4 (by omega) (by rintro _ ⟨⟩;omega)
 refine Lw.val (Ac O) O<|Af<|Aa<|Cw.out<|An<|Bf O O O (by assumption) (Tryz.underlying33) O O O ?_
 exact ⟨hB4,hA4.low z0⟩

/-! ### A deed -/
def dv (a b c d:Int) (f:Value):List Value:=[.int .i64 a, .int .i64 b, .int .i64 c, .int .i64 d,f]
abbrev fnOf (f:FuncId) (q:List Value):Value:= .func (.func f) #[] q.toArray
theorem bt_deed (a b c d:Int) (f:FuncId) (q:List Value):Tryz.prog.built 79 [(0, .int .i64 a),(1, .int .i64 b),(2, .int .i64 c),(3, .int .i64 d),(4,fnOf f q)]=some (dv a b c d (fnOf f q)).toArray:=by
 have h1:Tryz.prog.info? 79=some Tryz.t79:=by kernel_rfl
 have h2:Tryz.prog.info? 3=some Tryz.t3:=by kernel_rfl
 have h3:Tryz.prog.info? 36=some Tryz.t36:=by kernel_rfl
 simp [Program.built,h1,Tryz.underlying79,h2,h3,Instr.fill,Value.cells,fnOf,dv]
 rfl
theorem one_c (lo hi:Int) (f:FuncId) (w:World):Fnc Tryz.prog 116 [.int .i64 lo, .int .i64 hi,fnOf f []] w (fun r w' =>Below w.heap.size w w' ∧∃A,w.heap.size≤A∧r= .agg (dv 1 1 lo hi (fnOf 206 [.pointer (some ⟨A,0,none⟩)])).toArray∧Blk w' A 107 [fnOf f []]):=by
 have hB:=Below.refl w.heap.size w
 obtain ⟨B0,hB0⟩:∃B0,B0=w.heap.size:=⟨_,rfl⟩
 refine Ap (n:=11) Tryz.func116 (by kernel_rfl) O O O<|Ae<|Ab<|Bv (cs:=[fnOf f []]) O O O ?_
 rintro A_f w eA_f b_f hn -
 replace hB:=hB.bs hn
 clear hn
 have yf:=blk_lt b_f
 refine B8 it_79 O ?_
 rintro A_r w eA_r b_r hn -
 replace hB:=hB.bs hn
 replace b_f:=b_f.bs hn
 clear hn
 refine Af<|Aa<|Cw.out<|Ae<|Ab<|Lw.val (Ad O) O<|Lw.val (Ad O) O<|Lw.val (C7 (vs:=[]) O O) O ?_
 have z0:=below_size hB
 refine Lw.val (Bn (cs:=dv 1 1 lo hi (fnOf 206 [.pointer (some ⟨A_f,0,none⟩)])) O (bt_deed 1 1 lo hi 206 [.pointer (some ⟨A_f,0,none⟩)])) O<|Ay (Bp (cs:=dv 1 1 lo hi (fnOf 206 [.pointer (some ⟨A_f,0,none⟩)])) (k:=5) (by kernel_rfl) O O O O b_r O) ?_
 rintro w2 ⟨b_r,hg,hz⟩
 have b_f:=b_f.by hg (by rintro ⟨⟩;omega)
 have hB2:=hB.grown hg z0 (by rintro _ ⟨⟩;omega)
 refine Af<|Aa<|Cw.out<|An<|Pw.retC O O (by assumption) (Tryz.underlying79) O O O ?_
 exact ⟨hB2,A_f,by omega,rfl,b_f⟩
theorem two_c (f:FuncId) (w:World):Fnc Tryz.prog 112 [fnOf f []] w (fun r w' =>Below w.heap.size w w' ∧∃A,w.heap.size≤A∧r= .agg (dv 2 2 0 0 (fnOf 199 [.pointer (some ⟨A,0,none⟩)])).toArray∧Blk w' A 83 [fnOf f []]):=by
 have hB:=Below.refl w.heap.size w
 obtain ⟨B0,hB0⟩:∃B0,B0=w.heap.size:=⟨_,rfl⟩
 refine Ap (n:=5) Tryz.func112 (by kernel_rfl) O O O<|Ae<|Ab<|Bv (cs:=[fnOf f []]) O O O ?_
 rintro A_f w eA_f b_f hn -
 replace hB:=hB.bs hn
 clear hn
 have yf:=blk_lt b_f
 refine B8 it_79 O ?_
 rintro A_r w eA_r b_r hn -
 replace hB:=hB.bs hn
 replace b_f:=b_f.bs hn
 clear hn
 refine Af<|Aa<|Cw.out<|Ae<|Ab<|Lw.val (C7 (vs:=[]) O O) O ?_
 have z0:=below_size hB
 refine Lw.val (Bn (cs:=dv 2 2 0 0 (fnOf 199 [.pointer (some ⟨A_f,0,none⟩)])) O (bt_deed 2 2 0 0 199 [.pointer (some ⟨A_f,0,none⟩)])) O<|Ay (Bp (cs:=dv 2 2 0 0 (fnOf 199 [.pointer (some ⟨A_f,0,none⟩)])) (k:=5) (by kernel_rfl) O O O O b_r O) ?_
 rintro w2 ⟨b_r,hg,hz⟩
 have b_f:=b_f.by hg (by rintro ⟨⟩;omega)
 have hB2:=hB.grown hg z0 (by rintro _ ⟨⟩;omega)
 refine Af<|Aa<|Cw.out<|An<|Pw.retC O O (by assumption) (Tryz.underlying79) O O O ?_
 exact ⟨hB2,A_f,by omega,rfl,b_f⟩
end Go.Proofs.YtmipoeanpnnjoaaGreatDoor
