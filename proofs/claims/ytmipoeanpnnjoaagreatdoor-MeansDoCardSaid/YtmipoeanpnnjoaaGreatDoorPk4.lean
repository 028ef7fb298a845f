/- Texts of this proof, one behind the other: WinOf, WinPool, RefWin, MovesCode, NumsCode, MovesSum, RefMoves. -/
import Derived.Test.YtmipoeanpnnjoaaGreatDoorPk3
import Derived.Test.YtmipoeanpnnjoaaGreatDoorPk1
import Derived.Test.YtmipoeanpnnjoaaGreatDoorPk2

/-! Contract: windows that slide over a picture. -/
namespace Go.Proofs.YtmipoeanpnnjoaaGreatDoor
open Go Go.Dd Go.RowKit
set_option maxRecDepth 100000

def wofE (t w:T4) (step pad:Int):Int:=if tok t.s t.l && tok w.s w.l then wshE t.s w.s step pad else 1
def wofN (w:T4):Nat:=(Shapes.size (w.s.drop 1)).toNat
def wofF (t w:T4) (step pad:Int) (i:Nat):BitVec 32:=winS t.l w.l t.s (wshS t.s w.s step pad) (w.s.drop 1) (wofN w) step pad i (wofN w)
def wofL (t w:T4) (step pad:Int):List (BitVec 32):=(List.range (Shapes.size (wshS t.s w.s step pad)).toNat).map (wofF t w step pad)
theorem itr_none {A A' :World} (h:Itr none A A'):Below A.heap.size A A' :=by
 obtain ⟨r,g,hr⟩:=h
 have:r=none:=by rcases hr with h|h<;>exact h
 subst this
 exact ⟨g.os,g.tape,g.output,g.size,fun k hk=>g.block k hk (by simp)⟩
theorem blk_own_ne {w:World} {base A:Nat} {e T:TypeId} {sz n:Nat} {v:Value} {xs cs:List Value} (h:w.ownsRow base e sz v n xs) (k:Blk w A T cs) (hne:e≠T):some A≠v.ownBlock:=fun e2=>by
 rcases h.2 with ⟨rfl,_⟩|⟨g',cap,cur,rfl,_,hg,_⟩
 ·cases e2
 ·simp only [Value.ownBlock,Option.some.injEq] at e2
  subst e2
  unfold Blk at k
  rw [k] at hg
  have:=Option.some.inj hg
  injection this with _ h2 _
  exact hne h2.symm
/-- An answer: a tensor of one's own, or none at all. -/
def AnsW (W w:World) (r:Value) (e:Int) (s:List Int) (l:List (BitVec 32)):Prop:=
 ∃x y,r= .tuple #[.agg #[x,y], .int .i64 e]∧(e≠0→x= .slice none 0 0∧y= .slice none 0 0)∧(e=0→Made1 W w x y s l)
theorem ansW_no {W w:World} {e:Int} {s:List Int} {l:List (BitVec 32)} (h:e≠0):AnsW W w (.tuple #[.agg #[.slice none 0 0, .slice none 0 0], .int .i64 e]) e s l:=⟨_,_,rfl,fun _=>⟨rfl,rfl⟩,fun h0=>absurd h0 h⟩
theorem AnsW.gets {W w:World} {r:Value} {e:Int} {s:List Int} {l:List (BitVec 32)} (h:AnsW W w r e s l):Gets W w r e s l:=by
 obtain ⟨x,y,rfl,q1,q2⟩:=h
 by_cases he:e=0
 ·exact ⟨⟨x,y,s,l⟩,rfl,(q2 he).at,fun h=>absurd he h,fun _=>⟨rfl,rfl,q2 he⟩⟩
 ·obtain ⟨rfl,rfl⟩:=q1 he
  exact ⟨⟨_,_,[],[]⟩,rfl,nilT w,fun _=>⟨rfl,rfl,rfl,rfl⟩,fun h=>absurd h he⟩
theorem blk_ne {w:World} {a b:Nat} {T U:TypeId} {cs ds:List Value} (h:Blk w a T cs) (k:Blk w b U ds) (hne:T≠U):a≠b:=fun e=>by
 subst e
 unfold Blk at h k
 rw [h] at k
 have:=Option.some.inj k
 injection this with _ h2 _
 exact hne h2
/-- What goes with a picture and windows that slide over it. -/
structure WinOK (t f:T4) (step pad:Int) (S:List Int) (N:Nat):Prop where
 lt:t.s.length=3
 lf:f.s.length=4
 lS:S.length=3
 st:1≤step∧step≤8
 pd:0≤pad∧pad≤8
 ok:Shapes.ok S=true
 okf:Shapes.ok (f.s.drop 1)=true
 c:t.s.getD 0 default=f.s.getD 1 default
 o:S.getD 0 default=f.s.getD 0 default
 gt:Shapes.good t.s
 gf:Shapes.good f.s
 gS:Shapes.good S
 n:(N:Int)=f.s.getD 1 default*(f.s.getD 2 default*f.s.getD 3 default)
 n1:1≤N∧N≤4096
 fl:(f.l.length:Int)=f.s.getD 0 default*(N:Int)
 tl:(t.l.length:Int)=t.s.getD 0 default*(t.s.getD 1 default*t.s.getD 2 default)
theorem list3 {s:List Int} (h:s.length=3):s=[s.getD 0 default,s.getD 1 default,s.getD 2 default]:=by
 match s,h with
 |[a,b,c],_=>rfl
theorem list4 {s:List Int} (h:s.length=4):s=[s.getD 0 default,s.getD 1 default,s.getD 2 default,s.getD 3 default]:=by
 match s,h with
 |[a,b,c,d],_=>rfl
theorem prod3 {s:List Int} (h:s.length=3):Shapes.prod s=s.getD 0 default*(s.getD 1 default*s.getD 2 default):=by
 rw [list3 h];simp [Shapes.prod]
theorem win_ok {t f:T4} {step pad:Int} (ht:tok t.s t.l=true) (hf:tok f.s f.l=true) (e:wshE t.s f.s step pad=0):WinOK t f step pad (wshS t.s f.s step pad) (wofN f):=by
 obtain ⟨t1,t2⟩:=tok_ok ht
 obtain ⟨f1,f2⟩:=tok_ok hf
 have T:=(Shapes.ok_iff t.s).1 t1
 have F:=(Shapes.ok_iff f.s).1 f1
 have hA:wshA t.s f.s step pad=false:=by cases h:wshA t.s f.s step pad<;>simp [wshE,h] at e ⊢
 have hBk:(wshB t.s f.s && Shapes.ok (wshS t.s f.s step pad))=true:=by
  rw [wshE,hA] at e
  cases h:(wshB t.s f.s && Shapes.ok (wshS t.s f.s step pad))
  ·rw [h] at e;cases e
  ·rfl
 simp only [Bool.and_eq_true] at hBk
 obtain ⟨hb,hk⟩:=hBk
 simp only [wshB,Bool.and_eq_true,decide_eq_true_eq] at hb
 obtain ⟨⟨lt,lf⟩,hc⟩:=hb
 simp only [wshA,Bool.or_eq_false_iff,decide_eq_false_iff_not] at hA
 obtain ⟨⟨⟨⟨-,a1⟩,a2⟩,a3⟩,a4⟩:=hA
 have g1:=good_at F.2.1 (k:=1) (by omega)
 have ef:=list4 lf
 have gd:Shapes.good (f.s.drop 1):=Shapes.good_drop F.2.1 1
 have ld:(f.s.drop 1).length=3:=by rw [List.length_drop];omega
 have pd:=prod3 ld
 have d0:(f.s.drop 1).getD 0 default=f.s.getD 1 default:=by simp
 have d1:(f.s.drop 1).getD 1 default=f.s.getD 2 default:=by simp
 have d2:(f.s.drop 1).getD 2 default=f.s.getD 3 default:=by simp
 rw [d0,d1,d2] at pd
 have pf:Shapes.prod f.s=f.s.getD 0 default*Shapes.prod (f.s.drop 1):=by
  have:=Shapes.prod_drop (s:=f.s) (k:=0) (by omega)
  simpa using this
 have p1:=Shapes.prod_pos gd
 have g0:=good_at F.2.1 (k:=0) (by omega)
 have p2:Shapes.prod (f.s.drop 1)≤4096:=by
  have h1:1*Shapes.prod (f.s.drop 1)≤f.s.getD 0 default*Shapes.prod (f.s.drop 1):=Int.mul_le_mul_of_nonneg_right g0.1 (by omega)
  omega
 have okd:Shapes.ok (f.s.drop 1)=true:=(Shapes.ok_iff _).2 ⟨by omega,gd,p2⟩
 have hN:(wofN f:Int)=Shapes.prod (f.s.drop 1):=by
  unfold wofN
  rw [Shapes.size_ok okd,Int.toNat_of_nonneg (by omega)]
 refine ⟨lt,lf,rfl,by omega,by omega,hk,okd,hc,rfl,T.2.1,F.2.1,((Shapes.ok_iff _).1 hk).2.1,by rw [hN,pd],by omega, ?_, ?_⟩
 ·have:=Shapes.size_ok f1
  rw [hN,← pf];have:=Shapes.size_le f.s;omega
 ·have:=Shapes.size_ok t1
  rw [← prod3 lt];have:=Shapes.size_le t.s;omega
set_option maxHeartbeats 2000000 in
theorem wof0_c (t f:T4) (step pad:Int) (W:World) (h_t:t.at W) (h_f:f.at W):
  Fnc Tryz.prog 130 [t.v,f.v, .int .i64 step, .int .i64 pad] W (fun r w' =>Below W.heap.size W w' ∧AnsW W w' r (wofE t f step pad) (wshS t.s f.s step pad) (wofL t f step pad)):=by
 have hB:=Below.refl W.heap.size W
 have h_t0:=h_t
 have h_f0:=h_f
 refine Fnc.enterG (n:=106) Tryz.func130 (by kernel_rfl) O O O<|Ci<|B6 (by kernel_rfl)<|Bv (cs:=[t.x,t.y]) O O O ?_
 rintro A_t w eA_t b_t hn -
 replace hB:=hB.bs hn
 replace h_t:=h_t.bs hn
 replace h_f:=h_f.bs hn
 clear hn
 have z_t:=blk_lt b_t
 refine Bv (cs:=[f.x,f.y]) O O O ?_
 rintro A_f w eA_f b_f hn -
 replace hB:=hB.bs hn
 replace h_t:=h_t.bs hn
 replace h_f:=h_f.bs hn
 replace b_t:=b_t.bs hn
 clear hn
 refine Bv (cs:=[.int .i64 step]) O O O ?_
 rintro A_s w eA_s b_s hn -
 replace hB:=hB.bs hn
 replace h_t:=h_t.bs hn
 replace h_f:=h_f.bs hn
 replace b_t:=b_t.bs hn
 replace b_f:=b_f.bs hn
 clear hn
 refine Bv (cs:=[.int .i64 pad]) O O O ?_
 rintro A_p w eA_p b_p hn -
 replace hB:=hB.bs hn
 replace h_t:=h_t.bs hn
 replace h_f:=h_f.bs hn
 replace b_t:=b_t.bs hn
 replace b_f:=b_f.bs hn
 replace b_s:=b_s.bs hn
 clear hn
 have z0:=below_size hB
 refine B8 it_33 O ?_
 rintro A_r w eA_r b_r hn -
 replace hB:=hB.bs hn
 replace h_t:=h_t.bs hn
 replace h_f:=h_f.bs hn
 replace b_t:=b_t.bs hn
 replace b_f:=b_f.bs hn
 replace b_s:=b_s.bs hn
 replace b_p:=b_p.bs hn
 clear hn
 refine Lw.val (Ac O) O ?_
 refine Af (Pg.low ?_)
 refine B4 (Cg.out ?_)
 refine Ci<|Ci<|B6 (by kernel_rfl)<|Lw.val (Bw (ag_33 _) (sz_33 _) O O (by assumption)) O ?_
 have z_r:=blk_lt b_r
 refine Al O O (tcheck_c t.x t.y t.s t.l _ h_t.1 h_t.2) ?_
 rintro _ w ⟨rfl,hn⟩
 replace hB:=hB.bs hn
 replace h_t:=h_t.bs hn
 replace h_f:=h_f.bs hn
 replace b_t:=b_t.bs hn
 replace b_f:=b_f.bs hn
 replace b_s:=b_s.bs hn
 replace b_p:=b_p.bs hn
 replace b_r:=b_r.bs hn
 clear hn
 refine Lw.val (Bx O) O<|Lw.val (Ad O) O ?_
 refine Bt 22 O ?_ ?_
 ·intro g
  refine Ai (dj:=22) O O O O<|Ai (dj:=22) O O O O<|Ai (dj:=22) O O O O<|Lw.val (As O O) O ?_
  refine Af (Pg.low ?_)
  refine B4 (Cg.out ?_)
  refine Cg.condT O<|Ci<|B6 (by kernel_rfl)<|Lw.val (Bn (vs:=[]) (cs:=[.slice none 0 0, .slice none 0 0]) O (by kernel_rfl)) O<|Ay (Bp (cs:=[.slice none 0 0, .slice none 0 0]) O O O O O b_r O) ?_
  rintro w3 ⟨b_r,hg, -⟩
  have hB:=hB.grown hg (below_size hB) (by rintro _ ⟨⟩;omega)
  refine Lw.val (Ac O) O ?_
  refine Af (Pg.low ?_)
  refine B4 (Cg.out ?_)
  refine Cg.ret<|Pg.thenR<|Pg.close0<|Bf O O O (by assumption) (Tryz.underlying33) O O O ?_
  rw [show wofE t f step pad=1 by simp_all [wofE]]
  exact ⟨hB,ansW_no (by decide)⟩
 intro g1
 have k_t:tok t.s t.l=true:=by simpa using g1
 refine Lw.take (dj:=22) O O<|Lw.val (Bw (ag_33 _) (sz_33 _) O O (by assumption)) O ?_
 refine Lw.take (dj:=22) O O<|Al O O (tcheck_c f.x f.y f.s f.l _ h_f.1 h_f.2) ?_
 rintro _ w ⟨rfl,hn⟩
 replace hB:=hB.bs hn
 replace h_t:=h_t.bs hn
 replace h_f:=h_f.bs hn
 replace b_t:=b_t.bs hn
 replace b_f:=b_f.bs hn
 replace b_s:=b_s.bs hn
 replace b_p:=b_p.bs hn
 replace b_r:=b_r.bs hn
 clear hn
 refine Lw.take (dj:=22) O O<|Lw.val (Bx O) O<|Lw.val (Bd O O) O ?_
 refine Af (Pg.low ?_)
 refine B4 (Cg.out ?_)
 refine Cg.cond O ?_ ?_
 ·intro g
  refine Ci<|B6 (by kernel_rfl)<|Lw.val (Bn (vs:=[]) (cs:=[.slice none 0 0, .slice none 0 0]) O (by kernel_rfl)) O<|Ay (Bp (cs:=[.slice none 0 0, .slice none 0 0]) O O O O O b_r O) ?_
  rintro w3 ⟨b_r,hg, -⟩
  have hB:=hB.grown hg (below_size hB) (by rintro _ ⟨⟩;omega)
  refine Lw.val (Ac O) O ?_
  refine Af (Pg.low ?_)
  refine B4 (Cg.out ?_)
  refine Cg.ret<|Pg.thenR<|Pg.close0<|Bf O O O (by assumption) (Tryz.underlying33) O O O ?_
  rw [show wofE t f step pad=1 by simp_all [wofE]]
  exact ⟨hB,ansW_no (by decide)⟩
 intro g2
 have k_f:tok f.s f.l=true:=by simpa using g2
 have hE:wofE t f step pad=wshE t.s f.s step pad:=by rw [wofE,k_t,k_f];rfl
 clear g1 g2
 rw [hE]
 have h_t1:=h_t.1
 have h_f1:=h_f.1
 refine Cg.skip ?_
 refine B4 (Cg.out ?_)
 refine Ci<|B6 (by kernel_rfl)<|Lw.val (Ag (q:=0) Tryz.underlying33 O (sz_23 _) O) O<|Lw.val (Aj (ag_23 _) O (by assumption) O) O ?_
 refine Lw.val (Ag (q:=0) Tryz.underlying33 O (sz_23 _) O) O<|Lw.val (Aj (ag_23 _) O (by assumption) O) O ?_
 refine Lw.val (Aj (ag_3 _) O (by assumption) O) O ?_
 refine Lw.val (Aj (ag_3 _) O (by assumption) O) O ?_
 have zr0:=blk_lt b_r
 have zrB:=below_size hB
 refine Al O O (wshape_c t.s f.s step pad t.x f.x _ h_t.1 h_f.1) ?_
 rintro _ w1 ⟨hn,x,m,rfl,hx,hno,hyes⟩
 replace hB:=hB.bs hn
 replace h_t:=h_t.bs hn
 replace h_f:=h_f.bs hn
 replace b_t:=b_t.bs hn
 replace b_f:=b_f.bs hn
 replace b_s:=b_s.bs hn
 replace b_p:=b_p.bs hn
 replace b_r:=b_r.bs hn
 clear hn
 refine Lw.val (Ad O) O<|Lw.val (Ax (i:=0) O O) O<|Lw.val (Ax (i:=1) O O) O<|Lw.val (Ac O) O<|Lw.val (Ac O) O ?_
 refine Af (Pg.low ?_)
 refine B4 (Cg.out ?_)
 refine Ci<|Ci<|B6 (by kernel_rfl)<|Lw.val (Ad O) O<|Lw.val (B7 O O) O ?_
 refine Af (Pg.low ?_)
 refine B4 (Cg.out ?_)
 refine Cg.cond O ?_ ?_
 ·intro g
  have g:wshE t.s f.s step pad≠0:=by simpa using g
  refine Ci<|B6 (by kernel_rfl)<|Lw.val (Bn (vs:=[]) (cs:=[.slice none 0 0, .slice none 0 0]) O (by kernel_rfl)) O<|Lw.val (Ad O) O<|Ay (Bp (cs:=[.slice none 0 0, .slice none 0 0]) O O O O O b_r O) ?_
  rintro w3 ⟨b_r,hg, -⟩
  have hB:=hB.grown hg (below_size hB) (by rintro _ ⟨⟩;omega)
  refine Lw.val (Ac O) O ?_
  refine Af (Pg.low ?_)
  refine B4 (Cg.out ?_)
  refine Cg.ret<|Pg.thenR<|Pg.close0<|Bf O O O (by assumption) (Tryz.underlying33) O O O ?_
  exact ⟨hB,ansW_no g⟩
 intro g
 have e0:wshE t.s f.s step pad=0:=by simpa using g
 clear g
 rw [e0]
 have hm:=hyes e0
 have ok:=win_ok k_t k_f e0
 clear hno hyes e0 hE
 obtain ⟨S,hS⟩:∃S,S=wshS t.s f.s step pad:=⟨_,rfl⟩
 obtain ⟨N,hN⟩:∃N,N=wofN f:=⟨_,rfl⟩
 rw [hm,← hS] at hx
 rw [← hS]
 rw [← hS,← hN] at ok
 clear hm
 have szS:=Shapes.size_le S
 obtain ⟨M,hM⟩:∃M,M=(Shapes.size S).toNat:=⟨_,rfl⟩
 have l3:=ok.lt
 have l4:=ok.lf
 have l5:=ok.lS
 refine Cg.skip ?_
 refine B4 (Cg.out ?_)
 refine Ci ?_
 have zW:=below_size hB
 obtain ⟨B1,hB1⟩:∃B1,B1=w1.heap.size:=⟨_,rfl⟩
 have hxl:=own_block hx
 have q_t:A_t<B1:=hB1 ▸ blk_lt b_t
 have q_f:A_f<B1:=hB1 ▸ blk_lt b_f
 have q_s:A_s<B1:=hB1 ▸ blk_lt b_s
 have q_p:A_p<B1:=hB1 ▸ blk_lt b_p
 have q_r:A_r<B1:=hB1 ▸ blk_lt b_r
 refine Cg.midS (St:=Value×Nat×Nat) (fun z=>[(4, .pointer (some ⟨A_t,0,none⟩)),(5, .pointer (some ⟨A_f,0,none⟩)),(6, .pointer (some ⟨A_s,0,none⟩)),(7, .pointer (some ⟨A_p,0,none⟩)),(8, .pointer (some ⟨A_r,0,none⟩)),(10,x),(12, .pointer (some ⟨z.2.1,0,none⟩)),(13, .pointer (some ⟨z.2.2,0,none⟩))]) (fun z w' =>Below w1.heap.size w1 w' ∧w'.ownsRow B1 21 1 z.1 0 []∧B1≤z.2.1∧Blk w' z.2.1 31 [z.1]∧B1≤z.2.2∧Blk w' z.2.2 226 [.func (.func 214) #[picV t] #[]]) ?_ ?_
 ·refine Cg.any mixed (by kernel_rfl) (fun w hcw _=> ?_)
  have b_t9:=b_t.bs hcw
  have h_t9:=h_t.bs hcw
  have hx9:=(own_slT hx).bs hcw
  have zc:=hcw.size
  refine Aw.boxes ([.val, .val, .val, .val, .val, .val, .alloc 31 [.slice none 0 0], .alloc 226 [.nilFunc], .st 6 2, .st 7 5]) ([31,226]) (winPh B1 x (M:Int) t (.func (.func 214) #[picV t] #[])) (by kernel_rfl) (by kernel_rfl) (fun i v w w' h g=>winPh_bs h g) (fun i v w w' A T cs h hb _ hT g=>winPh_by h hb hT g) ?_ ?_
  ·refine AllOps.cons (fun s w' hB0 hd=>⟨fun j g h=>(by cases h), ?_⟩) ?_
   ·exact Ow.val (Ad rfl) ⟨Below.refl _ _,rfl⟩
   refine AllOps.cons (fun s w' hB0 hd=>⟨fun j g h=>(by cases h), ?_⟩) ?_
   ·have e0:s 0=x:=hd 0 (by decide) rfl
    refine Ow.call (Xc.mk (vs:=[x]) (size_c x S w' (hx9.bs hB0)).1 (by show some [s 0]=_;rw [e0])) (size_c x S w' (hx9.bs hB0)) (fun v w2 ⟨e,hn⟩=>⟨hn, ?_⟩)
    rw [e];exact congrArg (Value.int .i64) (by omega)
   refine AllOps.cons (fun s w' hB0 hd=>⟨fun j g h=>(by cases h), ?_⟩) ?_
   ·have e1:s 1= .int .i64 (M:Int):=hd 1 (by decide) rfl
    refine Ow.mk (C2 (l:=0) (c:=M) st_31 it_21 O O (congrArg some e1) (Nat.zero_le _) (by omega) (by omega)) (fun v w2 ⟨ho,_,hn,_⟩=>⟨hn, ?_⟩)
    exact own_mono (B' :=B1) ho (by have:=hB0.size;omega)
   refine AllOps.cons (fun s w' hB0 hd=>⟨fun j g h=>(by cases h), ?_⟩) ?_
   ·exact Ow.val (Bw (k:=2) (ag_33 _) (sz_33 _) rfl rfl (b_t9.bs hB0)) ⟨Below.refl _ _,rfl⟩
   refine AllOps.cons (fun s w' hB0 hd=>⟨fun j g h=>(by cases h), ?_⟩) ?_
   ·have e3:s 3=t.v:=hd 3 (by decide) rfl
    exact Ow.call (Xc.mk (vs:=[t.v]) (pof_c t w' (h_t9.bs hB0) (by omega)).1 (by show some [s 3]=_;rw [e3])) (pof_c t w' (h_t9.bs hB0) (by omega)) (fun v w2 ⟨e,hn⟩=>⟨hn,e⟩)
   refine AllOps.cons (fun s w' hB0 hd=>⟨fun j g h=>(by cases h), ?_⟩) ?_
   ·have e4:s 4=picV t:=hd 4 (by decide) rfl
    exact Ow.val (C7 (vs:=[picV t]) (us:=[]) (by show some [s 4]=_;rw [e4]) rfl) ⟨Below.refl _ _,rfl⟩
   refine AllOps.cons (fun s w' hB0 hd=>⟨fun j g h=>(by cases h),Ow.alloc it_31⟩) ?_
   refine AllOps.cons (fun s w' hB0 hd=>⟨fun j g h=>(by cases h),Ow.alloc it_226⟩) ?_
   refine AllOps.cons (fun s w' hB0 hd=>⟨fun j g h=>(by cases h),fun A hA _ hb hP=> ?_⟩) ?_
   ·have ho:w'.ownsRow B1 21 1 (s 2) 0 []:=hP
    have h1:=(own_sl ho).one
    exact Ow.unit (Co (u:=s 2) (sz_31 _) (congrArg some hA) rfl (own_sl ho).one' hb Nat.zero_lt_one) (fun w2 h=>⟨by rw [h1];exact h.1,h.2.1⟩)
   refine AllOps.cons (fun s w' hB0 hd=>⟨fun j g h=>(by cases h),fun A hA _ hb hP=> ?_⟩) ?_
   ·have e5:s 5= .func (.func 214) #[picV t] #[]:=hP
    exact Ow.unit (Co (u:=s 5) (sz_226 _) (congrArg some hA) rfl (by rw [e5];rfl) hb Nat.zero_lt_one) (fun w2 h=>⟨by rw [e5];rw [e5] at h;exact h.1,h.2.1⟩)
   exact AllOps.nil
  intro s w' hB0 hall hbox _
  obtain ⟨A_o,hAo,l_o,b_o⟩:=box_at hbox 6 8 (by decide) rfl (by decide) rfl
  obtain ⟨A_g,hAg,l_g,b_g⟩:=box_at hbox 7 9 (by decide) rfl (by decide) rfl
  have ho:w'.ownsRow B1 21 1 (s 2) 0 []:=hall 2 (by decide) rfl
  have e5:s 5= .func (.func 214) #[picV t] #[]:=hall 5 (by decide) rfl
  have h2:(kdAt [.val, .val, .val, .val, .val, .val, .alloc 31 [.slice none 0 0], .alloc 226 [.nilFunc], .st 6 2, .st 7 5] 8).cells s=[s 2]:=by show (s 2).cells.toList=_;rw [(own_sl ho).one]
  have h5:(kdAt [.val, .val, .val, .val, .val, .val, .alloc 31 [.slice none 0 0], .alloc 226 [.nilFunc], .st 6 2, .st 7 5] 9).cells s=[.func (.func 214) #[picV t] #[]]:=by show (s 5).cells.toList=_;rw [e5];rfl
  rw [h2] at b_o
  rw [h5] at b_g
  have hcw:=hcw.trans (hB0.mono hcw.size)
  refine Pg.low ?_

  exact Pg.midS ((s 2,A_o,A_g)) ⟨rfl,rfl,rfl,rfl,rfl,rfl,congrArg some hAo,congrArg some hAg,trivial⟩ (⟨hcw,ho,by show B1≤A_o;omega,b_o,by show B1≤A_g;omega,b_g⟩)
 rintro ⟨ov,A_o,A_g⟩ w ⟨hn,ho,l_o,b_o,l_g,b_g⟩
 dsimp only at ho l_o b_o l_g b_g ⊢
 refine Cg.out ?_
 replace hB:=hB.bs hn
 replace h_t:=h_t.bs hn
 replace h_f:=h_f.bs hn
 replace b_t:=b_t.bs hn
 replace b_f:=b_f.bs hn
 replace b_s:=b_s.bs hn
 replace b_p:=b_p.bs hn
 replace b_r:=b_r.bs hn
 replace hx:=hx.bs hn
 clear hn
 have g0:=good_at ok.gS (k:=0) (by omega)
 have g1:=good_at ok.gS (k:=1) (by omega)
 have g2:=good_at ok.gS (k:=2) (by omega)
 have t0:=good_at ok.gt (k:=0) (by omega)
 have t1:=good_at ok.gt (k:=1) (by omega)
 have t2:=good_at ok.gt (k:=2) (by omega)
 have okn:=ok.n1
 have okst:=ok.st
 have okpd:=ok.pd
 have fll:f.l.length≤64*4096:=by
  have f0:=good_at ok.gf (k:=0) (by omega)
  have h1:f.s.getD 0 default*(N:Int)≤64*4096:=Int.mul_le_mul f0.2 (by omega) (by omega) (by decide)
  have h2:=ok.fl
  omega
 have quo:(f.l.length:Int) / S.getD 0 default=(N:Int):=by
  rw [ok.fl,← ok.o];exact Int.mul_ediv_cancel_left _ (by omega)
 refine Ci ?_
 refine Cg.any mixed (by kernel_rfl) (fun w hd _=> ?_)
 replace hB:=hB.bs hd
 replace h_t:=h_t.bs hd
 replace h_f:=h_f.bs hd
 replace b_t:=b_t.bs hd
 replace b_f:=b_f.bs hd
 replace b_s:=b_s.bs hd
 replace b_p:=b_p.bs hd
 replace b_r:=b_r.bs hd
 replace hx:=hx.bs hd
 replace ho:=ho.bs hd
 replace b_o:=b_o.bs hd
 replace b_g:=b_g.bs hd
 clear hd
 have h_f2:=h_f.2
 have s_x:=own_slT hx
 refine Cs (fun w' =>Below w.heap.size w w') (fun hC=> ?_) (Below.refl _ _)
 refine AwC.take (i:=0) (C0 (Ah NoP.retG)) O (by kernel_rfl) (by kernel_rfl) (by kernel_rfl) (fun w1 hc=>Ag (q:=0) Tryz.underlying33 O (sz_31 _) O) O<|AwC.take (i:=1) (C0 (Ah NoP.retG)) O (by kernel_rfl) (by kernel_rfl) (by kernel_rfl) (fun w1 hc=>Aj (ag_31 _) O (Blk.bs (by assumption) hc) O) O ?_
 refine AwC.take (i:=2) (C0 (Ah NoP.retG)) O (by kernel_rfl) (by kernel_rfl) (by kernel_rfl) (fun w1 hc=>Av st_31 O (Sl.bs (by assumption) hc)) O ?_
 refine AwC.take (i:=3) (C0 (Ah NoP.retG)) O (by kernel_rfl) (by kernel_rfl) (by kernel_rfl) (fun w1 hc=>Ad O) O<|AwC.take (i:=4) (C0 (Ah NoP.retG)) O (by kernel_rfl) (by kernel_rfl) (by kernel_rfl) (fun w1 hc=>Ba st_23 O O (Sl.bs (by assumption) hc) 0 O (by omega)) O ?_
 refine AwC.take (i:=5) (C0 (Ah NoP.retG)) O (by kernel_rfl) (by kernel_rfl) (by kernel_rfl) (fun w1 hc=>Bg (ag_3 _) O (Sl.bs (by assumption) hc) (by omega)) O ?_
 refine AwC.take (i:=6) (C0 (Ah NoP.retG)) O (by kernel_rfl) (by kernel_rfl) (by kernel_rfl) (fun w1 hc=>(Ct O O (by omega) (by omega)).as (congrArg (Value.int .i64) quo)) O<|AwC.only (by first|assumption|exact Below.refl _ _) (i:=7) (by kernel_rfl) O ?_
 refine B8 it_3 O ?_
 rintro A_n w2 eA_n b_n hcw -
 refine AwC.back<|AwC.only (by first|assumption|exact Below.refl _ _) (i:=8) (by kernel_rfl) O ?_
 refine Ay (Co (u:= .int .i64 (N:Int)) (sz_3 _) O O O b_n Nat.zero_lt_one) ?_
 rintro w3 ⟨b_n2,hg, -⟩
 have hcw:=hcw.grown hg hcw.size (by rintro _ ⟨⟩;omega)
 have b_n:Blk w3 A_n 3 [.int .i64 (N:Int)]:=b_n2
 clear b_n2 hg
 have zn:B1≤A_n:=by have:=hB;have:=blk_lt b_o;omega
 refine AwC.back ?_
 refine Ck (by first|assumption|exact Below.refl _ _) (by kernel_rfl) (Pg.low ?_)
 refine B4 (Cg.out ?_)
 refine Ci<|Ci<|B6 (by kernel_rfl)<|Lw.val (Ad O) O ?_
 replace hB:=hB.bs hcw
 replace h_t:=h_t.bs hcw
 replace h_f:=h_f.bs hcw
 replace b_t:=b_t.bs hcw
 replace b_f:=b_f.bs hcw
 replace b_s:=b_s.bs hcw
 replace b_p:=b_p.bs hcw
 replace b_r:=b_r.bs hcw
 replace hx:=hx.bs hcw
 replace ho:=ho.bs hcw
 replace b_o:=b_o.bs hcw
 replace b_g:=b_g.bs hcw
 clear hcw h_f2 s_x
 refine Al O O (spots_c x S _ (own_slT hx)) ?_
 rintro _ w ⟨A_i,rfl,b_i,eA_i,hn⟩
 replace hB:=hB.bs hn
 replace h_t:=h_t.bs hn
 replace h_f:=h_f.bs hn
 replace b_t:=b_t.bs hn
 replace b_f:=b_f.bs hn
 replace b_s:=b_s.bs hn
 replace b_p:=b_p.bs hn
 replace b_r:=b_r.bs hn
 replace hx:=hx.bs hn
 replace ho:=ho.bs hn
 replace b_o:=b_o.bs hn
 replace b_g:=b_g.bs hn
 replace b_n:=b_n.bs hn
 clear hn
 refine Af (Pg.low ?_)
 refine B4 (Cg.out ?_)
 refine Cg.block ?_
 rename World=>w0
 have zB1:B1≤w0.heap.size:=by have:=blk_lt b_o;omega
 have zi:=blk_lt b_i
 have zW0:=below_size hB
 have hxb:=own_block hx
 refine Cg.range O (spots_sq A_i x S w0 b_i (own_slT hx) ok.ok ok.lS) (fun b hb=>hb.elim (fun e=>by rw [e];exact zi) (fun e=>(hxb b e).2)) (fun _=>rfl) (by kernel_rfl) (fun (pre:List (Nat)) w' =>(∃ov,Blk w' A_o 31 [ov]∧w'.ownsRow B1 21 1 ov pre.length ((pre.map (wofF t f step pad)).map i32))∧Blk w' A_g 226 [.func (.func 214) #[picV t] #[]]∧Blk w' A_n 3 [.int .i64 (N:Int)]∧Blk w' A_i 23 [x]∧Below B1 w0 w') (by rintro _ ⟨⟩) ?_ ?_ ?_ ?_ ?_
 ·exact ⟨⟨ov,b_o,ho⟩,b_g,b_n,b_i,Below.refl _ _⟩
 ·rintro pre A A' ⟨⟨ov,h1,h2⟩,h3,h4,h6,h5⟩ hc
  exact ⟨⟨ov,h1.nc hc,own_nc h2 hc⟩,h3.nc hc,h4.nc hc,h6.nc hc,h5.nc hc zB1 zB1⟩
 ·rintro pre A A' ⟨⟨ov,h1,h2⟩,h3,h4,h6,h5⟩ hc
  have hc:=itr_none hc
  exact ⟨⟨ov,h1.bs hc,own_bs h2 hc⟩,h3.bs hc,h4.bs hc,h6.bs hc,h5.trans (hc.mono (Nat.le_trans zB1 h5.size))⟩
 ·rintro lp pre i u hl ⟨⟨ov,b_o,ho⟩,b_g,b_n,b_i,hK⟩ hpre hrec
  obtain ⟨hi,hiM, -⟩:=range_pre hpre
  refine B6 (by kernel_rfl)<|Cb (cs:=[.int .i64 (spc S i), .int .i64 (spy S i), .int .i64 (spx S i)]) it_233 O O O O (fun _=>rfl) (rfl) ?_
  rintro A_to u1 eA_to b_to hn1 zhn1
  refine Af (Pg.low ?_)
  refine Pg.asg ((KeepsFrom.refl _ _).bs hn1) (Kp.refl.bs hn1) ?_
  rintro w hn hz hrec
  have zu:=blk_lt b_o
  have hK1:=hK.trans (hn1.mono (by omega))
  have hK:=hK1.nc hn (by omega) zB1
  have ho:=own_nc (own_bs ho hn1) hn
  have b_o:=(b_o.bs hn1).nc hn
  have b_g:=(b_g.bs hn1).nc hn
  have b_n:=(b_n.bs hn1).nc hn
  have b_i:=(b_i.bs hn1).nc hn
  have b_to:=b_to.nc hn
  clear hK1 hn1 zu hn hz
  have b_s:=b_s.bl hK (by omega)
  have b_p:=b_p.bl hK (by omega)
  have b_t:=b_t.bl hK (by omega)
  have b_f:=b_f.bl hK (by omega)
  have hBw:=hB.trans (hK.mono (by omega))
  have zK:=hK.size
  have xi:i<M:=by omega
  have ci:0≤spc S i∧spc S i<S.getD 0 default:=spc_in ok.ok ok.lS (by omega)
  have yi:0≤spy S i∧spy S i<S.getD 1 default:=⟨Int.emod_nonneg _ (by omega),Int.emod_lt_of_pos _ (by omega)⟩
  have xi2:0≤spx S i∧spx S i<S.getD 2 default:=⟨Int.emod_nonneg _ (by omega),Int.emod_lt_of_pos _ (by omega)⟩
  have cn:0≤spc S i*(N:Int)∧spc S i*(N:Int)≤64*4096:=⟨Int.mul_nonneg ci.1 (by omega),Int.mul_le_mul (by omega) (by omega) (by omega) (by decide)⟩
  obtain ⟨B2,hB2⟩:∃B2,B2=w.heap.size:=⟨_,rfl⟩
  have r_to:A_to<B2:=hB2 ▸ blk_lt b_to
  have r_o:A_o<B2:=hB2 ▸ blk_lt b_o
  have r_g:A_g<B2:=hB2 ▸ blk_lt b_g
  have r_n:A_n<B2:=hB2 ▸ blk_lt b_n
  have hob:∀b,ov.ownBlock=some b→B1≤b∧b<B2:=fun b e=>hB2 ▸ own_block ho b e
  have r_i:A_i<B2:=hB2 ▸ blk_lt b_i
  refine Cg.block<|Ci ?_
  refine Cg.midS (St:=Nat×Nat) (fun z=>[(5, .pointer (some ⟨A_f,0,none⟩)),(6, .pointer (some ⟨A_s,0,none⟩)),(7, .pointer (some ⟨A_p,0,none⟩)),(12, .pointer (some ⟨A_o,0,none⟩)),(13, .pointer (some ⟨A_g,0,none⟩)),(15, .pointer (some ⟨A_to,0,none⟩)),(16, .pointer (some ⟨z.1,0,none⟩)),(17, .pointer (some ⟨z.2,0,none⟩))]) (fun z w' =>Below w.heap.size w w' ∧B2≤z.1∧Blk w' z.1 21 [i32 0#32]∧B2≤z.2∧Blk w' z.2 3 [.int .i64 (spc S i*(N:Int))]) ?_ ?_
  ·rename World=>w4
   refine Cg.any mixed (by kernel_rfl) (fun w hcw _=> ?_)
   refine Cs (fun w' =>Below w4.heap.size w4 w') (fun hC=> ?_) (hcw)
   refine AwC.take (i:=0) (C0 NoP.midG) O (by kernel_rfl) (by kernel_rfl) (by kernel_rfl) (fun w1 hc=>Ag (q:=0) Tryz.underlying233 O (sz_3 _) O) O<|AwC.take (i:=1) (C0 NoP.midG) O (by kernel_rfl) (by kernel_rfl) (by kernel_rfl) (fun w1 hc=>Aj (ag_3 _) O (Blk.bs (by assumption) hc) O) O ?_
   refine AwC.take (i:=2) (C0 NoP.midG) O (by kernel_rfl) (by kernel_rfl) (by kernel_rfl) (fun w1 hc=>Aj (ag_3 _) O (Blk.bs (by assumption) hc) O) O ?_
   refine AwC.take (i:=3) (C0 NoP.midG) O (by kernel_rfl) (by kernel_rfl) (by kernel_rfl) (fun w1 hc=>Ca O O (by omega)) O ?_
   refine AwC.two (by assumption) (i:=4) (j:=5) (by kernel_rfl) O O ?_ ?_
   have zc:=hcw.size
   refine B8 it_21 O ?_
   rintro A_m w eA_m b_m hn -
   have l_m:B2≤A_m:=by omega
   clear zc
   replace hcw:=hcw.bs hn
   clear hn
   refine AwC.back<|AwC.only (by assumption) (i:=5) (by kernel_rfl) O ?_
   have zc:=hcw.size
   refine B8 it_3 O ?_
   rintro A_k w eA_k b_k hn -
   have l_k:B2≤A_k:=by omega
   clear zc
   replace hcw:=hcw.bs hn
   replace b_m:=b_m.bs hn
   clear hn
   refine AwC.back<|AwC.only (by assumption) (i:=6) (by kernel_rfl) O ?_
   refine Ay (Co (u:=i32 0#32) (sz_21 _) O (show _=some (i32 (0#32)) from rfl) O b_m Nat.zero_lt_one) ?_
   rintro w2 ⟨b_m2,hg, -⟩
   try replace b_k:=b_k.by hg (fun e=>blk_ne b_k b_m (by decide) (Option.some.inj e))
   have hcw:=hcw.grown hg hcw.size (by rintro _ ⟨⟩;omega)
   have b_m:Blk w2 A_m 21 [i32 0#32]:=b_m2
   clear b_m2 hg
   refine AwC.back<|AwC.only (by assumption) (i:=7) (by kernel_rfl) O ?_
   refine Ay (Co (u:= .int .i64 (spc S i*(N:Int))) (sz_3 _) O O O b_k Nat.zero_lt_one) ?_
   rintro w2 ⟨b_k2,hg, -⟩
   have b_m:=b_m.by hg (fun e=>blk_ne b_m b_k (by decide) (Option.some.inj e))
   have hcw:=hcw.grown hg hcw.size (by rintro _ ⟨⟩;omega)
   have b_k:Blk w2 A_k 3 [.int .i64 (spc S i*(N:Int))]:=b_k2
   clear b_k2 hg
   refine AwC.back ?_
   refine Ck (by assumption) (by kernel_rfl) (Pg.low ?_)
   exact Pg.midS ((A_m,A_k)) ⟨rfl,rfl,rfl,rfl,rfl,rfl,rfl,rfl,trivial⟩ (⟨hcw,l_m,b_m,l_k,b_k⟩)
   have zc:=hcw.size
   refine B8 it_3 O ?_
   rintro A_k w eA_k b_k hn -
   have l_k:B2≤A_k:=by omega
   clear zc
   replace hcw:=hcw.bs hn
   clear hn
   refine AwC.back<|AwC.only (by assumption) (i:=4) (by kernel_rfl) O ?_
   have zc:=hcw.size
   refine B8 it_21 O ?_
   rintro A_m w eA_m b_m hn -
   have l_m:B2≤A_m:=by omega
   clear zc
   replace hcw:=hcw.bs hn
   replace b_k:=b_k.bs hn
   clear hn
   refine AwC.back<|AwC.only (by assumption) (i:=6) (by kernel_rfl) O ?_
   refine Ay (Co (u:=i32 0#32) (sz_21 _) O (show _=some (i32 (0#32)) from rfl) O b_m Nat.zero_lt_one) ?_
   rintro w2 ⟨b_m2,hg, -⟩
   try replace b_k:=b_k.by hg (fun e=>blk_ne b_k b_m (by decide) (Option.some.inj e))
   have hcw:=hcw.grown hg hcw.size (by rintro _ ⟨⟩;omega)
   have b_m:Blk w2 A_m 21 [i32 0#32]:=b_m2
   clear b_m2 hg
   refine AwC.back<|AwC.only (by assumption) (i:=7) (by kernel_rfl) O ?_
   refine Ay (Co (u:= .int .i64 (spc S i*(N:Int))) (sz_3 _) O O O b_k Nat.zero_lt_one) ?_
   rintro w2 ⟨b_k2,hg, -⟩
   have b_m:=b_m.by hg (fun e=>blk_ne b_m b_k (by decide) (Option.some.inj e))
   have hcw:=hcw.grown hg hcw.size (by rintro _ ⟨⟩;omega)
   have b_k:Blk w2 A_k 3 [.int .i64 (spc S i*(N:Int))]:=b_k2
   clear b_k2 hg
   refine AwC.back ?_
   refine Ck (by assumption) (by kernel_rfl) (Pg.low ?_)
   exact Pg.midS ((A_m,A_k)) ⟨rfl,rfl,rfl,rfl,rfl,rfl,rfl,rfl,trivial⟩ (⟨hcw,l_m,b_m,l_k,b_k⟩)
  rintro ⟨A_m,A_k⟩ u2 ⟨hn2,l_m,b_m,l_k,b_k⟩
  dsimp only at l_m b_m l_k b_k ⊢
  refine Cg.out ?_
  replace ho:=ho.bs hn2
  replace b_o:=b_o.bs hn2
  replace b_g:=b_g.bs hn2
  replace b_n:=b_n.bs hn2
  replace b_i:=b_i.bs hn2
  replace b_to:=b_to.bs hn2
  replace b_s:=b_s.bs hn2
  replace b_p:=b_p.bs hn2
  replace b_t:=b_t.bs hn2
  replace b_f:=b_f.bs hn2
  replace hBw:=hBw.bs hn2
  have h_fx:=(h_f0.bs hBw).1
  have s_c:=SlT.drop h_fx (i:=1) (by omega)
  have l_c:(f.s.drop 1).length=3:=by rw [List.length_drop];omega
  refine Ci<|Ci<|B6 (by kernel_rfl)<|Lw.val (Ag (q:=0) Tryz.underlying33 O (sz_23 _) O) O<|Lw.val (Aj (ag_23 _) O (by assumption) O) O ?_
  refine Lw.val (Ex.cutL (i:=1) st_23 O O h_fx (by omega)) O<|Al O O (spots_c (cut f.x 1 1 f.s.length) (f.s.drop 1) _ s_c) ?_
  rintro _ u3 ⟨A_j,rfl,b_j,eA_j,hn3⟩
  have b_m2:=b_m
  have b_k2:=b_k
  have s_c:=s_c.bs hn3
  replace ho:=ho.bs hn3
  replace b_o:=b_o.bs hn3
  replace b_g:=b_g.bs hn3
  replace b_n:=b_n.bs hn3
  replace b_i:=b_i.bs hn3
  replace b_to:=b_to.bs hn3
  replace b_s:=b_s.bs hn3
  replace b_p:=b_p.bs hn3
  replace b_t:=b_t.bs hn3
  replace b_f:=b_f.bs hn3
  replace hBw:=hBw.bs hn3
  replace b_m:=b_m.bs hn3
  replace b_k:=b_k.bs hn3
  refine Af (Pg.low ?_)
  refine B4 (Cg.out ?_)
  refine Cg.block ?_
  have zj:=blk_lt b_j
  have zB2:B2≤u3.heap.size:=by have:=hn2.size;have:=hn3.size;omega
  have hrec3:∃r,u3.heap[lp]? =some (.loop r):=by
   obtain ⟨r,hr⟩:=hrec
   have hlt:=(Array.getElem?_eq_some_iff.1 hr).1
   have h1:=(hn2.block lp hlt).trans hr
   exact ⟨r,(hn3.block lp (Array.getElem?_eq_some_iff.1 h1).1).trans h1⟩
  have h_fx3:=(h_f0.bs hBw).1
  have fne:f.s.map (Value.int .i64)≠[]:=fun e2=>by rw [List.map_eq_nil_iff] at e2;rw [e2] at l4;cases l4
  have z_mj:A_m<A_j∧A_k<A_j:=⟨eA_j ▸ blk_lt b_m2,eA_j ▸ blk_lt b_k2⟩
  have nj1:¬(A_m=A_j∨(cut f.x 1 1 f.s.length).ownBlock=some A_m):=by
   rintro (h|h)
   ·omega
   ·have:=Sl.blk h_f0.1 fne A_m (cut_own h);omega
  have nj2:¬(A_k=A_j∨(cut f.x 1 1 f.s.length).ownBlock=some A_k):=by
   rintro (h|h)
   ·omega
   ·have:=Sl.blk h_f0.1 fne A_k (cut_own h);omega
  refine Cg.rangeN (hrec3) O (spots_sq A_j (cut f.x 1 1 f.s.length) (f.s.drop 1) u3 b_j s_c ok.okf l_c) (fun b hb=>hb.elim (fun e=>by rw [e];exact zj) (fun e=>Sl.blk h_fx3 fne b (cut_own e))) (fun _=>rfl) (by kernel_rfl) (fun (pre2:List (Nat)) w' =>Blk w' A_m 21 [i32 (winS t.l f.l t.s S (f.s.drop 1) N step pad i pre2.length)]∧Blk w' A_k 3 [.int .i64 (spc S i*(N:Int)+(pre2.length:Int))]∧Below B2 u3 w' ∧KeepsFrom w0.heap.size u3 w') (by rintro _ ⟨⟩) ?_ ?_ ?_ ?_ ?_
  ·exact ⟨b_m,by simpa using b_k,Below.refl _ _,KeepsFrom.refl _ _⟩
  ·rintro pre A A' ⟨h1,h2,h3,h4⟩ hc
   exact ⟨h1.nc hc,h2.nc hc,h3.nc hc zB2 zB2,h4.nc hc⟩
  ·rintro pre A A' ⟨h1,h2,h3,h4⟩ hc
   have hc:=itr_none hc
   exact ⟨h1.bs hc,h2.bs hc,h3.trans (hc.mono (Nat.le_trans zB2 h3.size)),h4.bs hc⟩
  ·rintro lq pre2 j v hl2 ⟨b_m,b_k,hK2,hKf⟩ hpre2 hrec2
   obtain ⟨hj,hjN, -⟩:=range_pre hpre2
   rw [show (Shapes.size (f.s.drop 1)).toNat=N from hN.symm] at hjN
   refine B6 (by kernel_rfl)<|Cb (cs:=[.int .i64 (spc (f.s.drop 1) j), .int .i64 (spy (f.s.drop 1) j), .int .i64 (spx (f.s.drop 1) j)]) it_233 O O O O (fun _=>rfl) (rfl) ?_
   rintro A_at u4 eA_at b_at hn4 zhn4
   refine Af (Pg.low ?_)
   refine Pg.asg ((KeepsFrom.refl _ _).bs hn4) (Kp.refl.bs hn4) ?_
   rintro w hn hz hrec
   have hK4:=(hK2.trans (hn4.mono (Nat.le_trans zB2 hK2.size))).nc hn (by omega) zB2
   have hKf4:=(hKf.bs hn4).nc (hn.mono hl2)
   have b_m:=(b_m.bs hn4).nc hn
   have b_k:=(b_k.bs hn4).nc hn
   have b_at:=b_at.nc hn
   have b_to:=b_to.bl hK4 (by omega)
   have b_s:=b_s.bl hK4 (by omega)
   have b_p:=b_p.bl hK4 (by omega)
   have b_g:=b_g.bl hK4 (by omega)
   have b_f:=b_f.bl hK4 (by omega)
   have hBw4:=hBw.trans (hK4.mono (by omega))
   have h_ty:=(h_t0.bs hBw4).2
   have h_fy:=(h_f0.bs hBw4).2
   clear hn4 hn hz
   have d1:(f.s.drop 1).getD 0 default=f.s.getD 1 default:=by simp
   have d2:(f.s.drop 1).getD 1 default=f.s.getD 2 default:=by simp
   have d3:(f.s.drop 1).getD 2 default=f.s.getD 3 default:=by simp
   have w1:=good_at ok.gf (k:=1) (by omega)
   have w2:=good_at ok.gf (k:=2) (by omega)
   have w3:=good_at ok.gf (k:=3) (by omega)
   have jc:0≤spc (f.s.drop 1) j∧spc (f.s.drop 1) j<f.s.getD 1 default:=by rw [← d1];exact spc_in ok.okf l_c (by have:=Shapes.size_le (f.s.drop 1);unfold wofN at hN;omega)
   have jy:0≤spy (f.s.drop 1) j∧spy (f.s.drop 1) j<64:=by
    have h1:=Int.emod_nonneg ((j:Int) / (f.s.drop 1).getD 2 default) (b:=(f.s.drop 1).getD 1 default) (by omega)
    have h2:=Int.emod_lt_of_pos ((j:Int) / (f.s.drop 1).getD 2 default) (b:=(f.s.drop 1).getD 1 default) (by omega)
    unfold spy;omega
   have jx:0≤spx (f.s.drop 1) j∧spx (f.s.drop 1) j<64:=by
    have h1:=Int.emod_nonneg (j:Int) (b:=(f.s.drop 1).getD 2 default) (by omega)
    have h2:=Int.emod_lt_of_pos (j:Int) (b:=(f.s.drop 1).getD 2 default) (by omega)
    unfold spx;omega
   have my:0≤spy S i*step∧spy S i*step≤64*8:=⟨Int.mul_nonneg yi.1 (by omega),Int.mul_le_mul (by omega) okst.2 (by omega) (by decide)⟩
   have mx:0≤spx S i*step∧spx S i*step≤64*8:=⟨Int.mul_nonneg xi2.1 (by omega),Int.mul_le_mul (by omega) okst.2 (by omega) (by decide)⟩
   have tl:(spc (f.s.drop 1) j+1)*(t.s.getD 1 default*t.s.getD 2 default)≤t.l.length:=by
    rw [ok.tl,ok.c]
    exact Int.mul_le_mul_of_nonneg_right (by omega) (Int.mul_nonneg (by omega) (by omega))
   obtain ⟨k,hk⟩:∃k:Nat,spc S i*(N:Int)+(pre2.length:Int)=(k:Int):=⟨_,(Int.toNat_of_nonneg (by omega)).symm⟩
   have hkl:k<f.l.length:=by
    have h1:(spc S i+1)*(N:Int)≤f.s.getD 0 default*(N:Int):=Int.mul_le_mul_of_nonneg_right (by have:=ok.o;omega) (by omega)
    have h2:=ok.fl
    rw [Int.add_mul,Int.one_mul] at h1
    omega
   have ek:(spc S i).toNat*N+j=k:=by
    have:((spc S i).toNat:Int)=spc S i:=Int.toNat_of_nonneg ci.1
    have h2:(((spc S i).toNat*N+j:Nat):Int)=(k:Int):=by push_cast;rw [this,hj];exact hk
    exact_mod_cast h2
   rw [hk] at b_k
   have eS:winS t.l f.l t.s S (f.s.drop 1) N step pad i pre2.length+pic t.l (t.s.getD 1 default) (t.s.getD 2 default) (spc (f.s.drop 1) j) (spy S i*step - pad+spy (f.s.drop 1) j) (spx S i*step - pad+spx (f.s.drop 1) j)*f.l.getD k default=winS t.l f.l t.s S (f.s.drop 1) N step pad i (pre2.length+1):=by
    rw [← ek,hj];rfl
   refine Cg.block<|Ci<|Cg.tail 30 mixed (by kernel_rfl) (by kernel_rfl)<|Qw.val (fun w1 hq=>Aj (ag_21 _) O (Blk.bs (by assumption) hq) O) O ?_
   refine Qw.val (fun w1 hq=>Aj (ag_226 _) O (Blk.bs (by assumption) hq) O) O ?_
   refine Qw.val (fun w1 hq=>Ag (q:=0) Tryz.underlying233 O (sz_3 _) O) O<|Qw.val (fun w1 hq=>Aj (ag_3 _) O (Blk.bs (by assumption) hq) O) O ?_
   refine Qw.val (fun w1 hq=>Ag (q:=0) Tryz.underlying233 O (sz_3 _) O) O<|Qw.val (fun w1 hq=>Aj (ag_3 _) O (Blk.bs (by assumption) hq) O) O ?_
   refine Qw.val (fun w1 hq=>Aj (ag_3 _) O (Blk.bs (by assumption) hq) O) O ?_
   refine Qw.val (fun w1 hq=>Ca O O (by omega)) O<|Qw.val (fun w1 hq=>Aj (ag_3 _) O (Blk.bs (by assumption) hq) O) O ?_
   refine Qw.val (fun w1 hq=>Cx O O (by omega)) O<|Qw.val (fun w1 hq=>Ag (q:=0) Tryz.underlying233 O (sz_3 _) O) O<|Qw.val (fun w1 hq=>Aj (ag_3 _) O (Blk.bs (by assumption) hq) O) O ?_
   refine Qw.val (fun w1 hq=>Bc O O (by omega)) O<|Qw.val (fun w1 hq=>Ag (q:=0) Tryz.underlying233 O (sz_3 _) O) O<|Qw.val (fun w1 hq=>Aj (ag_3 _) O (Blk.bs (by assumption) hq) O) O ?_
   refine Qw.val (fun w1 hq=>Aj (ag_3 _) O (Blk.bs (by assumption) hq) O) O ?_
   refine Qw.val (fun w1 hq=>Ca O O (by omega)) O<|Qw.val (fun w1 hq=>Aj (ag_3 _) O (Blk.bs (by assumption) hq) O) O ?_
   refine Qw.val (fun w1 hq=>Cx O O (by omega)) O<|Qw.val (fun w1 hq=>Ag (q:=0) Tryz.underlying233 O (sz_3 _) O) O<|Qw.val (fun w1 hq=>Aj (ag_3 _) O (Blk.bs (by assumption) hq) O) O ?_
   refine Qw.val (fun w1 hq=>Bc O O (by omega)) O<|Qw.callV (p:=[picV t]) (q:=[]) O O O (fun w1 hq=>(wat_c t (spc (f.s.drop 1) j) (spy S i*step - pad+spy (f.s.drop 1) j) (spx S i*step - pad+spx (f.s.drop 1) j) w1 (Sl.bs h_ty hq) (by omega) (by omega) (by omega) (by omega) (by omega) tl).q hq)<|Qw.val (fun w1 hq=>Ag (q:=0) Tryz.underlying33 O (sz_31 _) O) O<|Qw.val (fun w1 hq=>Aj (ag_31 _) O (Blk.bs (by assumption) hq) O) O ?_
   refine Qw.val (fun w1 hq=>Aj (ag_3 _) O (Blk.bs (by assumption) hq) O) O ?_
   refine Qw.val (fun w1 hq=>Ba st_31 O O (Sl.bs h_fy hq) k O hkl) O<|Qw.val (fun w1 hq=>Bg (ag_21 _) O (Sl.bs (by assumption) hq) (by omega)) O ?_
   refine Qw.val (fun w1 hq=>Ex.muli32 O O) O<|Qw.val (fun w1 hq=>Cy O O) O ?_
   refine Cj (fun w5 hq=> ?_)
   replace b_m:=b_m.bs hq
   replace b_k:=b_k.bs hq
   have hK5:=hK4.trans (hq.mono (Nat.le_trans zB2 hK4.size))
   refine Ay (Co (u:=i32 (winS t.l f.l t.s S (f.s.drop 1) N step pad i (pre2.length+1))) (sz_21 _) O (congrArg (fun z=>some (i32 z)) eS) O b_m Nat.zero_lt_one) ?_
   rintro w6 ⟨b_m6,hg, -⟩
   have b_k:=b_k.by hg (fun e=>blk_ne b_k b_m (by decide) (Option.some.inj e))
   have hK6:=hK5.grown hg (Nat.le_trans zB2 hK5.size) (by rintro _ ⟨⟩;omega)
   refine Af (Pg.low ?_)
   refine B4 (Cg.out ?_)
   refine B6 (by kernel_rfl)<|Lw.val (Aj (ag_3 _) O (by assumption) O) O ?_
   refine Lw.val (Bc O O (by omega)) O<|Ay (Co (u:= .int .i64 (spc S i*(N:Int)+((pre2.length+1:Nat):Int))) (sz_3 _) O (congrArg (fun z=>some (Value.int .i64 z)) (by omega)) O b_k Nat.zero_lt_one) ?_
   rintro w7 ⟨b_k7,hg7, -⟩
   have b_m7:Blk w6 A_m 21 _:=b_m6
   have b_m7:=b_m7.by hg7 (fun e=>blk_ne b_m7 b_k (by decide) (Option.some.inj e))
   have hK7:=hK6.grown hg7 (Nat.le_trans zB2 hK6.size) (by rintro _ ⟨⟩;omega)
   have el:(pre2++[j]).length=pre2.length+1:=by simp
   refine Af (Pg.low ?_)
   refine Pg.blkN ?_
   exact Pg.rnd ((((KeepsFrom.refl _ _).bs hq).blk b_m hg).blk b_k hg7) (((Kp.refl.bs hq).grown hg (fun b e h=>by cases e;exact nj1 h)).grown hg7 (fun b e h=>by cases e;exact nj2 h)) (⟨by rw [el];exact b_m7,by rw [el];exact b_k7,hK7,((hKf4.bs hq).blk b_m hg).blk b_k hg7⟩)
  rintro v ⟨b_m,b_k,hK2,hKf⟩
  have eN:(List.range (Shapes.size (f.s.drop 1)).toNat).length=N:=by rw [List.length_range];exact hN.symm
  rw [eN] at b_m
  rw [show winS t.l f.l t.s S (f.s.drop 1) N step pad i N=wofF t f step pad i by unfold wofF;rw [← hN,← hS]] at b_m
  clear b_k
  have b_o:=b_o.bl hK2 (by omega)
  have b_g:=b_g.bl hK2 (by omega)
  have b_n:=b_n.bl hK2 (by omega)
  have b_i:=b_i.bl hK2 (by omega)
  have ho:=own_heap ho (fun k e=>hK2.block k (hob k e).2)
  have hN1:Below B2 w v:=((hB2 ▸ hn2).trans (hn3.mono (by have:=hn2.size;omega))).trans hK2
  have zv:=hN1.size
  have lM:pre.length<4096:=by omega
  refine Pg.blkN ?_
  refine B4 (Cg.out ?_)
  refine B6 (by kernel_rfl)<|Lw.val (Aj (ag_31 _) O (by assumption) O) O ?_
  refine Lw.val (Aj (ag_21 _) O (by assumption) O) O ?_
  refine Bl (Cp (vs:=[wofF t f step pad i].map i32) st_31 it_21 O O O O O) O ?_
  rintro z w5 ⟨hz, -,hn5, -⟩
  have b_o:=b_o.bs hn5
  have b_g:=b_g.bs hn5
  have b_n:=b_n.bs hn5
  have b_i:=b_i.bs hn5
  have ho:=own_bs ho hn5
  have z5:=hn5.size
  refine Bl (Cq (base:=B1) st_31 it_21 O (by decide) O O ho (own_sl hz) (one_map (fun _=>rfl) _) (by omega) (by omega) (by omega)) O ?_
  rintro ov2 w6 ⟨ho6,hb6,hg6⟩
  rw [← List.map_append,← List.map_singleton (f:=wofF t f step pad),← List.map_append] at ho6
  have hne:∀{A T:Nat} {cs:List Value},Blk w5 A T cs→21≠T→some A≠ov.ownBlock:=fun h e=>blk_own_ne ho h e
  have b_o6:=b_o.by hg6 (hne b_o (by decide))
  have b_g:=b_g.by hg6 (hne b_g (by decide))
  have b_n:=b_n.by hg6 (hne b_n (by decide))
  have b_i6:=b_i.by hg6 (hne b_i (by decide))
  have hK6:Below B1 w0 w6:=((hK.trans (hN1.mono (by omega))).trans (hn5.mono (by omega))).trans hb6
  refine Ay (Co (u:=ov2) (sz_31 _) O O (own_sl ho6).one' b_o6 Nat.zero_lt_one) ?_
  rintro w7 ⟨b_o7,hg7, -⟩
  have ho7:=own_apart ho6 b_o6 (by decide) hg7
  have b_g:=b_g.by hg7 (fun e=>blk_ne b_g b_o6 (by decide) (Option.some.inj e))
  have b_n:=b_n.by hg7 (fun e=>blk_ne b_n b_o6 (by decide) (Option.some.inj e))
  have b_i7:=b_i6.by hg7 (fun e=>blk_ne b_i6 b_o6 (by decide) (Option.some.inj e))
  have hK7:=hK6.grown hg7 (Nat.le_trans zB1 hK6.size) (by rintro _ ⟨⟩;omega)
  have el:(pre++[i]).length=pre.length+1:=by simp
  refine Af (Pg.low ?_)
  refine Pg.blkN ?_
  exact Pg.rnd ((((((((KeepsFrom.refl _ _).bs hn2).bs hn3).trans hKf).bs hn5).own ho hg6).blk b_o6 hg7)) (((((Kp.refl.below hN1 (fun b h=>h.elim (fun h=>by omega) (fun h=>by have:=hxl b h;omega))).bs hn5).grown hg6 (fun b e h=>h.elim (fun h=>hne b_i (by decide) (by rw [← h,e])) (fun h=>by have:=hxl b h;have:=hob b e;omega))).grown hg7 (fun b e h=>by cases e;exact h.elim (fun h=>blk_ne b_i6 b_o6 (by decide) h.symm) (fun h=>by have:=hxl A_o h;omega)))) (⟨⟨ov2,b_o7,by rw [el];exact ho7⟩,b_g,b_n,b_i7,hK7⟩)
 rintro d w hd ⟨⟨ov,b_o,ho⟩,b_g,b_n,b_i,hK⟩ hD
 have eM:(List.range (Shapes.size S).toNat).length=M:=by rw [List.length_range];exact hM.symm
 have hx:=own_heap hx (fun k e=>hK.block k (by have:=hxl k e;omega))
 have b_r:=b_r.bl hK (by omega)
 have hB:=hB.trans (hK.mono (by omega))
 have zK:=hK.size
 have eL:(List.range (Shapes.size S).toNat).map (wofF t f step pad)=wofL t f step pad:=by unfold wofL;rw [← hS]
 rw [eL] at ho
 rw [List.length_range] at ho
 have lL:(wofL t f step pad).length=(Shapes.size S).toNat:=by rw [← eL];simp
 rw [← lL] at ho
 have hox:=own_block ho
 refine Pg.blkN ?_
 refine B4 (Cg.out ?_)
 refine Ci<|B6 (by kernel_rfl)<|Lw.val (Ad O) O<|Lw.val (Aj (ag_31 _) O (by assumption) O) O ?_
 refine Lw.val (Bn (vs:=[(0,x),(1,ov)]) (cs:=[x,ov]) O (bt_ten _ _ (own_slT hx).one (own_slT ho).one)) O<|Ay (Bp (cs:=[x,ov]) O O O O (by simp [(own_slT hx).one',(own_slT ho).one']) b_r O) ?_
 rintro w4 ⟨b_r4,hg,hz4⟩
 have hD:=(hg.block d (Array.getElem?_eq_some_iff.1 hD).1 (by intro e;cases e;omega)).trans hD
 have hB:=hB.grown hg (by omega) (by rintro _ ⟨⟩;omega)
 have ho:=own_heap ho (fun k e=>hg.block k (own_block ho k e).2 (by intro e2;have:=hox k e;cases e2;omega))
 have hx:=own_heap hx (fun k e=>hg.block k (own_block hx k e).2 (by intro e2;cases e2;have:=own_block hx _ e;omega))
 have zB:=below_size hB
 refine Lw.val (Ac O) O ?_
 refine Af (Pg.low ?_)
 refine B4 (Cg.out ?_)
 refine Cg.ret ?_
 refine Pg.close (hD) (fun w hn _=> ?_)
 have b_r:=b_r4.nc hn
 have ho:=own_nc ho hn
 have hx:=own_nc hx hn
 have hB:=hB.nc hn (by omega) (Nat.le_refl _)
 refine Bf O O O (by assumption) (Tryz.underlying33) O O O ?_
 exact ⟨hB,x,ov,rfl,fun h=>absurd rfl h,fun _=>⟨.inl (own_mono hx (by omega)),own_mono ho (by omega),fun k e1 e2=>by have:=hox k e1;have:=hxl k e2;omega⟩⟩
theorem wof_c (t f:T4) (step pad:Int) (W:World) (h_t:t.at W) (h_f:f.at W):Fnc Tryz.prog 130 [t.v,f.v, .int .i64 step, .int .i64 pad] W (fun r w' =>Below W.heap.size W w' ∧Gets W w' r (wofE t f step pad) (wshS t.s f.s step pad) (wofL t f step pad)):=
 (wof0_c t f step pad W h_t h_f).mono fun _ _ ⟨h1,h2⟩=>⟨h1,h2.gets⟩
end Go.Proofs.YtmipoeanpnnjoaaGreatDoor

/-! Contract: the greatest of squares. -/
namespace Go.Proofs.YtmipoeanpnnjoaaGreatDoor
open Go Go.Dd Go.RowKit
set_option maxRecDepth 100000

def wpoE (t:T4) (wide:Int):Int:=if tok t.s t.l then poolE t.s wide else 1
def wpoL (t:T4) (wide:Int):List (BitVec 32):=pooL t.l t.s (pshS t.s wide) wide.toNat
structure PoolOK (t:T4) (wide:Int):Prop where
 lt:t.s.length=3
 w:1≤wide∧wide≤64
 w1:wide≤t.s.getD 1 default
 w2:wide≤t.s.getD 2 default
 gt:Shapes.good t.s
 tl:(t.l.length:Int)=t.s.getD 0 default*(t.s.getD 1 default*t.s.getD 2 default)
 ok:Shapes.ok (pshS t.s wide)=true
 s1:slid (t.s.getD 1 default) wide wide=t.s.getD 1 default / wide
 s2:slid (t.s.getD 2 default) wide wide=t.s.getD 2 default / wide
theorem slid_same {r w:Int} (h1:1≤w) (h2:w≤r):slid r w w=r / w∧1≤r / w∧r / w≤r∧r / w*w≤r:=by
 have e:(r - w) / w=r / w - 1:=by
  have:=Int.add_mul_ediv_right (r - w) 1 (show w≠0 by omega)
  rw [Int.one_mul,Int.sub_add_cancel] at this
  omega
 have e2:slid r w w=r / w:=by unfold slid;rw [if_neg (by omega),e];omega
 have e3:=Int.ediv_nonneg (show 0≤r - w by omega) (show 0≤w by omega)
 exact ⟨e2,by omega,Int.ediv_le_self _ (by omega),Int.ediv_mul_le _ (by omega)⟩
theorem pool_ok {t:T4} {wide:Int} (ht:tok t.s t.l=true) (e:poolE t.s wide=0):PoolOK t wide:=by
 obtain ⟨t1,t2⟩:=tok_ok ht
 have T:=(Shapes.ok_iff t.s).1 t1
 have hA:pshA t.s wide=false:=by cases h:pshA t.s wide<;>simp [poolE,h] at e ⊢
 have hb:pshB t.s wide=true:=by cases h:pshB t.s wide<;>simp [poolE,hA,h] at e ⊢
 simp only [pshB,Bool.and_eq_true,decide_eq_true_eq] at hb
 obtain ⟨⟨lt,b1⟩,b2⟩:=hb
 simp only [pshA,Bool.or_eq_false_iff,decide_eq_false_iff_not] at hA
 obtain ⟨⟨-,a1⟩,a2⟩:=hA
 have g0:=good_at T.2.1 (k:=0) (by omega)
 have g1:=good_at T.2.1 (k:=1) (by omega)
 have g2:=good_at T.2.1 (k:=2) (by omega)
 obtain ⟨c1,c2,c3, -⟩:=slid_same (r:=t.s.getD 1 default) (w:=wide) (by omega) b1
 obtain ⟨d1,d2,d3, -⟩:=slid_same (r:=t.s.getD 2 default) (w:=wide) (by omega) b2
 have p3:=prod3 lt
 have hl:(pshS t.s wide).length=3:=rfl
 have ps:Shapes.prod (pshS t.s wide)=t.s.getD 0 default*(t.s.getD 1 default / wide*(t.s.getD 2 default / wide)):=by
  rw [prod3 hl]
  show t.s.getD 0 default*(slid (t.s.getD 1 default) wide wide*slid (t.s.getD 2 default) wide wide)=_
  rw [c1,d1]
 have q1:t.s.getD 1 default / wide*(t.s.getD 2 default / wide)≤t.s.getD 1 default*t.s.getD 2 default:=Int.mul_le_mul c3 d3 (by omega) (by omega)
 have q2:t.s.getD 0 default*(t.s.getD 1 default / wide*(t.s.getD 2 default / wide))≤t.s.getD 0 default*(t.s.getD 1 default*t.s.getD 2 default):=Int.mul_le_mul_of_nonneg_left q1 (by omega)
 refine ⟨lt,by omega,b1,b2,T.2.1, ?_,(Shapes.ok_iff _).2 ⟨by rw [hl];omega, ?_,by rw [ps];omega⟩,c1,d1⟩
 ·have:=Shapes.size_ok t1
  rw [← p3];have:=Shapes.size_le t.s;omega
 ·intro y hy
  simp only [pshS,List.mem_cons,List.not_mem_nil,or_false] at hy
  rw [c1,d1] at hy
  rcases hy with rfl|rfl|rfl<;>omega
set_option maxHeartbeats 2000000 in
theorem wpo0_c (t:T4) (wide:Int) (W:World) (h_t:t.at W):
  Fnc Tryz.prog 122 [t.v, .int .i64 wide] W (fun r w' =>Below W.heap.size W w' ∧AnsW W w' r (wpoE t wide) (pshS t.s wide) (wpoL t wide)):=by
 have hB:=Below.refl W.heap.size W
 have h_t0:=h_t
 refine Fnc.enterG (n:=85) Tryz.func122 (by kernel_rfl) O O O<|Ci<|B6 (by kernel_rfl)<|Bv (cs:=[t.x,t.y]) O O O ?_
 rintro A_t w eA_t b_t hn -
 replace hB:=hB.bs hn
 replace h_t:=h_t.bs hn
 clear hn
 refine Bv (cs:=[.int .i64 wide]) O O O ?_
 rintro A_s w eA_s b_s hn -
 replace hB:=hB.bs hn
 replace h_t:=h_t.bs hn
 replace b_t:=b_t.bs hn
 clear hn
 have z0:=below_size hB
 refine B8 it_33 O ?_
 rintro A_r w eA_r b_r hn -
 replace hB:=hB.bs hn
 replace h_t:=h_t.bs hn
 replace b_t:=b_t.bs hn
 replace b_s:=b_s.bs hn
 clear hn
 refine Lw.val (Ac O) O ?_
 refine Af (Pg.low ?_)
 refine B4 (Cg.out ?_)
 refine Ci<|Ci<|B6 (by kernel_rfl)<|Lw.val (Bw (ag_33 _) (sz_33 _) O O (by assumption)) O ?_
 have z_r:=blk_lt b_r
 refine Al O O (tcheck_c t.x t.y t.s t.l _ h_t.1 h_t.2) ?_
 rintro _ w ⟨rfl,hn⟩
 replace hB:=hB.bs hn
 replace h_t:=h_t.bs hn
 replace b_t:=b_t.bs hn
 replace b_s:=b_s.bs hn
 replace b_r:=b_r.bs hn
 clear hn
 refine Lw.val (Bx O) O ?_
 refine Af (Pg.low ?_)
 refine B4 (Cg.out ?_)
 refine Cg.cond O ?_ ?_
 ·intro g
  refine Ci<|B6 (by kernel_rfl)<|Lw.val (Bn (vs:=[]) (cs:=[.slice none 0 0, .slice none 0 0]) O (by kernel_rfl)) O<|Ay (Bp (cs:=[.slice none 0 0, .slice none 0 0]) O O O O O b_r O) ?_
  rintro w3 ⟨b_r,hg, -⟩
  have hB:=hB.grown hg (below_size hB) (by rintro _ ⟨⟩;omega)
  refine Lw.val (Ac O) O ?_
  refine Af (Pg.low ?_)
  refine B4 (Cg.out ?_)
  refine Cg.ret<|Pg.thenR<|Pg.close0<|Bf O O O (by assumption) (Tryz.underlying33) O O O ?_
  rw [show wpoE t wide=1 by simp_all [wpoE]]
  exact ⟨hB,ansW_no (by decide)⟩
 intro g1
 have k_t:tok t.s t.l=true:=by simpa using g1
 have hE:wpoE t wide=poolE t.s wide:=by rw [wpoE,k_t];rfl
 clear g1
 rw [hE]
 have h_t1:=h_t.1
 have zr0:=blk_lt b_r
 have zrB:=below_size hB
 refine Cg.skip ?_
 refine B4 (Cg.out ?_)
 refine Ci<|B6 (by kernel_rfl)<|Lw.val (Ag (q:=0) Tryz.underlying33 O (sz_23 _) O) O<|Lw.val (Aj (ag_23 _) O (by assumption) O) O ?_
 refine Lw.val (Aj (ag_3 _) O (by assumption) O) O ?_
 refine Al O O (wpshape_c t.s wide t.x _ h_t.1) ?_
 rintro _ w1 ⟨hn,x,m',rfl,hx,hno,hyes⟩
 replace hB:=hB.bs hn
 replace h_t:=h_t.bs hn
 replace b_t:=b_t.bs hn
 replace b_s:=b_s.bs hn
 replace b_r:=b_r.bs hn
 clear hn
 refine Lw.val (Ad O) O<|Lw.val (Ax (i:=0) O O) O<|Lw.val (Ax (i:=1) O O) O<|Lw.val (Ac O) O<|Lw.val (Ac O) O ?_
 refine Af (Pg.low ?_)
 refine B4 (Cg.out ?_)
 refine Ci<|Ci<|B6 (by kernel_rfl)<|Lw.val (Ad O) O<|Lw.val (B7 O O) O ?_
 refine Af (Pg.low ?_)
 refine B4 (Cg.out ?_)
 refine Cg.cond O ?_ ?_
 ·intro g
  have g:poolE t.s wide≠0:=by simpa using g
  refine Ci<|B6 (by kernel_rfl)<|Lw.val (Bn (vs:=[]) (cs:=[.slice none 0 0, .slice none 0 0]) O (by kernel_rfl)) O<|Lw.val (Ad O) O<|Ay (Bp (cs:=[.slice none 0 0, .slice none 0 0]) O O O O O b_r O) ?_
  rintro w3 ⟨b_r,hg, -⟩
  have hB:=hB.grown hg (below_size hB) (by rintro _ ⟨⟩;omega)
  refine Lw.val (Ac O) O ?_
  refine Af (Pg.low ?_)
  refine B4 (Cg.out ?_)
  refine Cg.ret<|Pg.thenR<|Pg.close0<|Bf O O O (by assumption) (Tryz.underlying33) O O O ?_
  exact ⟨hB,ansW_no g⟩
 intro g
 have e0:poolE t.s wide=0:=by simpa using g
 clear g
 rw [e0]
 have hm:=hyes e0
 have ok:=pool_ok k_t e0
 clear hno hyes e0 hE
 obtain ⟨m,rfl⟩:∃m:Nat,wide=(m:Int):=⟨wide.toNat,by have:=ok.w;omega⟩
 obtain ⟨S,hS⟩:∃S,S=pshS t.s (m:Int):=⟨_,rfl⟩
 have lS:S.length=3:=by rw [hS];rfl
 have S0:S.getD 0 default=t.s.getD 0 default:=by rw [hS];rfl
 have okS:Shapes.ok S=true:=by rw [hS];exact ok.ok
 have gS:=((Shapes.ok_iff _).1 okS).2.1
 rw [hm,← hS] at hx
 rw [← hS]
 clear hm
 have szS:=Shapes.size_le S
 obtain ⟨M,hM⟩:∃M,M=(Shapes.size S).toNat:=⟨_,rfl⟩
 have l3:=ok.lt
 have okw:=ok.w
 refine Cg.skip ?_
 refine B4 (Cg.out ?_)
 refine Ci ?_
 have zW:=below_size hB
 obtain ⟨B1,hB1⟩:∃B1,B1=w1.heap.size:=⟨_,rfl⟩
 have hxl:=own_block hx
 have q_t:A_t<B1:=hB1 ▸ blk_lt b_t
 have q_s:A_s<B1:=hB1 ▸ blk_lt b_s
 have q_r:A_r<B1:=hB1 ▸ blk_lt b_r
 refine Cg.midS (St:=Value×Nat×Nat) (fun z=>[(2, .pointer (some ⟨A_t,0,none⟩)),(3, .pointer (some ⟨A_s,0,none⟩)),(4, .pointer (some ⟨A_r,0,none⟩)),(6,x),(8, .pointer (some ⟨z.2.1,0,none⟩)),(9, .pointer (some ⟨z.2.2,0,none⟩))]) (fun z w' =>Below w1.heap.size w1 w' ∧w'.ownsRow B1 21 1 z.1 0 []∧B1≤z.2.1∧Blk w' z.2.1 31 [z.1]∧B1≤z.2.2∧Blk w' z.2.2 226 [.func (.func 214) #[picV t] #[]]) ?_ ?_
 ·refine Cg.any mixed (by kernel_rfl) (fun w hcw _=> ?_)
  have b_t9:=b_t.bs hcw
  have h_t9:=h_t.bs hcw
  have hx9:=(own_slT hx).bs hcw
  have zc:=hcw.size
  refine Aw.boxes ([.val, .val, .val, .val, .val, .val, .alloc 31 [.slice none 0 0], .alloc 226 [.nilFunc], .st 6 2, .st 7 5]) ([31,226]) (winPh B1 x (M:Int) t (.func (.func 214) #[picV t] #[])) (by kernel_rfl) (by kernel_rfl) (fun i v w w' h g=>winPh_bs h g) (fun i v w w' A T cs h hb _ hT g=>winPh_by h hb hT g) ?_ ?_
  ·refine AllOps.cons (fun s w' hB0 hd=>⟨fun j g h=>(by cases h), ?_⟩) ?_
   ·exact Ow.val (Ad rfl) ⟨Below.refl _ _,rfl⟩
   refine AllOps.cons (fun s w' hB0 hd=>⟨fun j g h=>(by cases h), ?_⟩) ?_
   ·have e0:s 0=x:=hd 0 (by decide) rfl
    refine Ow.call (Xc.mk (vs:=[x]) (size_c x S w' (hx9.bs hB0)).1 (by show some [s 0]=_;rw [e0])) (size_c x S w' (hx9.bs hB0)) (fun v w2 ⟨e,hn⟩=>⟨hn, ?_⟩)
    rw [e];exact congrArg (Value.int .i64) (by omega)
   refine AllOps.cons (fun s w' hB0 hd=>⟨fun j g h=>(by cases h), ?_⟩) ?_
   ·have e1:s 1= .int .i64 (M:Int):=hd 1 (by decide) rfl
    refine Ow.mk (C2 (l:=0) (c:=M) st_31 it_21 O O (congrArg some e1) (Nat.zero_le _) (by omega) (by omega)) (fun v w2 ⟨ho,_,hn,_⟩=>⟨hn, ?_⟩)
    exact own_mono (B' :=B1) ho (by have:=hB0.size;omega)
   refine AllOps.cons (fun s w' hB0 hd=>⟨fun j g h=>(by cases h), ?_⟩) ?_
   ·exact Ow.val (Bw (k:=2) (ag_33 _) (sz_33 _) rfl rfl (b_t9.bs hB0)) ⟨Below.refl _ _,rfl⟩
   refine AllOps.cons (fun s w' hB0 hd=>⟨fun j g h=>(by cases h), ?_⟩) ?_
   ·have e3:s 3=t.v:=hd 3 (by decide) rfl
    exact Ow.call (Xc.mk (vs:=[t.v]) (pof_c t w' (h_t9.bs hB0) (by omega)).1 (by show some [s 3]=_;rw [e3])) (pof_c t w' (h_t9.bs hB0) (by omega)) (fun v w2 ⟨e,hn⟩=>⟨hn,e⟩)
   refine AllOps.cons (fun s w' hB0 hd=>⟨fun j g h=>(by cases h), ?_⟩) ?_
   ·have e4:s 4=picV t:=hd 4 (by decide) rfl
    exact Ow.val (C7 (vs:=[picV t]) (us:=[]) (by show some [s 4]=_;rw [e4]) rfl) ⟨Below.refl _ _,rfl⟩
   refine AllOps.cons (fun s w' hB0 hd=>⟨fun j g h=>(by cases h),Ow.alloc it_31⟩) ?_
   refine AllOps.cons (fun s w' hB0 hd=>⟨fun j g h=>(by cases h),Ow.alloc it_226⟩) ?_
   refine AllOps.cons (fun s w' hB0 hd=>⟨fun j g h=>(by cases h),fun A hA _ hb hP=> ?_⟩) ?_
   ·have ho:w'.ownsRow B1 21 1 (s 2) 0 []:=hP
    have h1:=(own_sl ho).one
    exact Ow.unit (Co (u:=s 2) (sz_31 _) (congrArg some hA) rfl (own_sl ho).one' hb Nat.zero_lt_one) (fun w2 h=>⟨by rw [h1];exact h.1,h.2.1⟩)
   refine AllOps.cons (fun s w' hB0 hd=>⟨fun j g h=>(by cases h),fun A hA _ hb hP=> ?_⟩) ?_
   ·have e5:s 5= .func (.func 214) #[picV t] #[]:=hP
    exact Ow.unit (Co (u:=s 5) (sz_226 _) (congrArg some hA) rfl (by rw [e5];rfl) hb Nat.zero_lt_one) (fun w2 h=>⟨by rw [e5];rw [e5] at h;exact h.1,h.2.1⟩)
   exact AllOps.nil
  intro s w' hB0 hall hbox _
  obtain ⟨A_o,hAo,l_o,b_o⟩:=box_at hbox 6 8 (by decide) rfl (by decide) rfl
  obtain ⟨A_g,hAg,l_g,b_g⟩:=box_at hbox 7 9 (by decide) rfl (by decide) rfl
  have ho:w'.ownsRow B1 21 1 (s 2) 0 []:=hall 2 (by decide) rfl
  have e5:s 5= .func (.func 214) #[picV t] #[]:=hall 5 (by decide) rfl
  have h2:(kdAt [.val, .val, .val, .val, .val, .val, .alloc 31 [.slice none 0 0], .alloc 226 [.nilFunc], .st 6 2, .st 7 5] 8).cells s=[s 2]:=by show (s 2).cells.toList=_;rw [(own_sl ho).one]
  have h5:(kdAt [.val, .val, .val, .val, .val, .val, .alloc 31 [.slice none 0 0], .alloc 226 [.nilFunc], .st 6 2, .st 7 5] 9).cells s=[.func (.func 214) #[picV t] #[]]:=by show (s 5).cells.toList=_;rw [e5];rfl
  rw [h2] at b_o
  rw [h5] at b_g
  have hcw:=hcw.trans (hB0.mono hcw.size)
  refine Pg.low ?_

  exact Pg.midS ((s 2,A_o,A_g)) ⟨rfl,rfl,rfl,rfl,congrArg some hAo,congrArg some hAg,trivial⟩ (⟨hcw,ho,by show B1≤A_o;omega,b_o,by show B1≤A_g;omega,b_g⟩)
 rintro ⟨ov,A_o,A_g⟩ w ⟨hn,ho,l_o,b_o,l_g,b_g⟩
 dsimp only at ho l_o b_o l_g b_g ⊢
 refine Cg.out ?_
 replace hB:=hB.bs hn
 replace h_t:=h_t.bs hn
 replace b_t:=b_t.bs hn
 replace b_s:=b_s.bs hn
 replace b_r:=b_r.bs hn
 replace hx:=hx.bs hn
 clear hn
 have g0:=good_at gS (k:=0) (by omega)
 have g1:=good_at gS (k:=1) (by omega)
 have g2:=good_at gS (k:=2) (by omega)
 have t0:=good_at ok.gt (k:=0) (by omega)
 have t1:=good_at ok.gt (k:=1) (by omega)
 have t2:=good_at ok.gt (k:=2) (by omega)
 have mm:1*1≤(m:Int)*(m:Int):=Int.mul_le_mul okw.1 okw.1 (by decide) (by omega)
 have mm2:(m:Int)*(m:Int)≤64*64:=Int.mul_le_mul okw.2 okw.2 (by omega) (by decide)
 refine Ci<|Ci<|B6 (by kernel_rfl)<|Lw.val (Ad O) O<|Al O O (spots_c x S _ (own_slT hx)) ?_
 rintro _ w ⟨A_i,rfl,b_i,eA_i,hn⟩
 replace hB:=hB.bs hn
 replace h_t:=h_t.bs hn
 replace b_t:=b_t.bs hn
 replace b_s:=b_s.bs hn
 replace b_r:=b_r.bs hn
 replace hx:=hx.bs hn
 replace ho:=ho.bs hn
 replace b_o:=b_o.bs hn
 replace b_g:=b_g.bs hn
 clear hn
 refine Af (Pg.low ?_)
 refine B4 (Cg.out ?_)
 refine Cg.block ?_
 rename World=>w0
 have zB1:B1≤w0.heap.size:=by have:=blk_lt b_o;omega
 have zi:=blk_lt b_i
 have zW0:=below_size hB
 have hxb:=own_block hx
 refine Cg.range O (spots_sq A_i x S w0 b_i (own_slT hx) okS lS) (fun b hb=>hb.elim (fun e=>by rw [e];exact zi) (fun e=>(hxb b e).2)) (fun _=>rfl) (by kernel_rfl) (fun (pre:List (Nat)) w' =>(∃ov,Blk w' A_o 31 [ov]∧w'.ownsRow B1 21 1 ov pre.length ((pre.map (pooV t.l t.s S m)).map i32))∧Blk w' A_g 226 [.func (.func 214) #[picV t] #[]]∧Blk w' A_i 23 [x]∧Below B1 w0 w') (by rintro _ ⟨⟩) ?_ ?_ ?_ ?_ ?_
 ·exact ⟨⟨ov,b_o,ho⟩,b_g,b_i,Below.refl _ _⟩
 ·rintro pre A A' ⟨⟨ov,h1,h2⟩,h3,h6,h5⟩ hc
  exact ⟨⟨ov,h1.nc hc,own_nc h2 hc⟩,h3.nc hc,h6.nc hc,h5.nc hc zB1 zB1⟩
 ·rintro pre A A' ⟨⟨ov,h1,h2⟩,h3,h6,h5⟩ hc
  have hc:=itr_none hc
  exact ⟨⟨ov,h1.bs hc,own_bs h2 hc⟩,h3.bs hc,h6.bs hc,h5.trans (hc.mono (Nat.le_trans zB1 h5.size))⟩
 ·rintro lp pre i u hl ⟨⟨ov,b_o,ho⟩,b_g,b_i,hK⟩ hpre hrec
  obtain ⟨hi,hiM, -⟩:=range_pre hpre
  refine B6 (by kernel_rfl)<|Cb (cs:=[.int .i64 (spc S i), .int .i64 (spy S i), .int .i64 (spx S i)]) it_233 O O O O (fun _=>rfl) (rfl) ?_
  rintro A_to u1 eA_to b_to hn1 zhn1
  refine Af (Pg.low ?_)
  refine Pg.asg ((KeepsFrom.refl _ _).bs hn1) (Kp.refl.bs hn1) ?_
  rintro w hn hz hrec
  have zu:=blk_lt b_o
  have hK1:=hK.trans (hn1.mono (by omega))
  have hK:=hK1.nc hn (by omega) zB1
  have ho:=own_nc (own_bs ho hn1) hn
  have b_o:=(b_o.bs hn1).nc hn
  have b_g:=(b_g.bs hn1).nc hn
  have b_i:=(b_i.bs hn1).nc hn
  have b_to:=b_to.nc hn
  clear hK1 hn1 zu hn hz
  have b_s:=b_s.bl hK (by omega)
  have hBw:=hB.trans (hK.mono (by omega))
  have zK:=hK.size
  have ci:0≤spc S i∧spc S i<S.getD 0 default:=spc_in okS lS (by omega)
  have yi:0≤spy S i∧spy S i<S.getD 1 default:=⟨Int.emod_nonneg _ (by omega),Int.emod_lt_of_pos _ (by omega)⟩
  have xi2:0≤spx S i∧spx S i<S.getD 2 default:=⟨Int.emod_nonneg _ (by omega),Int.emod_lt_of_pos _ (by omega)⟩
  have my:0≤spy S i*(m:Int)∧spy S i*(m:Int)≤64*64:=⟨Int.mul_nonneg yi.1 (by omega),Int.mul_le_mul (by omega) okw.2 (by omega) (by decide)⟩
  have mx' :0≤spx S i*(m:Int)∧spx S i*(m:Int)≤64*64:=⟨Int.mul_nonneg xi2.1 (by omega),Int.mul_le_mul (by omega) okw.2 (by omega) (by decide)⟩
  have tl:(spc S i+1)*(t.s.getD 1 default*t.s.getD 2 default)≤t.l.length:=by
   rw [ok.tl]
   exact Int.mul_le_mul_of_nonneg_right (by omega) (Int.mul_nonneg (by omega) (by omega))
  have h_ty:=(h_t0.bs hBw).2
  have hob:∀b,ov.ownBlock=some b→B1≤b∧b<w.heap.size:=fun b e=>own_block ho b e
  refine Cg.block<|Ci<|B6 (by kernel_rfl)<|Lw.val (Aj (ag_226 _) O (by assumption) O) O ?_
  refine Lw.val (Ag (q:=0) Tryz.underlying233 O (sz_3 _) O) O<|Lw.val (Aj (ag_3 _) O (by assumption) O) O ?_
  refine Lw.val (Ag (q:=0) Tryz.underlying233 O (sz_3 _) O) O<|Lw.val (Aj (ag_3 _) O (by assumption) O) O ?_
  refine Lw.val (Aj (ag_3 _) O (by assumption) O) O ?_
  refine Lw.val (Ca O O (by omega)) O<|Lw.val (Ag (q:=0) Tryz.underlying233 O (sz_3 _) O) O<|Lw.val (Aj (ag_3 _) O (by assumption) O) O ?_
  refine Lw.val (Aj (ag_3 _) O (by assumption) O) O ?_
  refine Lw.val (Ca O O (by omega)) O<|Lw.callV (p:=[picV t]) (q:=[]) O O O (wat_c t (spc S i) (spy S i*(m:Int)) (spx S i*(m:Int)) _ h_ty (by omega) (by omega) (by omega) (by omega) (by omega) tl) ?_
  rintro _ w ⟨rfl,hn⟩
  replace ho:=ho.bs hn
  replace b_o:=b_o.bs hn
  replace b_g:=b_g.bs hn
  replace b_i:=b_i.bs hn
  replace b_to:=b_to.bs hn
  replace b_s:=b_s.bs hn
  replace h_ty:=h_ty.bs hn
  have hK6:=hK.trans (hn.mono (by omega))
  have hKf:=(KeepsFrom.refl w0.heap.size _).bs hn
  have hN1:=hn
  clear hn
  rw [show pic t.l (t.s.getD 1 default) (t.s.getD 2 default) (spc S i) (spy S i*(m:Int)) (spx S i*(m:Int))=mx (pooF t.l t.s S m i) (pooF t.l t.s S m i 0) 0 by simp [mx,pooF]]
  refine Lw.val (Ac O) O ?_
  refine Af (Pg.low ?_)
  refine B4 (Cg.out ?_)
  refine Ci<|Ci<|B6 (by kernel_rfl)<|Lw.val (Aj (ag_3 _) O (by assumption) O) O ?_
  refine Lw.val (Aj (ag_3 _) O (by assumption) O) O ?_
  refine Lw.val (Ca O O (by omega)) O<|Lw.val (Ad O) O ?_
  refine Af (Pg.low ?_)
  refine B4 (Cg.out ?_)
  refine Cg.block ?_
  rename World=>w8
  refine Cg.loop (S:=Nat) (fun k=>[(3, .pointer (some ⟨A_s,0,none⟩)),(8, .pointer (some ⟨A_o,0,none⟩)),(9, .pointer (some ⟨A_g,0,none⟩)),(10, .pointer (some ⟨A_to,0,none⟩)),(11,i32 (mx (pooF t.l t.s S m i) (pooF t.l t.s S m i 0) k)),(51, .int .i64 ((m:Int)*(m:Int))),(52, .int .i64 (k:Int))]) (fun k w' =>k≤m*m∧Below w8.heap.size w8 w') (fun k=>m*m - k) (0) ⟨rfl,rfl,rfl,rfl,rfl,rfl,rfl,trivial⟩ ?_ ?_
  ·exact ⟨Nat.zero_le _,Below.refl _ _⟩
  rintro k w ⟨hk,hn⟩
  have mmc:((m*m:Nat):Int)=(m:Int)*(m:Int):=Int.natCast_mul m m
  refine Ci<|B6 (by kernel_rfl)<|Lw.val (Bh O O) O ?_
  refine Af (Pg.low ?_)
  refine B4 (Cg.out ?_)
  refine Ci ?_
  refine Cg.cond O ?_ ?_
  ·intro h
   have hk' :k<m*m:=by have:=of_decide_eq_true h;omega
   have km:(0:Int)≤((k / m:Nat):Int)∧((k / m:Nat):Int)<m:=⟨Int.natCast_nonneg _,by have:=Nat.div_lt_of_lt_mul hk';exact_mod_cast this⟩
   have kr:(0:Int)≤((k % m:Nat):Int)∧((k % m:Nat):Int)<m:=⟨Int.natCast_nonneg _,by have:=Nat.mod_lt k (show 0<m by omega);exact_mod_cast this⟩
   obtain ⟨kd,hkd⟩:∃d:Nat,d=k / m:=⟨_,rfl⟩
   obtain ⟨ke,hke⟩:∃d:Nat,d=k % m:=⟨_,rfl⟩
   rw [← hkd] at km
   rw [← hke] at kr
   have eF:pic t.l (t.s.getD 1 default) (t.s.getD 2 default) (spc S i) (spy S i*(m:Int)+(kd:Int)) (spx S i*(m:Int)+(ke:Int))=pooF t.l t.s S m i k:=by rw [hkd,hke];rfl
   replace ho:=ho.bs hn
   replace b_o:=b_o.bs hn
   replace b_g:=b_g.bs hn
   replace b_i:=b_i.bs hn
   replace b_to:=b_to.bs hn
   replace b_s:=b_s.bs hn
   replace h_ty:=h_ty.bs hn
   refine Cg.skip ?_
   refine B4 (Cg.out ?_)
   refine Ci<|Cg.block<|Ci<|B6 (by kernel_rfl)<|Lw.val (Ad O) O<|Lw.val (Ac O) O ?_
   refine Af (Pg.low ?_)
   refine B4 (Cg.out ?_)
   refine Cg.quiet mixed (by kernel_rfl) (by kernel_rfl)<|Qw.val (fun w1 hq=>Ad O) O<|Qw.val (fun w1 hq=>Aj (ag_226 _) O (Blk.bs (by assumption) hq) O) O ?_
   refine Qw.val (fun w1 hq=>Ag (q:=0) Tryz.underlying233 O (sz_3 _) O) O<|Qw.val (fun w1 hq=>Aj (ag_3 _) O (Blk.bs (by assumption) hq) O) O ?_
   refine Qw.val (fun w1 hq=>Ag (q:=0) Tryz.underlying233 O (sz_3 _) O) O<|Qw.val (fun w1 hq=>Aj (ag_3 _) O (Blk.bs (by assumption) hq) O) O ?_
   refine Qw.val (fun w1 hq=>Aj (ag_3 _) O (Blk.bs (by assumption) hq) O) O ?_
   refine Qw.val (fun w1 hq=>Ca O O (by omega)) O<|Qw.val (fun w1 hq=>Ad O) O<|Qw.val (fun w1 hq=>Aj (ag_3 _) O (Blk.bs (by assumption) hq) O) O ?_
   refine Qw.val (fun w1 hq=>(Ct O O (by omega) (by omega)).as (congrArg (Value.int .i64) (show (k:Int) / (m:Int)=(kd:Int) by rw [hkd];rfl))) O<|Qw.val (fun w1 hq=>Bc O O (by omega)) O<|Qw.val (fun w1 hq=>Ag (q:=0) Tryz.underlying233 O (sz_3 _) O) O<|Qw.val (fun w1 hq=>Aj (ag_3 _) O (Blk.bs (by assumption) hq) O) O ?_
   refine Qw.val (fun w1 hq=>Aj (ag_3 _) O (Blk.bs (by assumption) hq) O) O ?_
   refine Qw.val (fun w1 hq=>Ca O O (by omega)) O<|Qw.val (fun w1 hq=>Ad O) O<|Qw.val (fun w1 hq=>Aj (ag_3 _) O (Blk.bs (by assumption) hq) O) O ?_
   refine Qw.val (fun w1 hq=>(Ex.remI O O (by omega) (by omega)).as (congrArg (Value.int .i64) (show (k:Int) % (m:Int)=(ke:Int) by rw [hke];rfl))) O<|Qw.val (fun w1 hq=>Bc O O (by omega)) O<|Qw.callV (p:=[picV t]) (q:=[]) O O O (fun w1 hq=>(wat_c t (spc S i) (spy S i*(m:Int)+(kd:Int)) (spx S i*(m:Int)+(ke:Int)) w1 (Sl.bs h_ty hq) (by omega) (by omega) (by omega) (by omega) (by omega) tl).q hq)<|Qw.val (fun w1 hq=>(Ex.max2 O O).as (congrArg (Value.int .i32) (smax_int _ _).symm)) O<|Qw.val (fun w1 hq=>Ac O) O ?_
   refine B3 (fun w9 hq=>(Pg.low ?_))
   refine Pg.blkN ?_
   refine B4 (Cg.out ?_)
   refine B6 (by kernel_rfl)<|Lw.val (Bc O O (by omega)) O<|Lw.val (Ad O) O ?_
   refine Af (Pg.low ?_)
   exact B4 (Pg.next (k+1) ⟨rfl,rfl,rfl,rfl,congrArg (fun z=>some (i32 (smax _ z))) eF,rfl,rfl,trivial⟩ (⟨hk',bt hn hq⟩) (by omega))
  intro h
  have hk' :k=m*m:=by have:=of_decide_eq_false h;omega
  subst hk'
  replace ho:=ho.bs hn
  replace b_o:=b_o.bs hn
  replace b_g:=b_g.bs hn
  replace b_i:=b_i.bs hn
  replace b_to:=b_to.bs hn
  replace b_s:=b_s.bs hn
  replace h_ty:=h_ty.bs hn
  have hKf:=hKf.bs hn
  have zu:=hN1.size
  have zn:=hn.size
  have hK7:=hK6.trans (hn.mono (by omega))
  have lM:pre.length<4096:=by omega
  refine Cg.exit<|Pg.thenE<|Pg.thenE<|Pg.blkHit ?_
  refine B4 (Cg.out ?_)
  refine B6 (by kernel_rfl)<|Lw.val (Aj (ag_31 _) O (by assumption) O) O ?_
  refine Lw.val (Ad O) O<|Bl (Cp (vs:=[pooV t.l t.s S m i].map i32) st_31 it_21 O O O O O) O ?_
  rintro z w5 ⟨hz, -,hn5, -⟩
  have b_o:=b_o.bs hn5
  have b_g:=b_g.bs hn5
  have b_i:=b_i.bs hn5
  have ho:=own_bs ho hn5
  have z5:=hn5.size
  refine Bl (Cq (base:=B1) st_31 it_21 O (by decide) O O ho (own_sl hz) (one_map (fun _=>rfl) _) (by omega) (by omega) (by omega)) O ?_
  rintro ov2 w6 ⟨ho6,hb6,hg6⟩
  rw [← List.map_append,← List.map_singleton (f:=pooV t.l t.s S m),← List.map_append] at ho6
  have hne:∀{A T:Nat} {cs:List Value},Blk w5 A T cs→21≠T→some A≠ov.ownBlock:=fun h e=>blk_own_ne ho h e
  have b_o6:=b_o.by hg6 (hne b_o (by decide))
  have b_g:=b_g.by hg6 (hne b_g (by decide))
  have b_i6:=b_i.by hg6 (hne b_i (by decide))
  have hK6:Below B1 w0 w6:=(hK7.trans (hn5.mono (by omega))).trans hb6
  refine Ay (Co (u:=ov2) (sz_31 _) O O (own_sl ho6).one' b_o6 Nat.zero_lt_one) ?_
  rintro w7 ⟨b_o7,hg7, -⟩
  have ho7:=own_apart ho6 b_o6 (by decide) hg7
  have b_g:=b_g.by hg7 (fun e=>blk_ne b_g b_o6 (by decide) (Option.some.inj e))
  have b_i7:=b_i6.by hg7 (fun e=>blk_ne b_i6 b_o6 (by decide) (Option.some.inj e))
  have hK7:=hK6.grown hg7 (Nat.le_trans zB1 hK6.size) (by rintro _ ⟨⟩;omega)
  have el:(pre++[i]).length=pre.length+1:=by simp
  refine Af (Pg.low ?_)
  refine Pg.blkN ?_
  exact Pg.rnd (((hKf.bs hn5).own ho hg6).blk b_o6 hg7) (((((Kp.refl.bs hN1).bs hn).bs hn5).grown hg6 (fun b e h=>h.elim (fun h=>hne b_i (by decide) (by rw [← h,e])) (fun h=>by have:=hxl b h;have:=hob b e;omega))).grown hg7 (fun b e h=>by cases e;exact h.elim (fun h=>blk_ne b_i6 b_o6 (by decide) h.symm) (fun h=>by have:=hxl A_o h;omega))) (⟨⟨ov2,b_o7,by rw [el];exact ho7⟩,b_g,b_i7,hK7⟩)
 rintro d w hd ⟨⟨ov,b_o,ho⟩,b_g,b_i,hK⟩ hD
 have eM:(List.range (Shapes.size S).toNat).length=M:=by rw [List.length_range];exact hM.symm
 have hx:=own_heap hx (fun k e=>hK.block k (by have:=hxl k e;omega))
 have b_r:=b_r.bl hK (by omega)
 have hB:=hB.trans (hK.mono (by omega))
 have zK:=hK.size
 have eL:(List.range (Shapes.size S).toNat).map (pooV t.l t.s S m)=wpoL t (m:Int):=by unfold wpoL pooL;rw [← hS,Int.toNat_natCast]
 rw [eL] at ho
 rw [List.length_range] at ho
 have lL:(wpoL t (m:Int)).length=(Shapes.size S).toNat:=by rw [← eL];simp
 rw [← lL] at ho
 have hox:=own_block ho
 refine Pg.blkN ?_
 refine B4 (Cg.out ?_)
 refine Ci<|B6 (by kernel_rfl)<|Lw.val (Ad O) O<|Lw.val (Aj (ag_31 _) O (by assumption) O) O ?_
 refine Lw.val (Bn (vs:=[(0,x),(1,ov)]) (cs:=[x,ov]) O (bt_ten _ _ (own_slT hx).one (own_slT ho).one)) O<|Ay (Bp (cs:=[x,ov]) O O O O (by simp [(own_slT hx).one',(own_slT ho).one']) b_r O) ?_
 rintro w4 ⟨b_r4,hg,hz4⟩
 have hD:=(hg.block d (Array.getElem?_eq_some_iff.1 hD).1 (by intro e;cases e;omega)).trans hD
 have hB:=hB.grown hg (by omega) (by rintro _ ⟨⟩;omega)
 have ho:=own_heap ho (fun k e=>hg.block k (own_block ho k e).2 (by intro e2;have:=hox k e;cases e2;omega))
 have hx:=own_heap hx (fun k e=>hg.block k (own_block hx k e).2 (by intro e2;cases e2;have:=own_block hx _ e;omega))
 have zB:=below_size hB
 refine Lw.val (Ac O) O ?_
 refine Af (Pg.low ?_)
 refine B4 (Cg.out ?_)
 refine Cg.ret ?_
 refine Pg.close (hD) (fun w hn _=> ?_)
 have b_r:=b_r4.nc hn
 have ho:=own_nc ho hn
 have hx:=own_nc hx hn
 have hB:=hB.nc hn (by omega) (Nat.le_refl _)
 refine Bf O O O (by assumption) (Tryz.underlying33) O O O ?_
 exact ⟨hB,x,ov,rfl,fun h=>absurd rfl h,fun _=>⟨.inl (own_mono hx (by omega)),own_mono ho (by omega),fun k e1 e2=>by have:=hox k e1;have:=hxl k e2;omega⟩⟩
theorem wpo_c (t:T4) (wide:Int) (W:World) (h_t:t.at W):Fnc Tryz.prog 122 [t.v, .int .i64 wide] W (fun r w' =>Below W.heap.size W w' ∧Gets W w' r (wpoE t wide) (pshS t.s wide) (wpoL t wide)):=
 (wpo0_c t wide W h_t).mono fun _ _ ⟨h1,h2⟩=>⟨h1,h2.gets⟩
end Go.Proofs.YtmipoeanpnnjoaaGreatDoor

/-! Contracts: windows, as the document has them. -/
namespace Go.Proofs.YtmipoeanpnnjoaaGreatDoor
open Go Go.Dd Go.RowKit
set_option maxRecDepth 100000

theorem rw_stay {w0 w w' :World} {a:T4} {B:Nat} (p:a.at w0) (h:a.at w) (hB:w0.heap.size≤B) (g:Below B w w'):a.at w' :=
 ⟨Sl.stay h.1 fun k e hne=>g.block k (Nat.lt_of_lt_of_le (Sl.blk p.1 hne k e) hB),Sl.stay h.2 fun k e hne=>g.block k (Nat.lt_of_lt_of_le (Sl.blk p.2 hne k e) hB)⟩
theorem rat8_c (a:T4) (c y x:Int) (W:World) (h_a:a.at W) (h3:a.s.length=3) (h1:0≤a.s.getD 1 default∧a.s.getD 1 default≤64) (h2:0≤a.s.getD 2 default∧a.s.getD 2 default≤64) (hc:0≤c∧c≤4096)
  (hy: -1000000≤y∧y≤1000000) (hx: -1000000≤x∧x≤1000000) (hl:(c+1)*(a.s.getD 1 default*a.s.getD 2 default)≤a.l.length):
  Fnc Tryz.prog 145 [a.v, .int .i64 c, .int .i64 y, .int .i64 x] W (fun r w' =>r=i32 (pic a.l (a.s.getD 1 default) (a.s.getD 2 default) c y x)∧Below W.heap.size W w'):=by
 have hB:=Below.refl W.heap.size W
 have h_a1:=h_a.1
 have h_a2:=h_a.2
 refine Ap (n:=50) Tryz.func145 (by kernel_rfl) O O O<|Ae<|Ab<|Bv (cs:=[a.x,a.y]) O O O ?_
 rintro A_p w eA_p b_p hn -
 replace hB:=hB.bs hn
 replace h_a1:=h_a1.bs hn
 replace h_a2:=h_a2.bs hn
 clear hn
 refine Lw.val (Ac (show _=some (i32 (0#32)) from rfl)) O<|Af<|Aa<|Cw.out<|Ae<|Ae<|Ab<|Lw.val (Ad O) O<|Lw.val (Bh O O) O<|Lw.val (Ad O) O ?_
 refine Bt 11 O ?_ ?_
 ·intro g
  have g:=of_decide_eq_true g
  refine Ai (dj:=11) O O O O<|Ai (dj:=11) O O O O<|Ai (dj:=11) O O O O<|Ai (dj:=11) O O O O<|Ai (dj:=11) O O O O<|Ai (dj:=11) O O O O<|Lw.val (As O O) O<|Lw.val (Ad O) O<|Ai (dj:=19) O O O O<|Ai (dj:=19) O O O O<|Lw.val (As O O) O<|Lw.val (Ad O) O<|Ai (dj:=23) O O O O<|Ai (dj:=23) O O O O<|Ai (dj:=23) O O O O<|Ai (dj:=23) O O O O<|Ai (dj:=23) O O O O<|Ai (dj:=23) O O O O<|Lw.val (As O O) O<|Af<|Aa<|Cw.out<|Br O<|Ae<|Ab<|Lw.val (Ac (show _=some (i32 (0#32)) from rfl)) O<|Af<|Aa<|Cw.out<|An<|Ak<|Bb O O ?_
  exact ⟨congrArg i32 (by rw [pic,if_pos (by omega)]),hB⟩
 intro g1
 have g1:=of_decide_eq_false g1
 refine Lw.take (dj:=11) O O<|Lw.val (Ad O) O<|Lw.take (dj:=11) O O<|Lw.val (Ag (q:=0) Tryz.underlying33 O (sz_23 _) O) O<|Lw.take (dj:=11) O O<|Lw.val (Aj (ag_23 _) O (by assumption) O) O ?_
 refine Lw.take (dj:=11) O O<|Lw.val (Ba st_23 O O (by assumption) 1 O (by omega)) O ?_
 refine Lw.take (dj:=11) O O<|Lw.val (Bg (ag_3 _) O (by assumption) (by omega)) O ?_
 refine Lw.take (dj:=11) O O<|Lw.val (Cu O O) O<|Lw.val (Bd O O) O<|Lw.val (Ad O) O ?_
 refine Bt 19 O ?_ ?_
 ·intro g
  have g:=of_decide_eq_true g
  refine Ai (dj:=19) O O O O<|Ai (dj:=19) O O O O<|Lw.val (As O O) O<|Lw.val (Ad O) O<|Ai (dj:=23) O O O O<|Ai (dj:=23) O O O O<|Ai (dj:=23) O O O O<|Ai (dj:=23) O O O O<|Ai (dj:=23) O O O O<|Ai (dj:=23) O O O O<|Lw.val (As O O) O<|Af<|Aa<|Cw.out<|Br O<|Ae<|Ab<|Lw.val (Ac (show _=some (i32 (0#32)) from rfl)) O<|Af<|Aa<|Cw.out<|An<|Ak<|Bb O O ?_
  exact ⟨congrArg i32 (by rw [pic,if_pos (by omega)]),hB⟩
 intro g2
 have g2:=of_decide_eq_false g2
 refine Lw.take (dj:=19) O O<|Lw.val (Ad O) O<|Lw.take (dj:=19) O O<|Lw.val (Bh O O) O<|Lw.val (Bd O O) O<|Lw.val (Ad O) O ?_
 refine Bt 23 O ?_ ?_
 ·intro g
  have g:=of_decide_eq_true g
  refine Ai (dj:=23) O O O O<|Ai (dj:=23) O O O O<|Ai (dj:=23) O O O O<|Ai (dj:=23) O O O O<|Ai (dj:=23) O O O O<|Ai (dj:=23) O O O O<|Lw.val (As O O) O<|Af<|Aa<|Cw.out<|Br O<|Ae<|Ab<|Lw.val (Ac (show _=some (i32 (0#32)) from rfl)) O<|Af<|Aa<|Cw.out<|An<|Ak<|Bb O O ?_
  exact ⟨congrArg i32 (by rw [pic,if_pos (by omega)]),hB⟩
 intro g3
 have g3:=of_decide_eq_false g3
 refine Lw.take (dj:=23) O O<|Lw.val (Ad O) O<|Lw.take (dj:=23) O O<|Lw.val (Ag (q:=0) Tryz.underlying33 O (sz_23 _) O) O<|Lw.take (dj:=23) O O<|Lw.val (Aj (ag_23 _) O (by assumption) O) O ?_
 refine Lw.take (dj:=23) O O<|Lw.val (Ba st_23 O O (by assumption) 2 O (by omega)) O ?_
 refine Lw.take (dj:=23) O O<|Lw.val (Bg (ag_3 _) O (by assumption) (by omega)) O ?_
 refine Lw.take (dj:=23) O O<|Lw.val (Cu O O) O<|Lw.val (Bd O O) O<|Af<|Aa<|Cw.out<|Au O ?_ ?_
 ·intro g
  have g:=of_decide_eq_true g
  refine Ae<|Ab<|Lw.val (Ac (show _=some (i32 (0#32)) from rfl)) O<|Af<|Aa<|Cw.out<|An<|Ak<|Bb O O ?_
  exact ⟨congrArg i32 (by rw [pic,if_pos (by omega)]),hB⟩
 intro g4
 have g4:=of_decide_eq_false g4
 have e1:0≤c*a.s.getD 1 default∧c*a.s.getD 1 default≤4096*64:=⟨Int.mul_nonneg hc.1 h1.1,Int.mul_le_mul hc.2 h1.2 h1.1 (by decide)⟩
 have e2:0≤(c*a.s.getD 1 default+y)*a.s.getD 2 default:=Int.mul_nonneg (by omega) h2.1
 have e3:(c*a.s.getD 1 default+y+1)*a.s.getD 2 default≤(c*a.s.getD 1 default+a.s.getD 1 default)*a.s.getD 2 default:=Int.mul_le_mul_of_nonneg_right (by omega) h2.1
 have e4:(c+1)*(a.s.getD 1 default*a.s.getD 2 default)=(c*a.s.getD 1 default+a.s.getD 1 default)*a.s.getD 2 default:=by rw [← Int.mul_assoc,Int.add_mul c 1,Int.one_mul]
 have e5:(c*a.s.getD 1 default+y+1)*a.s.getD 2 default=(c*a.s.getD 1 default+y)*a.s.getD 2 default+a.s.getD 2 default:=by rw [Int.add_mul _ 1,Int.one_mul]
 have ll:=h_a2.le
 obtain ⟨k,hk⟩:∃k:Nat,(c*a.s.getD 1 default+y)*a.s.getD 2 default+x=(k:Int):=⟨_,(Int.toNat_of_nonneg (by omega)).symm⟩
 have hkl:k<a.l.length:=by omega
 refine Aq<|Aa<|Cw.out<|Ae<|B5 mixed (by kernel_rfl)<|Qw.val (fun w1 hq=>Ag (q:=0) Tryz.underlying33 O (sz_31 _) O) O<|Qw.val (fun w1 hq=>Aj (ag_31 _) O (Blk.bs (by assumption) hq) O) O ?_
 refine Qw.val (fun w1 hq=>Ad O) O<|Qw.val (fun w1 hq=>Ag (q:=0) Tryz.underlying33 O (sz_23 _) O) O<|Qw.val (fun w1 hq=>Aj (ag_23 _) O (Blk.bs (by assumption) hq) O) O ?_
 refine Qw.val (fun w1 hq=>Ba st_23 O O (Sl.bs (by assumption) hq) 1 O (by omega)) O ?_
 refine Qw.val (fun w1 hq=>Bg (ag_3 _) O (Sl.bs (by assumption) hq) (by omega)) O ?_
 refine Qw.val (fun w1 hq=>Ca O O (by omega)) O<|Qw.val (fun w1 hq=>Ad O) O<|Qw.val (fun w1 hq=>Bc O O (by omega)) O<|Qw.val (fun w1 hq=>Ag (q:=0) Tryz.underlying33 O (sz_23 _) O) O<|Qw.val (fun w1 hq=>Aj (ag_23 _) O (Blk.bs (by assumption) hq) O) O ?_
 refine Qw.val (fun w1 hq=>Ba st_23 O O (Sl.bs (by assumption) hq) 2 O (by omega)) O ?_
 refine Qw.val (fun w1 hq=>Bg (ag_3 _) O (Sl.bs (by assumption) hq) (by omega)) O ?_
 refine Qw.val (fun w1 hq=>Ca O O (by omega)) O<|Qw.val (fun w1 hq=>Ad O) O<|Qw.val (fun w1 hq=>Bc O O (by omega)) O<|Qw.val (fun w1 hq=>Ba st_31 O O (Sl.bs h_a2 hq) k hk hkl) O<|Qw.val (fun w1 hq=>Bg (ag_21 _) O (Sl.bs h_a2 hq) hkl) O<|Qw.val (fun w1 hq=>Ac O) O ?_
 refine B3 (fun w2 hq=> ?_)
 refine Aa<|Cw.out<|An<|Bb O O ?_
 exact ⟨congrArg i32 (by rw [pic,if_neg (by omega),hk];rfl),bt hB hq⟩
theorem pshB_1 {t:List Int} {wide:Int} (h:¬t.length=3):pshB t wide=false:=by simp only [pshB,decide_eq_false h,Bool.false_and]
theorem pshB_2 {t:List Int} {wide:Int} (h:¬wide≤t.getD 1 default):pshB t wide=false:=by simp only [pshB,decide_eq_false h,Bool.false_and,Bool.and_false]
theorem pshB_3 {t:List Int} {wide:Int} (h:¬wide≤t.getD 2 default):pshB t wide=false:=by simp only [pshB,decide_eq_false h,Bool.and_false]
theorem rwpshape_c (t:List Int) (wide:Int) (u:Value) (W:World) (h_u:SlT (Value.int .i64) W u t):
  Fnc Tryz.prog 146 [u, .int .i64 wide] W (fun r w' =>Below W.heap.size W w' ∧GotI W w' r (poolE t wide) (pshS t wide)):=by
 have hB:=Below.refl W.heap.size W
 refine Ap (n:=48) Tryz.func146 (by kernel_rfl) O O O<|Ae<|Ab<|Lw.val (Ac O) O<|Lw.val (Ac O) O<|Af<|Aa<|Cw.out<|Ae<|Ae<|Ab<|Lw.val (Ad O) O<|Al O O (rcheck_c u t _ h_u) ?_
 rintro _ w ⟨rfl,hn⟩
 replace hB:=hB.bs hn
 replace h_u:=h_u.bs hn
 clear hn
 refine Lw.val (Bx O) O<|Lw.val (Ad O) O ?_
 refine Bt 9 O ?_ ?_
 ·intro g1
  refine Ai (dj:=9) O O O O<|Ai (dj:=9) O O O O<|Lw.val (As O O) O<|Lw.val (Ad O) O<|Ai (dj:=13) O O O O<|Ai (dj:=13) O O O O<|Lw.val (As O O) O<|Af<|Aa<|Cw.out<|Br O<|Ae<|Ab<|Lw.val (Ac O) O<|Lw.val (Ac O) O<|Af<|Aa<|Cw.out<|An<|Ak<|Bu O O O ?_
  rw [show poolE t wide=1 by simp [poolE,show pshA t wide=true by simp_all [pshA]]]
  exact ⟨hB,gotI_no (by decide)⟩
 intro g1
 refine Lw.take (dj:=9) O O<|Lw.val (Ad O) O<|Lw.take (dj:=9) O O<|Lw.val (Bh O O) O<|Lw.val (Bd O O) O<|Lw.val (Ad O) O ?_
 refine Bt 13 O ?_ ?_
 ·intro g2
  refine Ai (dj:=13) O O O O<|Ai (dj:=13) O O O O<|Lw.val (As O O) O<|Af<|Aa<|Cw.out<|Br O<|Ae<|Ab<|Lw.val (Ac O) O<|Lw.val (Ac O) O<|Af<|Aa<|Cw.out<|An<|Ak<|Bu O O O ?_
  rw [show poolE t wide=1 by simp [poolE,show pshA t wide=true by simp_all [pshA]]]
  exact ⟨hB,gotI_no (by decide)⟩
 intro g2
 refine Lw.take (dj:=13) O O<|Lw.val (Ad O) O<|Lw.take (dj:=13) O O<|Lw.val (Cr O O) O<|Lw.val (Bd O O) O<|Af<|Aa<|Cw.out<|Au O ?_ ?_
 ·intro g3
  refine Ae<|Ab<|Lw.val (Ac O) O<|Lw.val (Ac O) O<|Af<|Aa<|Cw.out<|An<|Ak<|Bu O O O ?_
  rw [show poolE t wide=1 by simp [poolE,show pshA t wide=true by simp_all [pshA]]]
  exact ⟨hB,gotI_no (by decide)⟩
 intro g3
 have gA:pshA t wide=false:=by simp_all [pshA]
 have gT:Shapes.ok t=true:=by simpa using g1
 have w1:1≤wide:=by simpa using g2
 have w2:wide≤64:=by simpa using g3
 have hT:=(Shapes.ok_iff t).1 gT
 clear g1 g2 g3
 refine Aq<|Aa<|Cw.out<|Ae<|Ae<|Ab<|Lw.val (Ad O) O<|Lw.val (Av st_23 O (by assumption)) O ?_
 refine Lw.val (B7 O O) O<|Lw.val (Ad O) O ?_
 refine Bt 20 O ?_ ?_
 ·intro g4
  have lt:¬t.length=3:=by have:=g4;simp at this;omega
  refine Ai (dj:=20) O O O O<|Ai (dj:=20) O O O O<|Ai (dj:=20) O O O O<|Ai (dj:=20) O O O O<|Ai (dj:=20) O O O O<|Lw.val (As O O) O<|Lw.val (Ad O) O<|Ai (dj:=27) O O O O<|Ai (dj:=27) O O O O<|Ai (dj:=27) O O O O<|Ai (dj:=27) O O O O<|Ai (dj:=27) O O O O<|Lw.val (As O O) O<|Af<|Aa<|Cw.out<|Br O<|Ae<|Ab<|Lw.val (Ac O) O<|Lw.val (Ac O) O<|Af<|Aa<|Cw.out<|An<|Ak<|Bu O O O ?_
  rw [show poolE t wide=10 by rw [poolE,gA,pshB_1 lt];rfl]
  exact ⟨hB,gotI_no (by decide)⟩
 intro g4
 have lt:t.length=3:=by have:=g4;simp at this;omega
 have t0:=good_at hT.2.1 (k:=0) (by omega)
 have t1:=good_at hT.2.1 (k:=1) (by omega)
 have t2:=good_at hT.2.1 (k:=2) (by omega)
 clear g4
 refine Lw.take (dj:=20) O O<|Lw.val (Ad O) O<|Lw.take (dj:=20) O O<|Lw.val (Ba st_23 O O (by assumption) 1 O (by omega)) O ?_
 refine Lw.take (dj:=20) O O<|Lw.val (Bg (ag_3 _) O (by assumption) (by omega)) O ?_
 refine Lw.take (dj:=20) O O<|Lw.val (Ad O) O<|Lw.take (dj:=20) O O<|Lw.val (Bh O O) O<|Lw.val (Bd O O) O<|Lw.val (Ad O) O ?_
 refine Bt 27 O ?_ ?_
 ·intro g5
  have g5:¬wide≤t.getD 1 default:=by have:=of_decide_eq_true g5;omega
  refine Ai (dj:=27) O O O O<|Ai (dj:=27) O O O O<|Ai (dj:=27) O O O O<|Ai (dj:=27) O O O O<|Ai (dj:=27) O O O O<|Lw.val (As O O) O<|Af<|Aa<|Cw.out<|Br O<|Ae<|Ab<|Lw.val (Ac O) O<|Lw.val (Ac O) O<|Af<|Aa<|Cw.out<|An<|Ak<|Bu O O O ?_
  rw [show poolE t wide=10 by rw [poolE,gA,pshB_2 g5];rfl]
  exact ⟨hB,gotI_no (by decide)⟩
 intro g5
 have g5:wide≤t.getD 1 default:=by have:=of_decide_eq_false g5;omega
 refine Lw.take (dj:=27) O O<|Lw.val (Ad O) O<|Lw.take (dj:=27) O O<|Lw.val (Ba st_23 O O (by assumption) 2 O (by omega)) O ?_
 refine Lw.take (dj:=27) O O<|Lw.val (Bg (ag_3 _) O (by assumption) (by omega)) O ?_
 refine Lw.take (dj:=27) O O<|Lw.val (Ad O) O<|Lw.take (dj:=27) O O<|Lw.val (Bh O O) O<|Lw.val (Bd O O) O<|Af<|Aa<|Cw.out<|Au O ?_ ?_
 ·intro g6
  have g6:¬wide≤t.getD 2 default:=by have:=of_decide_eq_true g6;omega
  refine Ae<|Ab<|Lw.val (Ac O) O<|Lw.val (Ac O) O<|Af<|Aa<|Cw.out<|An<|Ak<|Bu O O O ?_
  rw [show poolE t wide=10 by rw [poolE,gA,pshB_3 g6];rfl]
  exact ⟨hB,gotI_no (by decide)⟩
 intro g6
 have g6:wide≤t.getD 2 default:=by have:=of_decide_eq_false g6;omega
 have gB:pshB t wide=true:=by rw [pshB,decide_eq_true lt,decide_eq_true g5,decide_eq_true g6];rfl
 obtain ⟨c1, -⟩:=slid_same w1 g5
 obtain ⟨c2, -⟩:=slid_same w1 g6
 have eS:pshS t wide=[t.getD 0 default,t.getD 1 default / wide,t.getD 2 default / wide]:=by unfold pshS;rw [c1,c2]
 refine Aq<|Aa<|Cw.out<|Ae<|Cw.tail 13 mixed (by kernel_rfl)<|Qw.val (fun w1 hq=>Ad O) O<|Qw.val (fun w1 hq=>Ba st_23 O O (Sl.bs (by assumption) hq) 0 O (by omega)) O ?_
 refine Qw.val (fun w1 hq=>Bg (ag_3 _) O (Sl.bs (by assumption) hq) (by omega)) O ?_
 refine Qw.val (fun w1 hq=>Ad O) O<|Qw.val (fun w1 hq=>Ba st_23 O O (Sl.bs (by assumption) hq) 1 O (by omega)) O ?_
 refine Qw.val (fun w1 hq=>Bg (ag_3 _) O (Sl.bs (by assumption) hq) (by omega)) O ?_
 refine Qw.val (fun w1 hq=>Ad O) O<|Qw.val (fun w1 hq=>Ct O O (by omega) (by omega)) O<|Qw.val (fun w1 hq=>Ad O) O<|Qw.val (fun w1 hq=>Ba st_23 O O (Sl.bs (by assumption) hq) 2 O (by omega)) O ?_
 refine Qw.val (fun w1 hq=>Bg (ag_3 _) O (Sl.bs (by assumption) hq) (by omega)) O ?_
 refine Qw.val (fun w1 hq=>Ad O) O<|Qw.val (fun w1 hq=>Ct O O (by omega) (by omega)) O ?_
 refine Cj (fun w3 hq=> ?_)
 replace hB:=hB.bs hq
 replace h_u:=h_u.bs hq
 clear hq
 have zw:=below_size hB
 refine Bl (Cp (vs:=(pshS t wide).map (Value.int .i64)) st_23 it_3 O (by rw [eS];rfl) O O O) O ?_
 rintro x w ⟨ho, -,hn, -⟩
 have ho:=own_mono ho zw
 replace hB:=hB.bs hn
 replace h_u:=h_u.bs hn
 clear hn
 refine Lw.val (Ac O) O<|Lw.val (Ac O) O<|Af<|Aa<|Cw.out<|An<|Bu O O O ?_
 rw [show poolE t wide=0 by simp [poolE,gA,gB]]
 exact ⟨hB,x,_,rfl,ho,fun h=>absurd rfl h,fun _=>rfl⟩
theorem wsh_no {t s:List Int} {step pad:Int} (h:t.getD 1 default+2*pad<s.getD 2 default∨t.getD 2 default+2*pad<s.getD 3 default):Shapes.ok (wshS t s step pad)=false:=by
 cases hk:Shapes.ok (wshS t s step pad) with
 |false=>rfl
 |true=>
  have g:=((Shapes.ok_iff _).1 hk).2.1
  have l3:(wshS t s step pad).length=3:=rfl
  have g1:1≤slid (t.getD 1 default+2*pad) (s.getD 2 default) step:=(good_at g (k:=1) (by omega)).1
  have g2:1≤slid (t.getD 2 default+2*pad) (s.getD 3 default) step:=(good_at g (k:=2) (by omega)).1
  unfold slid at g1 g2
  rcases h with h|h
  ·rw [if_pos h] at g1;omega
  ·rw [if_pos h] at g2;omega
theorem rwshape_c (t s:List Int) (step pad:Int) (u v:Value) (W:World) (h_u:SlT (Value.int .i64) W u t) (h_v:SlT (Value.int .i64) W v s):
  Fnc Tryz.prog 144 [u,v, .int .i64 step, .int .i64 pad] W (fun r w' =>Below W.heap.size W w' ∧GotI W w' r (wshE t s step pad) (wshS t s step pad)):=by
 have hB:=Below.refl W.heap.size W
 refine Ap (n:=110) Tryz.func144 (by kernel_rfl) O O O<|Ae<|Ab<|Lw.val (Ac O) O<|Lw.val (Ac O) O<|Af<|Aa<|Cw.out<|Ae<|Ae<|Ab<|Lw.val (Ad O) O<|Al O O (rcheck_c u t _ h_u) ?_
 rintro _ w ⟨rfl,hn⟩
 replace hB:=hB.bs hn
 replace h_u:=h_u.bs hn
 replace h_v:=h_v.bs hn
 clear hn
 refine Lw.val (Bx O) O<|Lw.val (Ad O) O ?_
 refine Bt 14 O ?_ ?_
 ·intro g1
  refine Ai (dj:=14) O O O O<|Ai (dj:=14) O O O O<|Ai (dj:=14) O O O O<|Lw.val (As O O) O<|Lw.val (Ad O) O<|Ai (dj:=19) O O O O<|Ai (dj:=19) O O O O<|Lw.val (As O O) O<|Lw.val (Ad O) O<|Ai (dj:=23) O O O O<|Ai (dj:=23) O O O O<|Lw.val (As O O) O<|Lw.val (Ad O) O<|Ai (dj:=27) O O O O<|Ai (dj:=27) O O O O<|Lw.val (As O O) O<|Lw.val (Ad O) O<|Ai (dj:=31) O O O O<|Ai (dj:=31) O O O O<|Lw.val (As O O) O<|Af<|Aa<|Cw.out<|Br O<|Ae<|Ab<|Lw.val (Ac O) O<|Lw.val (Ac O) O<|Af<|Aa<|Cw.out<|An<|Ak<|Bu O O O ?_
  rw [show wshE t s step pad=1 by simp [wshE,show wshA t s step pad=true by simp_all [wshA]]]
  exact ⟨hB,gotI_no (by decide)⟩
 intro g1
 refine Lw.take (dj:=14) O O<|Lw.val (Ad O) O<|Lw.take (dj:=14) O O<|Al O O (rcheck_c v s _ h_v) ?_
 rintro _ w ⟨rfl,hn⟩
 replace hB:=hB.bs hn
 replace h_u:=h_u.bs hn
 replace h_v:=h_v.bs hn
 clear hn
 refine Lw.take (dj:=14) O O<|Lw.val (Bx O) O<|Lw.val (Bd O O) O<|Lw.val (Ad O) O ?_
 refine Bt 19 O ?_ ?_
 ·intro g2
  refine Ai (dj:=19) O O O O<|Ai (dj:=19) O O O O<|Lw.val (As O O) O<|Lw.val (Ad O) O<|Ai (dj:=23) O O O O<|Ai (dj:=23) O O O O<|Lw.val (As O O) O<|Lw.val (Ad O) O<|Ai (dj:=27) O O O O<|Ai (dj:=27) O O O O<|Lw.val (As O O) O<|Lw.val (Ad O) O<|Ai (dj:=31) O O O O<|Ai (dj:=31) O O O O<|Lw.val (As O O) O<|Af<|Aa<|Cw.out<|Br O<|Ae<|Ab<|Lw.val (Ac O) O<|Lw.val (Ac O) O<|Af<|Aa<|Cw.out<|An<|Ak<|Bu O O O ?_
  rw [show wshE t s step pad=1 by simp [wshE,show wshA t s step pad=true by simp_all [wshA]]]
  exact ⟨hB,gotI_no (by decide)⟩
 intro g2
 refine Lw.take (dj:=19) O O<|Lw.val (Ad O) O<|Lw.take (dj:=19) O O<|Lw.val (Bh O O) O<|Lw.val (Bd O O) O<|Lw.val (Ad O) O ?_
 refine Bt 23 O ?_ ?_
 ·intro g3
  refine Ai (dj:=23) O O O O<|Ai (dj:=23) O O O O<|Lw.val (As O O) O<|Lw.val (Ad O) O<|Ai (dj:=27) O O O O<|Ai (dj:=27) O O O O<|Lw.val (As O O) O<|Lw.val (Ad O) O<|Ai (dj:=31) O O O O<|Ai (dj:=31) O O O O<|Lw.val (As O O) O<|Af<|Aa<|Cw.out<|Br O<|Ae<|Ab<|Lw.val (Ac O) O<|Lw.val (Ac O) O<|Af<|Aa<|Cw.out<|An<|Ak<|Bu O O O ?_
  rw [show wshE t s step pad=1 by simp [wshE,show wshA t s step pad=true by simp_all [wshA]]]
  exact ⟨hB,gotI_no (by decide)⟩
 intro g3
 refine Lw.take (dj:=23) O O<|Lw.val (Ad O) O<|Lw.take (dj:=23) O O<|Lw.val (Cr O O) O<|Lw.val (Bd O O) O<|Lw.val (Ad O) O ?_
 refine Bt 27 O ?_ ?_
 ·intro g4
  refine Ai (dj:=27) O O O O<|Ai (dj:=27) O O O O<|Lw.val (As O O) O<|Lw.val (Ad O) O<|Ai (dj:=31) O O O O<|Ai (dj:=31) O O O O<|Lw.val (As O O) O<|Af<|Aa<|Cw.out<|Br O<|Ae<|Ab<|Lw.val (Ac O) O<|Lw.val (Ac O) O<|Af<|Aa<|Cw.out<|An<|Ak<|Bu O O O ?_
  rw [show wshE t s step pad=1 by simp [wshE,show wshA t s step pad=true by simp_all [wshA]]]
  exact ⟨hB,gotI_no (by decide)⟩
 intro g4
 refine Lw.take (dj:=27) O O<|Lw.val (Ad O) O<|Lw.take (dj:=27) O O<|Lw.val (Bh O O) O<|Lw.val (Bd O O) O<|Lw.val (Ad O) O ?_
 refine Bt 31 O ?_ ?_
 ·intro g5
  refine Ai (dj:=31) O O O O<|Ai (dj:=31) O O O O<|Lw.val (As O O) O<|Af<|Aa<|Cw.out<|Br O<|Ae<|Ab<|Lw.val (Ac O) O<|Lw.val (Ac O) O<|Af<|Aa<|Cw.out<|An<|Ak<|Bu O O O ?_
  rw [show wshE t s step pad=1 by simp [wshE,show wshA t s step pad=true by simp_all [wshA]]]
  exact ⟨hB,gotI_no (by decide)⟩
 intro g5
 have gT:Shapes.ok t=true:=by simpa using g1
 have gS:Shapes.ok s=true:=by simpa using g2
 have gst:1≤step:=by simpa using g3
 have gst2:step≤8:=by simpa using g4
 have gp:0≤pad:=by simpa using g5
 refine Lw.take (dj:=31) O O<|Lw.val (Ad O) O<|Lw.take (dj:=31) O O<|Lw.val (Cr O O) O<|Lw.val (Bd O O) O<|Af<|Aa<|Cw.out<|Au O ?_ ?_
 ·intro g6
  refine Ae<|Ab<|Lw.val (Ac O) O<|Lw.val (Ac O) O<|Af<|Aa<|Cw.out<|An<|Ak<|Bu O O O ?_
  rw [show wshE t s step pad=1 by simp [wshE,show wshA t s step pad=true by simp_all [wshA]]]
  exact ⟨hB,gotI_no (by decide)⟩
 intro g6
 have gp2:pad≤8:=by simpa using g6
 have gA:wshA t s step pad=false:=by simp_all [wshA]
 clear g1 g2 g3 g4 g5 g6
 have hT:=(Shapes.ok_iff t).1 gT
 have hS:=(Shapes.ok_iff s).1 gS
 refine Aq<|Aa<|Cw.out<|Ae<|Ae<|B5 mixed (by kernel_rfl)<|Qw.val (fun w1 hq=>Ad O) O<|Qw.val (fun w1 hq=>Av st_23 O (Sl.bs (by assumption) hq)) O ?_
 refine Qw.val (fun w1 hq=>B7 O O) O<|Qw.val (fun w1 hq=>Ad O) O ?_
 refine Cl 38 O ?_ ?_
 ·intro g
  refine Ao (dj:=38) O O O O<|Ao (dj:=38) O O O O<|Ao (dj:=38) O O O O<|Qw.val (fun w1 hq=>As O O) O<|Qw.val (fun w1 hq=>Ad O) O<|Ao (dj:=43) O O O O<|Ao (dj:=43) O O O O<|Ao (dj:=43) O O O O<|Ao (dj:=43) O O O O<|Ao (dj:=43) O O O O<|Ao (dj:=43) O O O O<|Ao (dj:=43) O O O O<|Qw.val (fun w1 hq=>As O O) O<|Qw.val (fun w1 hq=>Ad O) O<|Ao (dj:=52) O O O O<|Ao (dj:=52) O O O O<|Ao (dj:=52) O O O O<|Ao (dj:=52) O O O O<|Ao (dj:=52) O O O O<|Ao (dj:=52) O O O O<|Ao (dj:=52) O O O O<|Ao (dj:=52) O O O O<|Ao (dj:=52) O O O O<|Ao (dj:=52) O O O O<|Qw.val (fun w1 hq=>As O O) O<|Qw.val (fun w1 hq=>Ad O) O<|Ao (dj:=64) O O O O<|Ao (dj:=64) O O O O<|Ao (dj:=64) O O O O<|Ao (dj:=64) O O O O<|Ao (dj:=64) O O O O<|Ao (dj:=64) O O O O<|Ao (dj:=64) O O O O<|Ao (dj:=64) O O O O<|Ao (dj:=64) O O O O<|Ao (dj:=64) O O O O<|Qw.val (fun w1 hq=>As O O) O ?_
  refine B3 (fun w1 hq=> ?_)
  refine Aa<|Cw.out<|Br O<|Ae<|Ab<|Lw.val (Ac O) O<|Lw.val (Ac O) O<|Af<|Aa<|Cw.out<|An<|Ak<|Bu O O O ?_
  rw [show wshE t s step pad=10 by rw [wshE,gA,wshB_1 (fun h=>by simp [h] at g)];rfl]
  exact ⟨bt hB hq,gotI_no (by decide)⟩
 intro g7
 have lt:t.length=3:=by have:=g7;simp at this;omega
 refine Qw.take (dj:=38) O O<|Qw.val (fun w1 hq=>Ad O) O<|Qw.take (dj:=38) O O<|Qw.val (fun w1 hq=>Av st_23 O (Sl.bs (by assumption) hq)) O ?_
 refine Qw.take (dj:=38) O O<|Qw.val (fun w1 hq=>B7 O O) O<|Qw.val (fun w1 hq=>Bd O O) O<|Qw.val (fun w1 hq=>Ad O) O ?_
 refine Cl 43 O ?_ ?_
 ·intro g
  refine Ao (dj:=43) O O O O<|Ao (dj:=43) O O O O<|Ao (dj:=43) O O O O<|Ao (dj:=43) O O O O<|Ao (dj:=43) O O O O<|Ao (dj:=43) O O O O<|Ao (dj:=43) O O O O<|Qw.val (fun w1 hq=>As O O) O<|Qw.val (fun w1 hq=>Ad O) O<|Ao (dj:=52) O O O O<|Ao (dj:=52) O O O O<|Ao (dj:=52) O O O O<|Ao (dj:=52) O O O O<|Ao (dj:=52) O O O O<|Ao (dj:=52) O O O O<|Ao (dj:=52) O O O O<|Ao (dj:=52) O O O O<|Ao (dj:=52) O O O O<|Ao (dj:=52) O O O O<|Qw.val (fun w1 hq=>As O O) O<|Qw.val (fun w1 hq=>Ad O) O<|Ao (dj:=64) O O O O<|Ao (dj:=64) O O O O<|Ao (dj:=64) O O O O<|Ao (dj:=64) O O O O<|Ao (dj:=64) O O O O<|Ao (dj:=64) O O O O<|Ao (dj:=64) O O O O<|Ao (dj:=64) O O O O<|Ao (dj:=64) O O O O<|Ao (dj:=64) O O O O<|Qw.val (fun w1 hq=>As O O) O ?_
  refine B3 (fun w1 hq=> ?_)
  refine Aa<|Cw.out<|Br O<|Ae<|Ab<|Lw.val (Ac O) O<|Lw.val (Ac O) O<|Af<|Aa<|Cw.out<|An<|Ak<|Bu O O O ?_
  rw [show wshE t s step pad=10 by rw [wshE,gA,wshB_2 (fun h=>by simp [h] at g)];rfl]
  exact ⟨bt hB hq,gotI_no (by decide)⟩
 intro g8
 have ls:s.length=4:=by have:=g8;simp at this;omega
 have t1:=good_at hT.2.1 (k:=1) (by omega)
 have t2:=good_at hT.2.1 (k:=2) (by omega)
 have s0:=good_at hS.2.1 (k:=0) (by omega)
 have s2:=good_at hS.2.1 (k:=2) (by omega)
 have s3:=good_at hS.2.1 (k:=3) (by omega)
 refine Qw.take (dj:=43) O O<|Qw.val (fun w1 hq=>Ad O) O<|Qw.take (dj:=43) O O<|Qw.val (fun w1 hq=>Ba st_23 O O (Sl.bs (by assumption) hq) 0 O (by omega)) O ?_
 refine Qw.take (dj:=43) O O<|Qw.val (fun w1 hq=>Bg (ag_3 _) O (Sl.bs (by assumption) hq) (by omega)) O ?_
 refine Qw.take (dj:=43) O O<|Qw.val (fun w1 hq=>Ad O) O<|Qw.take (dj:=43) O O<|Qw.val (fun w1 hq=>Ba st_23 O O (Sl.bs (by assumption) hq) 1 O (by omega)) O ?_
 refine Qw.take (dj:=43) O O<|Qw.val (fun w1 hq=>Bg (ag_3 _) O (Sl.bs (by assumption) hq) (by omega)) O ?_
 refine Qw.take (dj:=43) O O<|Qw.val (fun w1 hq=>B7 O O) O<|Qw.val (fun w1 hq=>Bd O O) O<|Qw.val (fun w1 hq=>Ad O) O ?_
 refine Cl 52 O ?_ ?_
 ·intro g
  refine Ao (dj:=52) O O O O<|Ao (dj:=52) O O O O<|Ao (dj:=52) O O O O<|Ao (dj:=52) O O O O<|Ao (dj:=52) O O O O<|Ao (dj:=52) O O O O<|Ao (dj:=52) O O O O<|Ao (dj:=52) O O O O<|Ao (dj:=52) O O O O<|Ao (dj:=52) O O O O<|Qw.val (fun w1 hq=>As O O) O<|Qw.val (fun w1 hq=>Ad O) O<|Ao (dj:=64) O O O O<|Ao (dj:=64) O O O O<|Ao (dj:=64) O O O O<|Ao (dj:=64) O O O O<|Ao (dj:=64) O O O O<|Ao (dj:=64) O O O O<|Ao (dj:=64) O O O O<|Ao (dj:=64) O O O O<|Ao (dj:=64) O O O O<|Ao (dj:=64) O O O O<|Qw.val (fun w1 hq=>As O O) O ?_
  refine B3 (fun w1 hq=> ?_)
  refine Aa<|Cw.out<|Br O<|Ae<|Ab<|Lw.val (Ac O) O<|Lw.val (Ac O) O<|Af<|Aa<|Cw.out<|An<|Ak<|Bu O O O ?_
  rw [show wshE t s step pad=10 by rw [wshE,gA,wshB_3 (fun h=>by rw [decide_eq_true h] at g;cases g)];rfl]
  exact ⟨bt hB hq,gotI_no (by decide)⟩
 intro g9
 have gB:wshB t s=true:=by
  have:t.getD 0 default=s.getD 1 default:=by simpa only [Bool.not_eq_false',decide_eq_true_eq] using g9
  rw [wshB,decide_eq_true lt,decide_eq_true ls,decide_eq_true this];rfl
 refine Qw.take (dj:=52) O O<|Qw.val (fun w1 hq=>Ad O) O<|Qw.take (dj:=52) O O<|Qw.val (fun w1 hq=>Ba st_23 O O (Sl.bs (by assumption) hq) 1 O (by omega)) O ?_
 refine Qw.take (dj:=52) O O<|Qw.val (fun w1 hq=>Bg (ag_3 _) O (Sl.bs (by assumption) hq) (by omega)) O ?_
 refine Qw.take (dj:=52) O O<|Qw.val (fun w1 hq=>Ad O) O<|Qw.take (dj:=52) O O<|Qw.val (fun w1 hq=>Ca O O (by omega)) O<|Qw.take (dj:=52) O O<|Qw.val (fun w1 hq=>Bc O O (by omega)) O<|Qw.take (dj:=52) O O<|Qw.val (fun w1 hq=>Ad O) O<|Qw.take (dj:=52) O O<|Qw.val (fun w1 hq=>Ba st_23 O O (Sl.bs (by assumption) hq) 2 O (by omega)) O ?_
 refine Qw.take (dj:=52) O O<|Qw.val (fun w1 hq=>Bg (ag_3 _) O (Sl.bs (by assumption) hq) (by omega)) O ?_
 refine Qw.take (dj:=52) O O<|Qw.val (fun w1 hq=>Bh O O) O<|Qw.val (fun w1 hq=>Bd O O) O<|Qw.val (fun w1 hq=>Ad O) O ?_
 refine Cl 64 O ?_ ?_
 ·intro g
  have g:=of_decide_eq_true g
  refine Ao (dj:=64) O O O O<|Ao (dj:=64) O O O O<|Ao (dj:=64) O O O O<|Ao (dj:=64) O O O O<|Ao (dj:=64) O O O O<|Ao (dj:=64) O O O O<|Ao (dj:=64) O O O O<|Ao (dj:=64) O O O O<|Ao (dj:=64) O O O O<|Ao (dj:=64) O O O O<|Qw.val (fun w1 hq=>As O O) O ?_
  refine B3 (fun w1 hq=> ?_)
  refine Aa<|Cw.out<|Br O<|Ae<|Ab<|Lw.val (Ac O) O<|Lw.val (Ac O) O<|Af<|Aa<|Cw.out<|An<|Ak<|Bu O O O ?_
  rw [show wshE t s step pad=10 by rw [wshE,gA,wsh_no (.inl g),Bool.and_false];rfl]
  exact ⟨bt hB hq,gotI_no (by decide)⟩
 intro g10
 have g10:=of_decide_eq_false g10
 refine Qw.take (dj:=64) O O<|Qw.val (fun w1 hq=>Ad O) O<|Qw.take (dj:=64) O O<|Qw.val (fun w1 hq=>Ba st_23 O O (Sl.bs (by assumption) hq) 2 O (by omega)) O ?_
 refine Qw.take (dj:=64) O O<|Qw.val (fun w1 hq=>Bg (ag_3 _) O (Sl.bs (by assumption) hq) (by omega)) O ?_
 refine Qw.take (dj:=64) O O<|Qw.val (fun w1 hq=>Ad O) O<|Qw.take (dj:=64) O O<|Qw.val (fun w1 hq=>Ca O O (by omega)) O<|Qw.take (dj:=64) O O<|Qw.val (fun w1 hq=>Bc O O (by omega)) O<|Qw.take (dj:=64) O O<|Qw.val (fun w1 hq=>Ad O) O<|Qw.take (dj:=64) O O<|Qw.val (fun w1 hq=>Ba st_23 O O (Sl.bs (by assumption) hq) 3 O (by omega)) O ?_
 refine Qw.take (dj:=64) O O<|Qw.val (fun w1 hq=>Bg (ag_3 _) O (Sl.bs (by assumption) hq) (by omega)) O ?_
 refine Qw.take (dj:=64) O O<|Qw.val (fun w1 hq=>Bh O O) O<|Qw.val (fun w1 hq=>Bd O O) O ?_
 refine B3 (fun w1 hq=> ?_)
 refine Aa<|Cw.out<|Au O ?_ ?_
 ·intro g
  have g:=of_decide_eq_true g
  refine Ae<|Ab<|Lw.val (Ac O) O<|Lw.val (Ac O) O<|Af<|Aa<|Cw.out<|An<|Ak<|Bu O O O ?_
  rw [show wshE t s step pad=10 by rw [wshE,gA,wsh_no (.inr g),Bool.and_false];rfl]
  exact ⟨bt hB hq,gotI_no (by decide)⟩
 intro g11
 have g11:=of_decide_eq_false g11
 replace hB:=hB.bs hq
 replace h_u:=h_u.bs hq
 replace h_v:=h_v.bs hq
 clear hq g7 g8 g9
 have q1:=Int.ediv_le_self step (show 0≤t.getD 1 default+2*pad - s.getD 2 default by omega)
 have q2:=Int.ediv_nonneg (show 0≤t.getD 1 default+2*pad - s.getD 2 default by omega) (show 0≤step by omega)
 have q3:=Int.ediv_le_self step (show 0≤t.getD 2 default+2*pad - s.getD 3 default by omega)
 have q4:=Int.ediv_nonneg (show 0≤t.getD 2 default+2*pad - s.getD 3 default by omega) (show 0≤step by omega)
 have eS:wshS t s step pad=[s.getD 0 default,(t.getD 1 default+2*pad - s.getD 2 default) / step+1,(t.getD 2 default+2*pad - s.getD 3 default) / step+1]:=by
  unfold wshS slid;rw [if_neg g10,if_neg g11]
 refine Aq<|Aa<|Cw.out<|Ae<|Cw.tail 29 mixed (by kernel_rfl)<|Qw.val (fun w1 hq=>Ad O) O<|Qw.val (fun w1 hq=>Ba st_23 O O (Sl.bs (by assumption) hq) 0 O (by omega)) O ?_
 refine Qw.val (fun w1 hq=>Bg (ag_3 _) O (Sl.bs (by assumption) hq) (by omega)) O ?_
 refine Qw.val (fun w1 hq=>Ad O) O<|Qw.val (fun w1 hq=>Ba st_23 O O (Sl.bs (by assumption) hq) 1 O (by omega)) O ?_
 refine Qw.val (fun w1 hq=>Bg (ag_3 _) O (Sl.bs (by assumption) hq) (by omega)) O ?_
 refine Qw.val (fun w1 hq=>Ad O) O<|Qw.val (fun w1 hq=>Ca O O (by omega)) O<|Qw.val (fun w1 hq=>Bc O O (by omega)) O<|Qw.val (fun w1 hq=>Ad O) O<|Qw.val (fun w1 hq=>Ba st_23 O O (Sl.bs (by assumption) hq) 2 O (by omega)) O ?_
 refine Qw.val (fun w1 hq=>Bg (ag_3 _) O (Sl.bs (by assumption) hq) (by omega)) O ?_
 refine Qw.val (fun w1 hq=>Cx O O (by omega)) O<|Qw.val (fun w1 hq=>Ad O) O<|Qw.val (fun w1 hq=>Ct O O (by omega) (by omega)) O<|Qw.val (fun w1 hq=>Bc O O (by omega)) O<|Qw.val (fun w1 hq=>Ad O) O<|Qw.val (fun w1 hq=>Ba st_23 O O (Sl.bs (by assumption) hq) 2 O (by omega)) O ?_
 refine Qw.val (fun w1 hq=>Bg (ag_3 _) O (Sl.bs (by assumption) hq) (by omega)) O ?_
 refine Qw.val (fun w1 hq=>Ad O) O<|Qw.val (fun w1 hq=>Ca O O (by omega)) O<|Qw.val (fun w1 hq=>Bc O O (by omega)) O<|Qw.val (fun w1 hq=>Ad O) O<|Qw.val (fun w1 hq=>Ba st_23 O O (Sl.bs (by assumption) hq) 3 O (by omega)) O ?_
 refine Qw.val (fun w1 hq=>Bg (ag_3 _) O (Sl.bs (by assumption) hq) (by omega)) O ?_
 refine Qw.val (fun w1 hq=>Cx O O (by omega)) O<|Qw.val (fun w1 hq=>Ad O) O<|Qw.val (fun w1 hq=>Ct O O (by omega) (by omega)) O<|Qw.val (fun w1 hq=>Bc O O (by omega)) O ?_
 refine Cj (fun w2 hq=> ?_)
 replace hB:=hB.bs hq
 replace h_u:=h_u.bs hq
 replace h_v:=h_v.bs hq
 clear hq
 have zw:=below_size hB
 refine Bl (Cp (vs:=(wshS t s step pad).map (Value.int .i64)) st_23 it_3 O (by rw [eS];rfl) O O O) O ?_
 rintro x w ⟨ho, -,hn, -⟩
 have ho:=own_mono ho zw
 replace hB:=hB.bs hn
 replace h_u:=h_u.bs hn
 replace h_v:=h_v.bs hn
 clear hn
 refine Lw.val (Ac O) O<|Af<|Aa<|Cw.out<|Ae<|Ae<|Ab<|Lw.val (Ad O) O<|Al O O (rcheck_c x (wshS t s step pad) _ (own_slT ho)) ?_
 rintro _ w ⟨rfl,hn⟩
 replace hB:=hB.bs hn
 replace h_u:=h_u.bs hn
 replace h_v:=h_v.bs hn
 replace ho:=ho.bs hn
 clear hn
 refine Lw.val (Bx O) O<|Af<|Aa<|Cw.out<|Au O ?_ ?_
 ·intro g
  refine Ae<|Ab<|Lw.val (Ac O) O<|Lw.val (Ac O) O<|Af<|Aa<|Cw.out<|An<|Ak<|Bu O O O ?_
  rw [show wshE t s step pad=10 by simp_all [wshE]]
  exact ⟨hB,gotI_no (by decide)⟩
 intro g
 refine Aq<|Aa<|Cw.out<|Ae<|Ab<|Lw.val (Ad O) O<|Lw.val (Ac O) O<|Lw.val (Ac O) O<|Af<|Aa<|Cw.out<|An<|Bu O O O ?_
 rw [show wshE t s step pad=0 by simp_all [wshE]]
 exact ⟨hB,x,_,rfl,ho,fun h=>absurd rfl h,fun _=>rfl⟩
/-- Numbers that are put behind one another into a tensor's box. -/
def RP (A:Nat) (x:Value) (B:Nat) (w1:World) (F:Nat→BitVec 32) (n:Nat) (w' :World):Prop:=
 ∃lv,Blk w' A 33 [x,lv]∧w'.ownsRow B 21 1 lv n (((List.range n).map F).map i32)∧Below B w1 w'
theorem RP.bel {A B n:Nat} {x:Value} {w1 w' :World} {F:Nat→BitVec 32} (h:RP A x B w1 F n w'):Below B w1 w' :=by obtain ⟨_,_,_,h⟩:=h;exact h
theorem spot_nat {S:List Int} {d1 d2 o y x:Nat} (h1:S.getD 1 default=(d1:Int)) (h2:S.getD 2 default=(d2:Int)) (hy:y<d1) (hx:x<d2):
  spc S (((o*d1+y)*d2+x:Nat):Int)=o∧spy S (((o*d1+y)*d2+x:Nat):Int)=y∧spx S (((o*d1+y)*d2+x:Nat):Int)=x:=by
 have h:=spot_back (s:=S) (c:=(o:Int)) (y:=(y:Int)) (x:=(x:Int)) (by omega) (by omega)
 rw [h1,h2] at h
 have e:(((o*d1+y)*d2+x:Nat):Int)=((o:Int)*d1+y)*d2+x:=by push_cast;rfl
 rw [e]
 exact h
theorem nest_lt {d0 d1 d2 o y x M:Nat} (ho:o<d0) (hy:y<d1) (hx:x<d2) (hM:d0*(d1*d2)≤M):(o*d1+y)*d2+x<M:=by
 have h1:=rc_lt ho hy
 have h2:=rc_lt h1 hx
 rw [Nat.mul_assoc] at h2
 omega
set_option maxHeartbeats 2000000 in
theorem rpool_c (t:T4) (wide:Int) (W:World) (h_t:t.at W):
  Fnc Tryz.prog 41 [t.v, .int .i64 wide] W (fun r w' =>Below W.heap.size W w' ∧AnsW W w' r (wpoE t wide) (pshS t.s wide) (wpoL t wide)):=by
 have hB:=Below.refl W.heap.size W
 refine Ap (n:=94) Tryz.func41 (by kernel_rfl) O O O<|Ae<|Ab<|Bv (cs:=[t.x,t.y]) O O O ?_
 rintro A_t w eA_t b_t hn -
 replace hB:=hB.bs hn
 replace h_t:=h_t.bs hn
 clear hn
 have z0:=below_size hB
 refine B8 it_33 O ?_
 rintro A_r w eA_r b_r hn -
 replace hB:=hB.bs hn
 replace h_t:=h_t.bs hn
 replace b_t:=b_t.bs hn
 clear hn
 refine Lw.val (Ac O) O<|Af<|Aa<|Cw.out<|Ae<|Ae<|Ab<|Lw.val (Bw (ag_33 _) (sz_33 _) O O (by assumption)) O ?_
 have z_r:=blk_lt b_r
 refine Al O O (rtcheck_c t.x t.y t.s t.l _ h_t.1 h_t.2) ?_
 rintro _ w ⟨rfl,hn⟩
 replace hB:=hB.bs hn
 replace h_t:=h_t.bs hn
 replace b_t:=b_t.bs hn
 replace b_r:=b_r.bs hn
 clear hn
 refine Lw.val (Bx O) O<|Af<|Aa<|Cw.out<|Au O ?_ ?_
 ·intro g
  refine Ae<|Ab<|Lw.val (Bn (vs:=[]) (cs:=[.slice none 0 0, .slice none 0 0]) O (by kernel_rfl)) O<|Ay (Bp (cs:=[.slice none 0 0, .slice none 0 0]) O O O O O b_r O) ?_
  rintro w3 ⟨b_r,hg, -⟩
  have hB:=hB.grown hg (below_size hB) (by rintro _ ⟨⟩;omega)
  refine Lw.val (Ac O) O<|Af<|Aa<|Cw.out<|An<|Ak<|Bf O O O (by assumption) (Tryz.underlying33) O O O ?_
  rw [show wpoE t wide=1 by simp_all [wpoE]]
  exact ⟨hB,ansW_no (by decide)⟩
 intro g1
 have k_t:tok t.s t.l=true:=by simpa using g1
 have hE:wpoE t wide=poolE t.s wide:=by rw [wpoE,k_t];rfl
 clear g1
 rw [hE]
 have h_t1:=h_t.1
 have zr0:=blk_lt b_r
 have zrB:=below_size hB
 refine Aq<|Aa<|Cw.out<|Ae<|Ab<|Lw.val (Ag (q:=0) Tryz.underlying33 O (sz_23 _) O) O<|Lw.val (Aj (ag_23 _) O (by assumption) O) O ?_
 refine Lw.val (Ad O) O<|Al O O (rwpshape_c t.s wide t.x _ h_t.1) ?_
 rintro _ w1 ⟨hn,x,m',rfl,hx,hno,hyes⟩
 replace hB:=hB.bs hn
 replace h_t:=h_t.bs hn
 replace b_t:=b_t.bs hn
 replace b_r:=b_r.bs hn
 clear hn
 refine Lw.val (Ad O) O<|Lw.val (Ax (i:=0) O O) O<|Lw.val (Ax (i:=1) O O) O<|Lw.val (Ac O) O<|Lw.val (Ac O) O<|Af<|Aa<|Cw.out<|Ae<|Ae<|Ab<|Lw.val (Ad O) O<|Lw.val (B7 O O) O<|Af<|Aa<|Cw.out<|Au O ?_ ?_
 ·intro g
  have g:poolE t.s wide≠0:=by simpa using g
  refine Ae<|Ab<|Lw.val (Bn (vs:=[]) (cs:=[.slice none 0 0, .slice none 0 0]) O (by kernel_rfl)) O<|Lw.val (Ad O) O<|Ay (Bp (cs:=[.slice none 0 0, .slice none 0 0]) O O O O O b_r O) ?_
  rintro w3 ⟨b_r,hg, -⟩
  have hB:=hB.grown hg (below_size hB) (by rintro _ ⟨⟩;omega)
  refine Lw.val (Ac O) O<|Af<|Aa<|Cw.out<|An<|Ak<|Bf O O O (by assumption) (Tryz.underlying33) O O O ?_
  exact ⟨hB,ansW_no g⟩
 intro g
 have e0:poolE t.s wide=0:=by simpa using g
 clear g
 rw [e0]
 have hm:=hyes e0
 have ok:=pool_ok k_t e0
 clear hno hyes e0 hE h_t1
 obtain ⟨m,rfl⟩:∃m:Nat,wide=(m:Int):=⟨wide.toNat,by have:=ok.w;omega⟩
 obtain ⟨S,hS⟩:∃S,S=pshS t.s (m:Int):=⟨_,rfl⟩
 have lS:S.length=3:=by rw [hS];rfl
 have S0:S.getD 0 default=t.s.getD 0 default:=by rw [hS];rfl
 have okS:Shapes.ok S=true:=by rw [hS];exact ok.ok
 have gS:=((Shapes.ok_iff _).1 okS).2.1
 rw [hm,← hS] at hx
 rw [← hS]
 clear hm
 have szS:=Shapes.size_le S
 have szo:=Shapes.size_ok okS
 rw [prod3 lS] at szo
 have l3:=ok.lt
 have okw:=ok.w
 have g0:=good_at gS (k:=0) (by omega)
 have g1:=good_at gS (k:=1) (by omega)
 have g2:=good_at gS (k:=2) (by omega)
 have t0:=good_at ok.gt (k:=0) (by omega)
 have t1:=good_at ok.gt (k:=1) (by omega)
 have t2:=good_at ok.gt (k:=2) (by omega)
 have mm:1*1≤(m:Int)*(m:Int):=Int.mul_le_mul okw.1 okw.1 (by decide) (by omega)
 have mm2:(m:Int)*(m:Int)≤64*64:=Int.mul_le_mul okw.2 okw.2 (by omega) (by decide)
 have mmc:((m*m:Nat):Int)=(m:Int)*(m:Int):=Int.natCast_mul m m
 obtain ⟨d0,h0⟩:∃d:Nat,S.getD 0 default=(d:Int):=⟨_,(Int.toNat_of_nonneg (by omega)).symm⟩
 obtain ⟨d1,h1⟩:∃d:Nat,S.getD 1 default=(d:Int):=⟨_,(Int.toNat_of_nonneg (by omega)).symm⟩
 obtain ⟨d2,h2⟩:∃d:Nat,S.getD 2 default=(d:Int):=⟨_,(Int.toNat_of_nonneg (by omega)).symm⟩
 have hM:d0*(d1*d2)=(Shapes.size S).toNat:=by
  have:((d0*(d1*d2):Nat):Int)=Shapes.size S:=by rw [szo,h0,h1,h2];push_cast;rfl
  omega
 have zW:=below_size hB
 obtain ⟨B1,hB1⟩:∃B1,B1=w1.heap.size:=⟨_,rfl⟩
 have hxl:=own_block hx
 have q_t:A_t<B1:=hB1 ▸ blk_lt b_t
 have q_r:A_r<B1:=hB1 ▸ blk_lt b_r
 have h_x:=own_slT hx
 refine Aq<|Aa<|Cw.out<|Ae<|Ab<|B8 it_33 O ?_
 rintro A_o w2 eA_o b_o hn2 zhn2
 have l_o:B1≤A_o:=by omega
 refine Af<|Aa<|Cw.out<|Ae<|Ab<|Lw.val (Ad O) O<|Lw.val (Ag (q:=0) Tryz.underlying33 O (sz_23 _) O) O<|Ay (Co (u:=x) (sz_23 _) O O h_x.one' b_o (by decide)) ?_
 rintro w3 ⟨b_o3,hg, -⟩
 have b_o3:Blk w3 A_o 33 [x, .slice none 0 0]:=b_o3
 have hK0:Below B1 w1 w3:=(hB1 ▸ hn2:Below B1 w1 w2).grown hg (by have:=hn2.size;omega) (by rintro _ ⟨⟩;omega)
 clear b_o hg hn2 zhn2
 refine Af<|Aa<|Cw.out<|Ae<|Ae<|Ab<|Lw.val (Ac O) O<|Af<|Aa<|Cw.out<|Cw.block ?_
 refine Bj (S:=Nat) (fun o=>[(1, .int .i64 (m:Int)),(2, .pointer (some ⟨A_t,0,none⟩)),(4, .pointer (some ⟨A_r,0,none⟩)),(6,x),(8, .pointer (some ⟨A_o,0,none⟩)),(9, .int .i64 (o:Int))]) (fun o w' =>o≤d0∧RP A_o x B1 w1 (pooV t.l t.s S m) (o*d1*d2) w') (fun o=>d0 - o) (0) ⟨rfl,rfl,rfl,rfl,rfl,rfl,trivial⟩ ?_ ?_
 ·exact ⟨Nat.zero_le _,_,b_o3,by rw [Nat.zero_mul,Nat.zero_mul];exact World.ownsRow_nil _ _ _ _,hK0⟩
 clear b_o3 hK0
 rintro o w4 ⟨ho,hP⟩
 have h_x1:SlT (Value.int .i64) w4 x S:=Sl.stay h_x fun k e hne=>hP.bel.block k (by have:=hxl k e;omega)
 refine Ae<|Ae<|Ab<|Lw.val (Ad O) O<|Lw.val (Ad O) O<|Lw.val (Ba st_23 O O (by assumption) 0 O (by omega)) O ?_
 refine Lw.val (Bg (ag_3 _) O (by assumption) (by omega)) O ?_
 refine Lw.val (Bh O O) O<|Af<|Aa<|Cw.out<|Au O ?_ ?_
 ·intro h
  have ho' :o<d0:=by have:=of_decide_eq_true h;omega
  refine Aq<|Aa<|Cw.out<|Ae<|Cw.block<|Ae<|Ab<|Lw.val (Ac O) O<|Af<|Aa<|Cw.out<|Cw.block ?_
  refine Bj (S:=Nat) (fun y=>[(1, .int .i64 (m:Int)),(2, .pointer (some ⟨A_t,0,none⟩)),(4, .pointer (some ⟨A_r,0,none⟩)),(6,x),(8, .pointer (some ⟨A_o,0,none⟩)),(9, .int .i64 (o:Int)),(10, .int .i64 (y:Int))]) (fun y w' =>y≤d1∧RP A_o x B1 w1 (pooV t.l t.s S m) ((o*d1+y)*d2) w') (fun y=>d1 - y) (0) ⟨rfl,rfl,rfl,rfl,rfl,rfl,rfl,trivial⟩ ?_ ?_
  ·exact ⟨Nat.zero_le _,hP⟩
  clear hP h_x1
  rintro y w5 ⟨hy,hP⟩
  have h_x1:SlT (Value.int .i64) w5 x S:=Sl.stay h_x fun k e hne=>hP.bel.block k (by have:=hxl k e;omega)
  refine Ae<|Ae<|Ab<|Lw.val (Ad O) O<|Lw.val (Ad O) O<|Lw.val (Ba st_23 O O (by assumption) 1 O (by omega)) O ?_
  refine Lw.val (Bg (ag_3 _) O (by assumption) (by omega)) O ?_
  refine Lw.val (Bh O O) O<|Af<|Aa<|Cw.out<|Au O ?_ ?_
  ·intro h
   have hy' :y<d1:=by have:=of_decide_eq_true h;omega
   refine Aq<|Aa<|Cw.out<|Ae<|Cw.block<|Ae<|Ab<|Lw.val (Ac O) O<|Af<|Aa<|Cw.out<|Cw.block ?_
   refine Bj (S:=Nat) (fun v=>[(1, .int .i64 (m:Int)),(2, .pointer (some ⟨A_t,0,none⟩)),(4, .pointer (some ⟨A_r,0,none⟩)),(6,x),(8, .pointer (some ⟨A_o,0,none⟩)),(9, .int .i64 (o:Int)),(10, .int .i64 (y:Int)),(11, .int .i64 (v:Int))]) (fun v w' =>v≤d2∧RP A_o x B1 w1 (pooV t.l t.s S m) ((o*d1+y)*d2+v) w') (fun v=>d2 - v) (0) ⟨rfl,rfl,rfl,rfl,rfl,rfl,rfl,rfl,trivial⟩ ?_ ?_
   ·exact ⟨Nat.zero_le _,hP⟩
   clear hP h_x1
   rintro v w6 ⟨hv,hP⟩
   have h_x1:SlT (Value.int .i64) w6 x S:=Sl.stay h_x fun k e hne=>hP.bel.block k (by have:=hxl k e;omega)
   refine Ae<|Ae<|Ab<|Lw.val (Ad O) O<|Lw.val (Ad O) O<|Lw.val (Ba st_23 O O (by assumption) 2 O (by omega)) O ?_
   refine Lw.val (Bg (ag_3 _) O (by assumption) (by omega)) O ?_
   refine Lw.val (Bh O O) O<|Af<|Aa<|Cw.out<|Au O ?_ ?_
   ·intro h
    have hv' :v<d2:=by have:=of_decide_eq_true h;omega
    obtain ⟨lv,b_o,hl,hK⟩:=hP
    have b_t6:=b_t.bl hK q_t
    have h_t6:=rw_stay h_t h_t (Nat.le_of_eq hB1.symm) hK
    have hn0:=nest_lt ho' hy' hv' (Nat.le_of_eq hM)
    obtain ⟨n,hn⟩:∃n,n=(o*d1+y)*d2+v:=⟨_,rfl⟩
    obtain ⟨sc,sy,sx⟩:=spot_nat (o:=o) h1 h2 hy' hv'
    rw [← hn] at sc sy sx hn0 hl
    have my:0≤(y:Int)*(m:Int)∧(y:Int)*(m:Int)≤64*64:=⟨Int.mul_nonneg (by omega) (by omega),Int.mul_le_mul (by omega) okw.2 (by omega) (by decide)⟩
    have mv:0≤(v:Int)*(m:Int)∧(v:Int)*(m:Int)≤64*64:=⟨Int.mul_nonneg (by omega) (by omega),Int.mul_le_mul (by omega) okw.2 (by omega) (by decide)⟩
    have tl:((o:Int)+1)*(t.s.getD 1 default*t.s.getD 2 default)≤t.l.length:=by
     rw [ok.tl]
     exact Int.mul_le_mul_of_nonneg_right (by omega) (Int.mul_nonneg (by omega) (by omega))
    refine Aq<|Aa<|Cw.out<|Ae<|Cw.block<|Ae<|Ab<|Lw.val (Bw (ag_33 _) (sz_33 _) O O (by assumption)) O ?_
    refine Lw.val (Ad O) O<|Lw.val (Ad O) O<|Lw.val (Ad O) O<|Lw.val (Ca O O (by omega)) O<|Lw.val (Ad O) O<|Lw.val (Ad O) O<|Lw.val (Ca O O (by omega)) O<|Al O O (rat8_c t (o:Int) ((y:Int)*(m:Int)) ((v:Int)*(m:Int)) _ h_t6 l3 (by omega) (by omega) (by omega) (by omega) (by omega) tl) ?_
    rintro _ w7 ⟨rfl,hn7⟩
    rw [show pic t.l (t.s.getD 1 default) (t.s.getD 2 default) (o:Int) ((y:Int)*(m:Int)) ((v:Int)*(m:Int))=mx (pooF t.l t.s S m n) (pooF t.l t.s S m n 0) 0 by simp only [mx,pooF,sc,sy,sx];simp]
    refine Lw.val (Ac O) O<|Af<|Aa<|Cw.out<|Ae<|Ae<|Ab<|Lw.val (Ac O) O<|Af<|Aa<|Cw.out<|Cw.block ?_
    refine Bj (S:=Nat) (fun k=>[(1, .int .i64 (m:Int)),(2, .pointer (some ⟨A_t,0,none⟩)),(4, .pointer (some ⟨A_r,0,none⟩)),(6,x),(8, .pointer (some ⟨A_o,0,none⟩)),(9, .int .i64 (o:Int)),(10, .int .i64 (y:Int)),(11, .int .i64 (v:Int)),(12,i32 (mx (pooF t.l t.s S m n) (pooF t.l t.s S m n 0) k)),(13, .int .i64 (k:Int))]) (fun k w' =>k≤m*m∧Below w6.heap.size w6 w') (fun k=>m*m - k) (0) ⟨rfl,rfl,rfl,rfl,rfl,rfl,rfl,rfl,rfl,rfl,trivial⟩ ?_ ?_
    ·exact ⟨Nat.zero_le _,hn7⟩
    rintro k w8 ⟨hk,hn8⟩
    refine Ae<|Ae<|Ab<|Lw.val (Ad O) O<|Lw.val (Ad O) O<|Lw.val (Ad O) O<|Lw.val (Ca O O (by omega)) O<|Lw.val (Bh O O) O<|Af<|Aa<|Cw.out<|Au O ?_ ?_
    ·intro h
     have hk' :k<m*m:=by have:=of_decide_eq_true h;omega
     have km:(0:Int)≤((k / m:Nat):Int)∧((k / m:Nat):Int)<m:=⟨Int.natCast_nonneg _,by have:=Nat.div_lt_of_lt_mul hk';exact_mod_cast this⟩
     have kr:(0:Int)≤((k % m:Nat):Int)∧((k % m:Nat):Int)<m:=⟨Int.natCast_nonneg _,by have:=Nat.mod_lt k (show 0<m by omega);exact_mod_cast this⟩
     obtain ⟨kd,hkd⟩:∃d:Nat,d=k / m:=⟨_,rfl⟩
     obtain ⟨ke,hke⟩:∃d:Nat,d=k % m:=⟨_,rfl⟩
     rw [← hkd] at km
     rw [← hke] at kr
     have eF:pic t.l (t.s.getD 1 default) (t.s.getD 2 default) (o:Int) ((y:Int)*(m:Int)+(kd:Int)) ((v:Int)*(m:Int)+(ke:Int))=pooF t.l t.s S m n k:=by rw [hkd,hke];simp only [pooF,sc,sy,sx]
     have b_t8:=b_t6.bs hn8
     have h_t8:=h_t6.bs hn8
     refine Aq<|Aa<|Cw.out<|Ae<|Cw.block<|B5 mixed (by kernel_rfl)<|Qw.val (fun w1 hq=>Ad O) O<|Qw.val (fun w1 hq=>Bw (ag_33 _) (sz_33 _) O O (Blk.bs (by assumption) hq)) O ?_
     refine Qw.val (fun w1 hq=>Ad O) O<|Qw.val (fun w1 hq=>Ad O) O<|Qw.val (fun w1 hq=>Ad O) O<|Qw.val (fun w1 hq=>Ca O O (by omega)) O<|Qw.val (fun w1 hq=>Ad O) O<|Qw.val (fun w1 hq=>Ad O) O<|Qw.val (fun w1 hq=>(Ct O O (by omega) (by omega)).as (congrArg (Value.int .i64) (show (k:Int) / (m:Int)=(kd:Int) by rw [hkd];rfl))) O<|Qw.val (fun w1 hq=>Bc O O (by omega)) O<|Qw.val (fun w1 hq=>Ad O) O<|Qw.val (fun w1 hq=>Ad O) O<|Qw.val (fun w1 hq=>Ca O O (by omega)) O<|Qw.val (fun w1 hq=>Ad O) O<|Qw.val (fun w1 hq=>Ad O) O<|Qw.val (fun w1 hq=>(Ex.remI O O (by omega) (by omega)).as (congrArg (Value.int .i64) (show (k:Int) % (m:Int)=(ke:Int) by rw [hke];rfl))) O<|Qw.val (fun w1 hq=>Bc O O (by omega)) O<|B9 O O (fun w1 hq=>(rat8_c t (o:Int) ((y:Int)*(m:Int)+(kd:Int)) ((v:Int)*(m:Int)+(ke:Int)) w1 (h_t8.bs hq) l3 (by omega) (by omega) (by omega) (by omega) (by omega) tl).q hq)<|Qw.val (fun w1 hq=>(Ex.max2 O O).as (congrArg (Value.int .i32) (smax_int _ _).symm)) O<|Qw.val (fun w1 hq=>Ac O) O ?_
     refine B3 (fun w9 hq=> ?_)
     refine Bo<|Aa<|Cw.out<|Ab<|Lw.val (Ad O) O<|Lw.val (Bc O O (by omega)) O<|Lw.val (Ac O) O<|Af ?_
     exact Aa (Bq (k+1) ⟨rfl,rfl,rfl,rfl,rfl,rfl,rfl,rfl,congrArg (fun z=>some (i32 (smax _ z))) eF,rfl,trivial⟩ (⟨hk',bt hn8 hq⟩) (by omega))
    intro h
    have hk' :k=m*m:=by have:=of_decide_eq_false h;omega
    subst hk'
    have b_o:=b_o.bs hn8
    have hl:=own_bs hl hn8
    have hK8:=hK.trans (hn8.mono (by have:=hK.size;omega))
    refine Bi<|Am<|Am<|Az<|Aa<|Cw.out<|Ab<|Lw.val (Ag (q:=0) Tryz.underlying33 O (sz_31 _) O) O<|Lw.val (Aj (ag_31 _) O (by assumption) O) O ?_
    refine Lw.val (Ad O) O<|Bl (Cp (vs:=[pooV t.l t.s S m n].map i32) st_31 it_21 O O O O O) O ?_
    rintro z w5 ⟨hz, -,hn5, -⟩
    have b_o:=b_o.bs hn5
    have hl:=own_bs hl hn5
    have hK5:=hK8.trans (hn5.mono (by have:=hK8.size;omega))
    refine Bl (Cq (base:=B1) st_31 it_21 O (by decide) O O hl (own_sl hz) (one_map (fun _=>rfl) _) (by omega) (by omega) (by have:=hK5.size;omega)) O ?_
    rintro lv2 w10 ⟨hl6,hb6,hg6⟩
    rw [← List.map_append,← List.map_singleton (f:=pooV t.l t.s S m),← List.map_append,← List.range_succ] at hl6
    have b_o6:=b_o.by hg6 (blk_own_ne hl b_o (by decide))
    have hK6:=hK5.trans hb6
    refine Lw.val (Ag (q:=0) Tryz.underlying33 O (sz_31 _) O) O<|Ay (Co (u:=lv2) (sz_31 _) O O (own_sl hl6).one' b_o6 Nat.one_lt_two) ?_
    rintro w11 ⟨b_o7,hg7, -⟩
    have hl7:=own_apart hl6 b_o6 (by decide) hg7
    have hK7:=hK6.grown hg7 (by have:=hK6.size;omega) (by rintro _ ⟨⟩;omega)
    refine Af<|Bo<|Aa<|Cw.out<|Ab<|Lw.val (Ad O) O<|Lw.val (Bc O O (by omega)) O<|Lw.val (Ac O) O<|Af ?_
    exact Aa (Bq (v+1) ⟨rfl,rfl,rfl,rfl,rfl,rfl,rfl,rfl,trivial⟩ (⟨hv',lv2,b_o7,by rw [← Nat.add_assoc,← hn];exact hl7,hK7⟩) (by omega))
   intro h
   have hv' :v=d2:=by have:=of_decide_eq_false h;omega
   subst hv'
   refine Bi<|Am<|Am<|Az<|Bo<|Aa<|Cw.out<|Ab<|Lw.val (Ad O) O<|Lw.val (Bc O O (by omega)) O<|Lw.val (Ac O) O<|Af ?_
   exact Aa (Bq (y+1) ⟨rfl,rfl,rfl,rfl,rfl,rfl,rfl,trivial⟩ (⟨hy',by rw [← Nat.add_assoc,Nat.succ_mul];exact hP⟩) (by omega))
  intro h
  have hy' :y=d1:=by have:=of_decide_eq_false h;omega
  subst hy'
  refine Bi<|Am<|Am<|Az<|Bo<|Aa<|Cw.out<|Ab<|Lw.val (Ad O) O<|Lw.val (Bc O O (by omega)) O<|Lw.val (Ac O) O<|Af ?_
  exact Aa (Bq (o+1) ⟨rfl,rfl,rfl,rfl,rfl,rfl,trivial⟩ (⟨ho',by rw [Nat.succ_mul];exact hP⟩) (by omega))
 intro h
 have ho' :o=d0:=by have:=of_decide_eq_false h;omega
 subst ho'
 obtain ⟨lv,b_o,hl,hK⟩:=hP
 have eL:(List.range (o*d1*d2)).map (pooV t.l t.s S m)=wpoL t (m:Int):=by unfold wpoL pooL;rw [← hS,Int.toNat_natCast,← hM,Nat.mul_assoc]
 have lL:(wpoL t (m:Int)).length=o*d1*d2:=by rw [← eL];simp
 rw [eL,← lL] at hl
 have b_r4:=b_r.bl hK q_r
 have hx4:=own_heap hx (fun k e=>hK.block k (by have:=hxl k e;omega))
 have hB4:=hB.trans (hK.mono (by omega))
 have hox:=own_block hl
 have hxo:=(own_sl hl).one'
 have hxx:=(own_sl hx4).one'
 refine Bi<|Am<|Am<|Az<|Aa<|Cw.out<|Ae<|Ab<|Lw.val (Bw (ag_33 _) (sz_33 _) O O (by assumption)) O ?_
 refine Ay (Bp (cs:=[x,lv]) O O O O (by simp [hxo,hxx]) b_r4 O) ?_
 rintro w5 ⟨b_r5,hg, -⟩
 have hl5:=own_apart hl b_r4 (by decide) hg
 have hx5:=own_apart hx4 b_r4 (by decide) hg
 have hB5:=hB4.grown hg (below_size hB4) (by rintro _ ⟨⟩;omega)
 refine Lw.val (Ac O) O<|Af<|Aa<|Cw.out<|An<|Bf O O O (by assumption) (Tryz.underlying33) O O O ?_
 exact ⟨hB5,x,lv,rfl,fun h=>absurd rfl h,fun _=>⟨.inl (own_mono hx5 (by omega)),own_mono hl5 (by omega),fun k e1 e2=>by have:=hox k e1;have:=hxl k e2;omega⟩⟩
set_option maxHeartbeats 4000000 in
theorem rof_c (t f:T4) (st p:Int) (W:World) (h_t:t.at W) (h_f:f.at W):
  Fnc Tryz.prog 40 [t.v,f.v, .int .i64 st, .int .i64 p] W (fun r w' =>Below W.heap.size W w' ∧AnsW W w' r (wofE t f st p) (wshS t.s f.s st p) (wofL t f st p)):=by
 have hB:=Below.refl W.heap.size W
 refine Ap (n:=162) Tryz.func40 (by kernel_rfl) O O O<|Ae<|Ab<|Bv (cs:=[t.x,t.y]) O O O ?_
 rintro A_t w eA_t b_t hn -
 replace hB:=hB.bs hn
 replace h_t:=h_t.bs hn
 replace h_f:=h_f.bs hn
 clear hn
 refine Bv (cs:=[f.x,f.y]) O O O ?_
 rintro A_f w eA_f b_f hn -
 replace hB:=hB.bs hn
 replace h_t:=h_t.bs hn
 replace h_f:=h_f.bs hn
 replace b_t:=b_t.bs hn
 clear hn
 have z0:=below_size hB
 refine B8 it_33 O ?_
 rintro A_r w eA_r b_r hn -
 replace hB:=hB.bs hn
 replace h_t:=h_t.bs hn
 replace h_f:=h_f.bs hn
 replace b_t:=b_t.bs hn
 replace b_f:=b_f.bs hn
 clear hn
 refine Lw.val (Ac O) O<|Af<|Aa<|Cw.out<|Ae<|Ae<|Ab<|Lw.val (Bw (ag_33 _) (sz_33 _) O O (by assumption)) O ?_
 have z_r:=blk_lt b_r
 refine Al O O (rtcheck_c t.x t.y t.s t.l _ h_t.1 h_t.2) ?_
 rintro _ w ⟨rfl,hn⟩
 replace hB:=hB.bs hn
 replace h_t:=h_t.bs hn
 replace h_f:=h_f.bs hn
 replace b_t:=b_t.bs hn
 replace b_f:=b_f.bs hn
 replace b_r:=b_r.bs hn
 clear hn
 refine Lw.val (Bx O) O<|Lw.val (Ad O) O ?_
 refine Bt 24 O ?_ ?_
 ·intro g
  refine Ai (dj:=24) O O O O<|Ai (dj:=24) O O O O<|Ai (dj:=24) O O O O<|Lw.val (As O O) O<|Af<|Aa<|Cw.out<|Br O<|Ae<|Ab<|Lw.val (Bn (vs:=[]) (cs:=[.slice none 0 0, .slice none 0 0]) O (by kernel_rfl)) O<|Ay (Bp (cs:=[.slice none 0 0, .slice none 0 0]) O O O O O b_r O) ?_
  rintro w3 ⟨b_r,hg, -⟩
  have hB:=hB.grown hg (below_size hB) (by rintro _ ⟨⟩;omega)
  refine Lw.val (Ac O) O<|Af<|Aa<|Cw.out<|An<|Ak<|Bf O O O (by assumption) (Tryz.underlying33) O O O ?_
  rw [show wofE t f st p=1 by simp_all [wofE]]
  exact ⟨hB,ansW_no (by decide)⟩
 intro g1
 have k_t:tok t.s t.l=true:=by simpa using g1
 refine Lw.take (dj:=24) O O<|Lw.val (Bw (ag_33 _) (sz_33 _) O O (by assumption)) O ?_
 refine Lw.take (dj:=24) O O<|Al O O (rtcheck_c f.x f.y f.s f.l _ h_f.1 h_f.2) ?_
 rintro _ w ⟨rfl,hn⟩
 replace hB:=hB.bs hn
 replace h_t:=h_t.bs hn
 replace h_f:=h_f.bs hn
 replace b_t:=b_t.bs hn
 replace b_f:=b_f.bs hn
 replace b_r:=b_r.bs hn
 clear hn
 refine Lw.take (dj:=24) O O<|Lw.val (Bx O) O<|Lw.val (Bd O O) O<|Af<|Aa<|Cw.out<|Au O ?_ ?_
 ·intro g
  refine Ae<|Ab<|Lw.val (Bn (vs:=[]) (cs:=[.slice none 0 0, .slice none 0 0]) O (by kernel_rfl)) O<|Ay (Bp (cs:=[.slice none 0 0, .slice none 0 0]) O O O O O b_r O) ?_
  rintro w3 ⟨b_r,hg, -⟩
  have hB:=hB.grown hg (below_size hB) (by rintro _ ⟨⟩;omega)
  refine Lw.val (Ac O) O<|Af<|Aa<|Cw.out<|An<|Ak<|Bf O O O (by assumption) (Tryz.underlying33) O O O ?_
  rw [show wofE t f st p=1 by simp_all [wofE]]
  exact ⟨hB,ansW_no (by decide)⟩
 intro g2
 have k_f:tok f.s f.l=true:=by simpa using g2
 have hE:wofE t f st p=wshE t.s f.s st p:=by rw [wofE,k_t,k_f];rfl
 clear g1 g2
 rw [hE]
 have h_t1:=h_t.1
 have h_f1:=h_f.1
 have zr0:=blk_lt b_r
 have zrB:=below_size hB
 refine Aq<|Aa<|Cw.out<|Ae<|Ab<|Lw.val (Ag (q:=0) Tryz.underlying33 O (sz_23 _) O) O<|Lw.val (Aj (ag_23 _) O (by assumption) O) O ?_
 refine Lw.val (Ag (q:=0) Tryz.underlying33 O (sz_23 _) O) O<|Lw.val (Aj (ag_23 _) O (by assumption) O) O ?_
 refine Lw.val (Ad O) O<|Lw.val (Ad O) O<|Al O O (rwshape_c t.s f.s st p t.x f.x _ h_t.1 h_f.1) ?_
 rintro _ w1 ⟨hn,x,m',rfl,hx,hno,hyes⟩
 replace hB:=hB.bs hn
 replace h_t:=h_t.bs hn
 replace h_f:=h_f.bs hn
 replace b_t:=b_t.bs hn
 replace b_f:=b_f.bs hn
 replace b_r:=b_r.bs hn
 clear hn
 refine Lw.val (Ad O) O<|Lw.val (Ax (i:=0) O O) O<|Lw.val (Ax (i:=1) O O) O<|Lw.val (Ac O) O<|Lw.val (Ac O) O<|Af<|Aa<|Cw.out<|Ae<|Ae<|Ab<|Lw.val (Ad O) O<|Lw.val (B7 O O) O<|Af<|Aa<|Cw.out<|Au O ?_ ?_
 ·intro g
  have g:wshE t.s f.s st p≠0:=by simpa using g
  refine Ae<|Ab<|Lw.val (Bn (vs:=[]) (cs:=[.slice none 0 0, .slice none 0 0]) O (by kernel_rfl)) O<|Lw.val (Ad O) O<|Ay (Bp (cs:=[.slice none 0 0, .slice none 0 0]) O O O O O b_r O) ?_
  rintro w3 ⟨b_r,hg, -⟩
  have hB:=hB.grown hg (below_size hB) (by rintro _ ⟨⟩;omega)
  refine Lw.val (Ac O) O<|Af<|Aa<|Cw.out<|An<|Ak<|Bf O O O (by assumption) (Tryz.underlying33) O O O ?_
  exact ⟨hB,ansW_no g⟩
 intro g
 have e0:wshE t.s f.s st p=0:=by simpa using g
 clear g
 rw [e0]
 have hm:=hyes e0
 have ok:=win_ok k_t k_f e0
 clear hno hyes e0 hE h_t1 h_f1
 obtain ⟨S,hS⟩:∃S,S=wshS t.s f.s st p:=⟨_,rfl⟩
 obtain ⟨N,hN⟩:∃N,N=wofN f:=⟨_,rfl⟩
 rw [hm,← hS] at hx
 rw [← hS]
 rw [← hS,← hN] at ok
 clear hm
 have lS:=ok.lS
 have okS:=ok.ok
 have szS:=Shapes.size_le S
 have szo:=Shapes.size_ok okS
 rw [prod3 lS] at szo
 have l3:=ok.lt
 have l4:=ok.lf
 have g0:=good_at ok.gS (k:=0) (by omega)
 have g1:=good_at ok.gS (k:=1) (by omega)
 have g2:=good_at ok.gS (k:=2) (by omega)
 have t0:=good_at ok.gt (k:=0) (by omega)
 have t1:=good_at ok.gt (k:=1) (by omega)
 have t2:=good_at ok.gt (k:=2) (by omega)
 have f0:=good_at ok.gf (k:=0) (by omega)
 have f1:=good_at ok.gf (k:=1) (by omega)
 have f2:=good_at ok.gf (k:=2) (by omega)
 have f3:=good_at ok.gf (k:=3) (by omega)
 have okn:=ok.n1
 have okst:=ok.st
 have okpd:=ok.pd
 have nN:=ok.n
 have cc:=ok.c
 have oo:=ok.o
 have fl:=ok.fl
 have m12:1*1≤f.s.getD 1 default*f.s.getD 2 default:=Int.mul_le_mul f1.1 f2.1 (by decide) (by omega)
 have m12' :f.s.getD 1 default*f.s.getD 2 default≤64*64:=Int.mul_le_mul f1.2 f2.2 (by omega) (by decide)
 have m23:1*1≤f.s.getD 2 default*f.s.getD 3 default:=Int.mul_le_mul f2.1 f3.1 (by decide) (by omega)
 have m23' :f.s.getD 2 default*f.s.getD 3 default≤64*64:=Int.mul_le_mul f2.2 f3.2 (by omega) (by decide)
 have nN2:f.s.getD 1 default*f.s.getD 2 default*f.s.getD 3 default=(N:Int):=by rw [nN,Int.mul_assoc]
 obtain ⟨d0,h0⟩:∃d:Nat,S.getD 0 default=(d:Int):=⟨_,(Int.toNat_of_nonneg (by omega)).symm⟩
 obtain ⟨d1,h1⟩:∃d:Nat,S.getD 1 default=(d:Int):=⟨_,(Int.toNat_of_nonneg (by omega)).symm⟩
 obtain ⟨d2,h2⟩:∃d:Nat,S.getD 2 default=(d:Int):=⟨_,(Int.toNat_of_nonneg (by omega)).symm⟩
 have hM:d0*(d1*d2)=(Shapes.size S).toNat:=by
  have:((d0*(d1*d2):Nat):Int)=Shapes.size S:=by rw [szo,h0,h1,h2];push_cast;rfl
  omega
 have zW:=below_size hB
 obtain ⟨B1,hB1⟩:∃B1,B1=w1.heap.size:=⟨_,rfl⟩
 have hxl:=own_block hx
 have q_t:A_t<B1:=hB1 ▸ blk_lt b_t
 have q_f:A_f<B1:=hB1 ▸ blk_lt b_f
 have q_r:A_r<B1:=hB1 ▸ blk_lt b_r
 have h_x:=own_slT hx
 have d1' :(f.s.drop 1).getD 0 default=f.s.getD 1 default:=by simp
 have d2' :(f.s.drop 1).getD 1 default=f.s.getD 2 default:=by simp
 have d3' :(f.s.drop 1).getD 2 default=f.s.getD 3 default:=by simp
 have ln:(f.s.drop 1).length=3:=by rw [List.length_drop,l4]
 refine Aq<|Aa<|Cw.out<|Ae<|Ab<|B8 it_33 O ?_
 rintro A_o w2 eA_o b_o hn2 zhn2
 have l_o:B1≤A_o:=by omega
 refine Af<|Aa<|Cw.out<|Ae<|Ab<|Lw.val (Ad O) O<|Lw.val (Ag (q:=0) Tryz.underlying33 O (sz_23 _) O) O<|Ay (Co (u:=x) (sz_23 _) O O h_x.one' b_o (by decide)) ?_
 rintro w3 ⟨b_o3,hg, -⟩
 have b_o3:Blk w3 A_o 33 [x, .slice none 0 0]:=b_o3
 have hK0:Below B1 w1 w3:=(hB1 ▸ hn2:Below B1 w1 w2).grown hg (by have:=hn2.size;omega) (by rintro _ ⟨⟩;omega)
 clear b_o hg hn2 zhn2
 refine Af<|Aa<|Cw.out<|Ae<|Ae<|Ab<|Lw.val (Ac O) O<|Af<|Aa<|Cw.out<|Cw.block ?_
 refine Bj (S:=Nat) (fun o=>[(2, .int .i64 st),(3, .int .i64 p),(4, .pointer (some ⟨A_t,0,none⟩)),(5, .pointer (some ⟨A_f,0,none⟩)),(8, .pointer (some ⟨A_r,0,none⟩)),(10,x),(12, .pointer (some ⟨A_o,0,none⟩)),(13, .int .i64 (o:Int))]) (fun o w' =>o≤d0∧RP A_o x B1 w1 (wofF t f st p) (o*d1*d2) w') (fun o=>d0 - o) (0) ⟨rfl,rfl,rfl,rfl,rfl,rfl,rfl,rfl,trivial⟩ ?_ ?_
 ·exact ⟨Nat.zero_le _,_,b_o3,by rw [Nat.zero_mul,Nat.zero_mul];exact World.ownsRow_nil _ _ _ _,hK0⟩
 clear b_o3 hK0
 rintro o w4 ⟨ho,hP⟩
 have h_x1:SlT (Value.int .i64) w4 x S:=Sl.stay h_x fun k e hne=>hP.bel.block k (by have:=hxl k e;omega)
 refine Ae<|Ae<|Ab<|Lw.val (Ad O) O<|Lw.val (Ad O) O<|Lw.val (Ba st_23 O O (by assumption) 0 O (by omega)) O ?_
 refine Lw.val (Bg (ag_3 _) O (by assumption) (by omega)) O ?_
 refine Lw.val (Bh O O) O<|Af<|Aa<|Cw.out<|Au O ?_ ?_
 ·intro h
  have ho' :o<d0:=by have:=of_decide_eq_true h;omega
  refine Aq<|Aa<|Cw.out<|Ae<|Cw.block<|Ae<|Ab<|Lw.val (Ac O) O<|Af<|Aa<|Cw.out<|Cw.block ?_
  refine Bj (S:=Nat) (fun y=>[(2, .int .i64 st),(3, .int .i64 p),(4, .pointer (some ⟨A_t,0,none⟩)),(5, .pointer (some ⟨A_f,0,none⟩)),(8, .pointer (some ⟨A_r,0,none⟩)),(10,x),(12, .pointer (some ⟨A_o,0,none⟩)),(13, .int .i64 (o:Int)),(14, .int .i64 (y:Int))]) (fun y w' =>y≤d1∧RP A_o x B1 w1 (wofF t f st p) ((o*d1+y)*d2) w') (fun y=>d1 - y) (0) ⟨rfl,rfl,rfl,rfl,rfl,rfl,rfl,rfl,rfl,trivial⟩ ?_ ?_
  ·exact ⟨Nat.zero_le _,hP⟩
  clear hP h_x1
  rintro y w5 ⟨hy,hP⟩
  have h_x1:SlT (Value.int .i64) w5 x S:=Sl.stay h_x fun k e hne=>hP.bel.block k (by have:=hxl k e;omega)
  refine Ae<|Ae<|Ab<|Lw.val (Ad O) O<|Lw.val (Ad O) O<|Lw.val (Ba st_23 O O (by assumption) 1 O (by omega)) O ?_
  refine Lw.val (Bg (ag_3 _) O (by assumption) (by omega)) O ?_
  refine Lw.val (Bh O O) O<|Af<|Aa<|Cw.out<|Au O ?_ ?_
  ·intro h
   have hy' :y<d1:=by have:=of_decide_eq_true h;omega
   refine Aq<|Aa<|Cw.out<|Ae<|Cw.block<|Ae<|Ab<|Lw.val (Ac O) O<|Af<|Aa<|Cw.out<|Cw.block ?_
   refine Bj (S:=Nat) (fun v=>[(2, .int .i64 st),(3, .int .i64 p),(4, .pointer (some ⟨A_t,0,none⟩)),(5, .pointer (some ⟨A_f,0,none⟩)),(8, .pointer (some ⟨A_r,0,none⟩)),(10,x),(12, .pointer (some ⟨A_o,0,none⟩)),(13, .int .i64 (o:Int)),(14, .int .i64 (y:Int)),(15, .int .i64 (v:Int))]) (fun v w' =>v≤d2∧RP A_o x B1 w1 (wofF t f st p) ((o*d1+y)*d2+v) w') (fun v=>d2 - v) (0) ⟨rfl,rfl,rfl,rfl,rfl,rfl,rfl,rfl,rfl,rfl,trivial⟩ ?_ ?_
   ·exact ⟨Nat.zero_le _,hP⟩
   clear hP h_x1
   rintro v w6 ⟨hv,hP⟩
   have h_x1:SlT (Value.int .i64) w6 x S:=Sl.stay h_x fun k e hne=>hP.bel.block k (by have:=hxl k e;omega)
   refine Ae<|Ae<|Ab<|Lw.val (Ad O) O<|Lw.val (Ad O) O<|Lw.val (Ba st_23 O O (by assumption) 2 O (by omega)) O ?_
   refine Lw.val (Bg (ag_3 _) O (by assumption) (by omega)) O ?_
   refine Lw.val (Bh O O) O<|Af<|Aa<|Cw.out<|Au O ?_ ?_
   ·intro h
    have hv' :v<d2:=by have:=of_decide_eq_true h;omega
    obtain ⟨lv,b_o,hl,hK⟩:=hP
    have hn0:=nest_lt ho' hy' hv' (Nat.le_of_eq hM)
    obtain ⟨n,hn⟩:∃n,n=(o*d1+y)*d2+v:=⟨_,rfl⟩
    obtain ⟨sc,sy,sx⟩:=spot_nat (o:=o) h1 h2 hy' hv'
    rw [← hn] at sc sy sx hn0 hl
    have my:0≤(y:Int)*st∧(y:Int)*st≤64*8:=⟨Int.mul_nonneg (by omega) (by omega),Int.mul_le_mul (by omega) okst.2 (by omega) (by decide)⟩
    have mv:0≤(v:Int)*st∧(v:Int)*st≤64*8:=⟨Int.mul_nonneg (by omega) (by omega),Int.mul_le_mul (by omega) okst.2 (by omega) (by decide)⟩
    have o1:0≤(o:Int)*f.s.getD 1 default∧(o:Int)*f.s.getD 1 default≤64*64:=⟨Int.mul_nonneg (by omega) (by omega),Int.mul_le_mul (by omega) f1.2 (by omega) (by decide)⟩
    have o2:0≤(o:Int)*f.s.getD 1 default*f.s.getD 2 default∧(o:Int)*f.s.getD 1 default*f.s.getD 2 default≤64*64*64:=⟨Int.mul_nonneg o1.1 (by omega),Int.mul_le_mul o1.2 f2.2 (by omega) (by decide)⟩
    have oN:(o:Int)*f.s.getD 1 default*f.s.getD 2 default*f.s.getD 3 default=(o:Int)*(N:Int):=by rw [← nN2,Int.mul_assoc (o:Int),Int.mul_assoc (o:Int)]
    have oN2:0≤(o:Int)*(N:Int):=Int.mul_nonneg (by omega) (by omega)
    have oN3:((o:Int)+1)*(N:Int)≤f.s.getD 0 default*(N:Int):=Int.mul_le_mul_of_nonneg_right (by omega) (by omega)
    have f0N:f.s.getD 0 default*(N:Int)≤64*4096:=Int.mul_le_mul f0.2 (by omega) (by omega) (by decide)
    rw [Int.add_mul,Int.one_mul] at oN3
    refine Aq<|Aa<|Cw.out<|Ae<|Cw.block<|Ae<|Ab<|Lw.val (Ac (show _=some (i32 (0#32)) from rfl)) O<|Af<|Aa<|Cw.out<|Ae<|Ae<|Ab<|Lw.val (Ac O) O<|Af<|Aa<|Cw.out<|Cw.block ?_
    refine Bj (S:=Nat) (fun k=>[(2, .int .i64 st),(3, .int .i64 p),(4, .pointer (some ⟨A_t,0,none⟩)),(5, .pointer (some ⟨A_f,0,none⟩)),(8, .pointer (some ⟨A_r,0,none⟩)),(10,x),(12, .pointer (some ⟨A_o,0,none⟩)),(13, .int .i64 (o:Int)),(14, .int .i64 (y:Int)),(15, .int .i64 (v:Int)),(16,i32 (winS t.l f.l t.s S (f.s.drop 1) N st p n k)),(17, .int .i64 (k:Int))]) (fun k w' =>k≤N∧Below w6.heap.size w6 w') (fun k=>N - k) (0) ⟨rfl,rfl,rfl,rfl,rfl,rfl,rfl,rfl,rfl,rfl,rfl,rfl,trivial⟩ ?_ ?_
    ·exact ⟨Nat.zero_le _,Below.refl _ _⟩
    rintro k w8 ⟨hk,hn8⟩
    have hK8:=hK.trans (hn8.mono (by have:=hK.size;omega))
    have b_f8:=b_f.bl hK8 q_f
    have h_f8:=rw_stay h_f h_f (Nat.le_of_eq hB1.symm) hK8
    have h_f81:=h_f8.1
    refine Ae<|Ae<|B5 mixed (by kernel_rfl)<|Qw.val (fun w1 hq=>Ad O) O<|Qw.val (fun w1 hq=>Ag (q:=0) Tryz.underlying33 O (sz_23 _) O) O<|Qw.val (fun w1 hq=>Aj (ag_23 _) O (Blk.bs (by assumption) hq) O) O ?_
    refine Qw.val (fun w1 hq=>Ba st_23 O O (Sl.bs (by assumption) hq) 1 O (by omega)) O ?_
    refine Qw.val (fun w1 hq=>Bg (ag_3 _) O (Sl.bs (by assumption) hq) (by omega)) O ?_
    refine Qw.val (fun w1 hq=>Ag (q:=0) Tryz.underlying33 O (sz_23 _) O) O<|Qw.val (fun w1 hq=>Aj (ag_23 _) O (Blk.bs (by assumption) hq) O) O ?_
    refine Qw.val (fun w1 hq=>Ba st_23 O O (Sl.bs (by assumption) hq) 2 O (by omega)) O ?_
    refine Qw.val (fun w1 hq=>Bg (ag_3 _) O (Sl.bs (by assumption) hq) (by omega)) O ?_
    refine Qw.val (fun w1 hq=>Ca O O (by omega)) O<|Qw.val (fun w1 hq=>Ag (q:=0) Tryz.underlying33 O (sz_23 _) O) O<|Qw.val (fun w1 hq=>Aj (ag_23 _) O (Blk.bs (by assumption) hq) O) O ?_
    refine Qw.val (fun w1 hq=>Ba st_23 O O (Sl.bs (by assumption) hq) 3 O (by omega)) O ?_
    refine Qw.val (fun w1 hq=>Bg (ag_3 _) O (Sl.bs (by assumption) hq) (by omega)) O ?_
    refine Qw.val (fun w1 hq=>(Ca O O (by omega)).as (congrArg (Value.int .i64) nN2)) O<|Qw.val (fun w1 hq=>Bh O O) O ?_
    refine B3 (fun w7 hq=> ?_)
    refine Aa<|Cw.out<|Au O ?_ ?_
    ·intro h
     have hk' :k<N:=by have:=of_decide_eq_true h;omega
     have hk0:(0:Int)≤(k:Int):=by omega
     have hn9:=bt hn8 hq
     clear hq
     have hK9:=hK.trans (hn9.mono (by have:=hK.size;omega))
     have b_f9:=b_f.bl hK9 q_f
     have b_t9:=b_t.bl hK9 q_t
     have h_f9:=rw_stay h_f h_f (Nat.le_of_eq hB1.symm) hK9
     have h_t9:=rw_stay h_t h_t (Nat.le_of_eq hB1.symm) hK9
     have h_f91:=h_f9.1
     have jc:0≤spc (f.s.drop 1) k∧spc (f.s.drop 1) k<f.s.getD 1 default:=by rw [← d1'];exact spc_in ok.okf ln (by have:=Shapes.size_le (f.s.drop 1);unfold wofN at hN;omega)
     have jy:0≤spy (f.s.drop 1) k∧spy (f.s.drop 1) k<64:=by
      have h1:=Int.emod_nonneg ((k:Int) / (f.s.drop 1).getD 2 default) (b:=(f.s.drop 1).getD 1 default) (by omega)
      have h2:=Int.emod_lt_of_pos ((k:Int) / (f.s.drop 1).getD 2 default) (b:=(f.s.drop 1).getD 1 default) (by omega)
      unfold spy;omega
     have jx:0≤spx (f.s.drop 1) k∧spx (f.s.drop 1) k<64:=by
      have h1:=Int.emod_nonneg (k:Int) (b:=(f.s.drop 1).getD 2 default) (by omega)
      have h2:=Int.emod_lt_of_pos (k:Int) (b:=(f.s.drop 1).getD 2 default) (by omega)
      unfold spx;omega
     have tl:(spc (f.s.drop 1) k+1)*(t.s.getD 1 default*t.s.getD 2 default)≤t.l.length:=by
      rw [ok.tl,ok.c]
      exact Int.mul_le_mul_of_nonneg_right (by omega) (Int.mul_nonneg (by omega) (by omega))
     obtain ⟨K,hKK⟩:∃K:Nat,(o:Int)*(N:Int)+(k:Int)=(K:Int):=⟨_,(Int.toNat_of_nonneg (by omega)).symm⟩
     have hKl:K<f.l.length:=by omega
     have eK:(spc S (n:Int)).toNat*N+k=K:=by
      rw [sc,Int.toNat_natCast]
      have h2:((o*N+k:Nat):Int)=(K:Int):=by push_cast;exact hKK
      exact_mod_cast h2
     have eS:winS t.l f.l t.s S (f.s.drop 1) N st p n k+pic t.l (t.s.getD 1 default) (t.s.getD 2 default) (spc (f.s.drop 1) k) ((y:Int)*st - p+spy (f.s.drop 1) k) ((v:Int)*st - p+spx (f.s.drop 1) k)*f.l.getD K default=winS t.l f.l t.s S (f.s.drop 1) N st p n (k+1):=by
      rw [← eK,← sy,← sx];rfl
     refine Aq<|Aa<|Cw.out<|Ae<|Cw.block<|Ae<|B5 mixed (by kernel_rfl)<|Qw.val (fun w1 hq=>Ad O) O<|Qw.val (fun w1 hq=>Ag (q:=0) Tryz.underlying33 O (sz_23 _) O) O<|Qw.val (fun w1 hq=>Aj (ag_23 _) O (Blk.bs (by assumption) hq) O) O ?_
     refine Qw.val (fun w1 hq=>Ba st_23 O O (Sl.bs (by assumption) hq) 2 O (by omega)) O ?_
     refine Qw.val (fun w1 hq=>Bg (ag_3 _) O (Sl.bs (by assumption) hq) (by omega)) O ?_
     refine Qw.val (fun w1 hq=>Ag (q:=0) Tryz.underlying33 O (sz_23 _) O) O<|Qw.val (fun w1 hq=>Aj (ag_23 _) O (Blk.bs (by assumption) hq) O) O ?_
     refine Qw.val (fun w1 hq=>Ba st_23 O O (Sl.bs (by assumption) hq) 3 O (by omega)) O ?_
     refine Qw.val (fun w1 hq=>Bg (ag_3 _) O (Sl.bs (by assumption) hq) (by omega)) O ?_
     refine Qw.val (fun w1 hq=>Ca O O (by omega)) O<|Qw.val (fun w1 hq=>(Ct O O (by omega) (by omega)).as (congrArg (Value.int .i64) (show _=spc (f.s.drop 1) k by unfold spc;rw [d2',d3']))) O<|Qw.val (fun w1 hq=>Ac O) O ?_
     refine B3 (fun w9 hq=> ?_)
     refine Aa<|Cw.out<|Ae ?_
     have hn10:=bt hn9 hq
     have b_f10:=b_f9.bs hq
     have h_f101:=h_f91.bs hq
     have b_t10:=b_t9.bs hq
     have h_f10:=h_f9.bs hq
     have h_t10:=h_t9.bs hq
     clear hq
     refine B5 mixed (by kernel_rfl)<|Qw.val (fun w1 hq=>Ad O) O<|Qw.val (fun w1 hq=>Ag (q:=0) Tryz.underlying33 O (sz_23 _) O) O<|Qw.val (fun w1 hq=>Aj (ag_23 _) O (Blk.bs (by assumption) hq) O) O ?_
     refine Qw.val (fun w1 hq=>Ba st_23 O O (Sl.bs (by assumption) hq) 3 O (by omega)) O ?_
     refine Qw.val (fun w1 hq=>Bg (ag_3 _) O (Sl.bs (by assumption) hq) (by omega)) O ?_
     refine Qw.val (fun w1 hq=>Ct O O (by omega) (by omega)) O<|Qw.val (fun w1 hq=>Ag (q:=0) Tryz.underlying33 O (sz_23 _) O) O<|Qw.val (fun w1 hq=>Aj (ag_23 _) O (Blk.bs (by assumption) hq) O) O ?_
     refine Qw.val (fun w1 hq=>Ba st_23 O O (Sl.bs (by assumption) hq) 2 O (by omega)) O ?_
     refine Qw.val (fun w1 hq=>Bg (ag_3 _) O (Sl.bs (by assumption) hq) (by omega)) O ?_
     refine Qw.val (fun w1 hq=>(Ex.remI O O (Int.ediv_nonneg (by omega) (by omega)) (by omega)).as (congrArg (Value.int .i64) (show _=spy (f.s.drop 1) k by unfold spy;rw [d2',d3']))) O<|Qw.val (fun w1 hq=>Ac O) O ?_
     refine B3 (fun w10 hq=> ?_)
     refine Aa<|Cw.out<|Ae ?_
     have hn11:=bt hn10 hq
     have b_f11:=b_f10.bs hq
     have b_t11:=b_t10.bs hq
     have h_f111:=h_f101.bs hq
     have h_f112:=h_f10.2.bs hq
     have h_t11:=h_t10.bs hq
     clear hq
     refine Ab<|Lw.val (Ad O) O<|Lw.val (Ag (q:=0) Tryz.underlying33 O (sz_23 _) O) O<|Lw.val (Aj (ag_23 _) O (by assumption) O) O ?_
     refine Lw.val (Ba st_23 O O (by assumption) 3 O (by omega)) O ?_
     refine Lw.val (Bg (ag_3 _) O (by assumption) (by omega)) O ?_
     refine Lw.val ((Ex.remI O O (by omega) (by omega)).as (congrArg (Value.int .i64) (show _=spx (f.s.drop 1) k by unfold spx;rw [d3']))) O<|Lw.val (Ac O) O<|Af<|Aa<|Cw.out<|B5 mixed (by kernel_rfl)<|Qw.val (fun w1 hq=>Ad O) O<|Qw.val (fun w1 hq=>Bw (ag_33 _) (sz_33 _) O O (Blk.bs (by assumption) hq)) O ?_
     refine Qw.val (fun w1 hq=>Ad O) O<|Qw.val (fun w1 hq=>Ad O) O<|Qw.val (fun w1 hq=>Ad O) O<|Qw.val (fun w1 hq=>Ca O O (by omega)) O<|Qw.val (fun w1 hq=>Ad O) O<|Qw.val (fun w1 hq=>Cx O O (by omega)) O<|Qw.val (fun w1 hq=>Ad O) O<|Qw.val (fun w1 hq=>Bc O O (by omega)) O<|Qw.val (fun w1 hq=>Ad O) O<|Qw.val (fun w1 hq=>Ad O) O<|Qw.val (fun w1 hq=>Ca O O (by omega)) O<|Qw.val (fun w1 hq=>Ad O) O<|Qw.val (fun w1 hq=>Cx O O (by omega)) O<|Qw.val (fun w1 hq=>Ad O) O<|Qw.val (fun w1 hq=>Bc O O (by omega)) O<|B9 O O (fun w1 hq=>(rat8_c t (spc (f.s.drop 1) k) ((y:Int)*st - p+spy (f.s.drop 1) k) ((v:Int)*st - p+spx (f.s.drop 1) k) w1 (h_t11.bs hq) l3 (by omega) (by omega) (by omega) (by omega) (by omega) tl).q hq)<|Qw.val (fun w1 hq=>Ag (q:=0) Tryz.underlying33 O (sz_31 _) O) O<|Qw.val (fun w1 hq=>Aj (ag_31 _) O (Blk.bs (by assumption) hq) O) O ?_
     refine Qw.val (fun w1 hq=>Ad O) O<|Qw.val (fun w1 hq=>Ag (q:=0) Tryz.underlying33 O (sz_23 _) O) O<|Qw.val (fun w1 hq=>Aj (ag_23 _) O (Blk.bs (by assumption) hq) O) O ?_
     refine Qw.val (fun w1 hq=>Ba st_23 O O (Sl.bs (by assumption) hq) 1 O (by omega)) O ?_
     refine Qw.val (fun w1 hq=>Bg (ag_3 _) O (Sl.bs (by assumption) hq) (by omega)) O ?_
     refine Qw.val (fun w1 hq=>Ca O O (by omega)) O<|Qw.val (fun w1 hq=>Ag (q:=0) Tryz.underlying33 O (sz_23 _) O) O<|Qw.val (fun w1 hq=>Aj (ag_23 _) O (Blk.bs (by assumption) hq) O) O ?_
     refine Qw.val (fun w1 hq=>Ba st_23 O O (Sl.bs (by assumption) hq) 2 O (by omega)) O ?_
     refine Qw.val (fun w1 hq=>Bg (ag_3 _) O (Sl.bs (by assumption) hq) (by omega)) O ?_
     refine Qw.val (fun w1 hq=>Ca O O (by omega)) O<|Qw.val (fun w1 hq=>Ag (q:=0) Tryz.underlying33 O (sz_23 _) O) O<|Qw.val (fun w1 hq=>Aj (ag_23 _) O (Blk.bs (by assumption) hq) O) O ?_
     refine Qw.val (fun w1 hq=>Ba st_23 O O (Sl.bs (by assumption) hq) 3 O (by omega)) O ?_
     refine Qw.val (fun w1 hq=>Bg (ag_3 _) O (Sl.bs (by assumption) hq) (by omega)) O ?_
     refine Qw.val (fun w1 hq=>(Ca O O (by omega)).as (congrArg (Value.int .i64) oN)) O<|Qw.val (fun w1 hq=>Ad O) O<|Qw.val (fun w1 hq=>Bc O O (by omega)) O<|Qw.val (fun w1 hq=>Ba st_31 O O (Sl.bs h_f112 hq) K hKK hKl) O<|Qw.val (fun w1 hq=>Bg (ag_21 _) O (Sl.bs h_f112 hq) hKl) O<|Qw.val (fun w1 hq=>Ex.muli32 O O) O<|Qw.val (fun w1 hq=>Cy O O) O<|Qw.val (fun w1 hq=>Ac O) O ?_
     refine B3 (fun w11 hq=> ?_)
     refine Bo<|Aa<|Cw.out<|Ab<|Lw.val (Ad O) O<|Lw.val (Bc O O (by omega)) O<|Lw.val (Ac O) O<|Af ?_
     exact Aa (Bq (k+1) ⟨rfl,rfl,rfl,rfl,rfl,rfl,rfl,rfl,rfl,rfl,congrArg (fun z=>some (i32 z)) eS,rfl,trivial⟩ (⟨hk',bt hn11 hq⟩) (by omega))
    intro h
    have hk' :k=N:=by have:=of_decide_eq_false h;omega
    have hn8:=bt hn8 hq
    clear hK8 b_f8 h_f8 h_f81 hq
    subst hk'
    rw [show winS t.l f.l t.s S (f.s.drop 1) k st p n k=wofF t f st p n by unfold wofF;rw [← hS,← hN]]
    have b_o:=b_o.bs hn8
    have hl:=own_bs hl hn8
    have hK8:=hK.trans (hn8.mono (by have:=hK.size;omega))
    refine Bi<|Am<|Am<|Az<|Aa<|Cw.out<|Ab<|Lw.val (Ag (q:=0) Tryz.underlying33 O (sz_31 _) O) O<|Lw.val (Aj (ag_31 _) O (by assumption) O) O ?_
    refine Lw.val (Ad O) O<|Bl (Cp (vs:=[wofF t f st p n].map i32) st_31 it_21 O O O O O) O ?_
    rintro z w5 ⟨hz, -,hn5, -⟩
    have b_o:=b_o.bs hn5
    have hl:=own_bs hl hn5
    have hK5:=hK8.trans (hn5.mono (by have:=hK8.size;omega))
    refine Bl (Cq (base:=B1) st_31 it_21 O (by decide) O O hl (own_sl hz) (one_map (fun _=>rfl) _) (by omega) (by omega) (by have:=hK5.size;omega)) O ?_
    rintro lv2 w10 ⟨hl6,hb6,hg6⟩
    rw [← List.map_append,← List.map_singleton (f:=wofF t f st p),← List.map_append,← List.range_succ] at hl6
    have b_o6:=b_o.by hg6 (blk_own_ne hl b_o (by decide))
    have hK6:=hK5.trans hb6
    refine Lw.val (Ag (q:=0) Tryz.underlying33 O (sz_31 _) O) O<|Ay (Co (u:=lv2) (sz_31 _) O O (own_sl hl6).one' b_o6 Nat.one_lt_two) ?_
    rintro w11 ⟨b_o7,hg7, -⟩
    have hl7:=own_apart hl6 b_o6 (by decide) hg7
    have hK7:=hK6.grown hg7 (by have:=hK6.size;omega) (by rintro _ ⟨⟩;omega)
    refine Af<|Bo<|Aa<|Cw.out<|Ab<|Lw.val (Ad O) O<|Lw.val (Bc O O (by omega)) O<|Lw.val (Ac O) O<|Af ?_
    exact Aa (Bq (v+1) ⟨rfl,rfl,rfl,rfl,rfl,rfl,rfl,rfl,rfl,rfl,trivial⟩ (⟨hv',lv2,b_o7,by rw [← Nat.add_assoc,← hn];exact hl7,hK7⟩) (by omega))
   intro h
   have hv' :v=d2:=by have:=of_decide_eq_false h;omega
   subst hv'
   refine Bi<|Am<|Am<|Az<|Bo<|Aa<|Cw.out<|Ab<|Lw.val (Ad O) O<|Lw.val (Bc O O (by omega)) O<|Lw.val (Ac O) O<|Af ?_
   exact Aa (Bq (y+1) ⟨rfl,rfl,rfl,rfl,rfl,rfl,rfl,rfl,rfl,trivial⟩ (⟨hy',by rw [← Nat.add_assoc,Nat.succ_mul];exact hP⟩) (by omega))
  intro h
  have hy' :y=d1:=by have:=of_decide_eq_false h;omega
  subst hy'
  refine Bi<|Am<|Am<|Az<|Bo<|Aa<|Cw.out<|Ab<|Lw.val (Ad O) O<|Lw.val (Bc O O (by omega)) O<|Lw.val (Ac O) O<|Af ?_
  exact Aa (Bq (o+1) ⟨rfl,rfl,rfl,rfl,rfl,rfl,rfl,rfl,trivial⟩ (⟨ho',by rw [Nat.succ_mul];exact hP⟩) (by omega))
 intro h
 have ho' :o=d0:=by have:=of_decide_eq_false h;omega
 subst ho'
 obtain ⟨lv,b_o,hl,hK⟩:=hP
 have eL:(List.range (o*d1*d2)).map (wofF t f st p)=wofL t f st p:=by unfold wofL;rw [← hS,← hM,Nat.mul_assoc]
 have lL:(wofL t f st p).length=o*d1*d2:=by rw [← eL];simp
 rw [eL,← lL] at hl
 have b_r4:=b_r.bl hK q_r
 have hx4:=own_heap hx (fun k e=>hK.block k (by have:=hxl k e;omega))
 have hB4:=hB.trans (hK.mono (by omega))
 have hox:=own_block hl
 have hxo:=(own_sl hl).one'
 have hxx:=(own_sl hx4).one'
 refine Bi<|Am<|Am<|Az<|Aa<|Cw.out<|Ae<|Ab<|Lw.val (Bw (ag_33 _) (sz_33 _) O O (by assumption)) O ?_
 refine Ay (Bp (cs:=[x,lv]) O O O O (by simp [hxo,hxx]) b_r4 O) ?_
 rintro w5 ⟨b_r5,hg, -⟩
 have hl5:=own_apart hl b_r4 (by decide) hg
 have hx5:=own_apart hx4 b_r4 (by decide) hg
 have hB5:=hB4.grown hg (below_size hB4) (by rintro _ ⟨⟩;omega)
 refine Lw.val (Ac O) O<|Af<|Aa<|Cw.out<|An<|Bf O O O (by assumption) (Tryz.underlying33) O O O ?_
 exact ⟨hB5,x,lv,rfl,fun h=>absurd rfl h,fun _=>⟨.inl (own_mono hx5 (by omega)),own_mono hl5 (by omega),fun k e1 e2=>by have:=hox k e1;have:=hxl k e2;omega⟩⟩
end Go.Proofs.YtmipoeanpnnjoaaGreatDoor

/-! Contracts: the same numbers elsewhere: another shape, another order. -/
namespace Go.Proofs.YtmipoeanpnnjoaaGreatDoor
open Go Go.Dd Go.RowKit
set_option maxRecDepth 100000

/-- A tensor of one's own, of which both lists may be clipped. -/
structure MadeK (W w:World) (x y:Value) (s:List Int) (l:List (BitVec 32)):Prop where
 row:KRow w W.heap.size 3 1 x s.length (s.map (Value.int .i64))
 col:KRow w W.heap.size 21 1 y l.length (l.map i32)
 apart:Apt y x
theorem MadeK.at {W w:World} {x y:Value} {s:List Int} {l:List (BitVec 32)} (h:MadeK W w x y s l):(T4.mk x y s l).at w:=⟨h.row.slT,h.col.slT⟩
theorem Made1.k {W w:World} {x y:Value} {s:List Int} {l:List (BitVec 32)} (h:Made1 W w x y s l):MadeK W w x y s l:=⟨h.row, .inl h.own,h.apart⟩
/-- An answer: a tensor of one's own, or none at all. -/
def AnsK (W w:World) (r:Value) (e:Int) (s:List Int) (l:List (BitVec 32)):Prop:=
 ∃x y,r= .tuple #[.agg #[x,y], .int .i64 e]∧(e≠0→x= .slice none 0 0∧y= .slice none 0 0)∧(e=0→MadeK W w x y s l)
theorem ansK_no {W w:World} {e:Int} {s:List Int} {l:List (BitVec 32)} (h:e≠0):AnsK W w (.tuple #[.agg #[.slice none 0 0, .slice none 0 0], .int .i64 e]) e s l:=⟨_,_,rfl,fun _=>⟨rfl,rfl⟩,fun h0=>absurd h0 h⟩
theorem bl_krow {w w' :World} {base B:Nat} {e:TypeId} {sz n:Nat} {v:Value} {xs:List Value} (h:KRow w base e sz v n xs) (g:w.grownBy w' (some B)) (hB:B<base):KRow w' base e sz v n xs:=
 h.by' g (by
  cases hc:v.ownBlock with
  |none=>exact .inl rfl
  |some b=>exact .inr fun e=>by have:=(h.lt b hc).1;cases e;omega)
theorem at_stay {w0 w w' :World} {a:T4} {B:Nat} (p:a.at w0) (h:a.at w) (hB:w0.heap.size≤B) (g:Below B w w'):a.at w' :=
 ⟨Sl.stay h.1 fun k e hne=>g.block k (Nat.lt_of_lt_of_le (Sl.blk p.1 hne k e) hB),Sl.stay h.2 fun k e hne=>g.block k (Nat.lt_of_lt_of_le (Sl.blk p.2 hne k e) hB)⟩

theorem clone32_c (u:Value) (a:List (BitVec 32)) (w:World) (hu:SlT i32 w u a) (hb:a.length≤4194304):Fnc Tryz.prog 193 [u] w (fun r w' =>w'.ownsRow w.heap.size 21 1 r a.length (a.map i32)∧Below w.heap.size w w'):=by
 obtain ⟨hl,ao,cap,rfl,h1,h2,h3,h4⟩:=hu
 have hu:SlT i32 w (.slice ao a.length cap) a:=⟨hl,ao,cap,rfl,h1,h2,h3,h4⟩
 refine Ap (n:=8) Tryz.func193 (by kernel_rfl) O O O<|Ae<|Ab<|Lw.val (Ac O) O<|Af<|Aa<|Cw.out<|Ae<|Ae<|Ab<|Lw.val (Ad O) O<|Lw.val (Ex.nilS un_31 O O) O<|Af<|Aa<|Cw.out<|Au O ?_ ?_
 ·intro h
  obtain rfl:ao=none:=by cases ao<;>simp_all
  obtain rfl:a=[]:=List.eq_nil_of_length_eq_zero (by have:=h3 rfl;omega)
  refine Ae<|Ab<|Lw.val (Ac O) O<|Af<|Aa<|Cw.out<|An<|Ak<|Bb O O ?_
  exact ⟨⟨rfl, .inl ⟨rfl,rfl⟩⟩,Below.refl _ _⟩
 intro h
 refine Aq<|Aa<|Cw.out<|Ae<|Ab<|Bl (Cp (vs:=[]) st_31 it_21 O O O O O) O ?_
 rintro v1 w1 ⟨ho1, -,hB1, -⟩
 refine Lw.val (Ad O) O<|Bl (Cq (base:=w.heap.size) st_31 it_21 O (by decide) O O ho1 (hu.bs hB1) (one_map (fun _=>rfl) _) (by omega) (by omega) hB1.size) O ?_
 rintro v2 w2 ⟨ho2,hB2, -⟩
 rw [Nat.zero_add,List.nil_append] at ho2
 refine Lw.val (Ac O) O<|Af<|Aa<|Cw.out<|An<|Bb O O ?_
 exact ⟨ho2,hB1.trans hB2⟩
theorem clip32_c (u:Value) (a:List (BitVec 32)) (w:World) (hu:SlT i32 w u a):Fnc Tryz.prog 192 [u] w (fun r w' =>r=clip u∧Below w.heap.size w w'):=by
 refine Ap (n:=9) Tryz.func192 (by kernel_rfl) O O O<|Ae<|Ab<|Lw.val (Ac O) O<|Af<|Aa<|Cw.out<|Ae<|Ab<|Lw.val (Ad O) O<|Lw.val (Ad O) O<|Lw.val (Av st_31 O (by assumption)) O ?_
 refine Lw.val (Ad O) O<|Lw.val (Av st_31 O (by assumption)) O ?_
 refine Lw.val (Ex.clip st_31 O O O hu.shp) O<|Lw.val (Ac O) O<|Af<|Aa<|Cw.out<|An<|Bb O O ?_
 exact ⟨rfl,Below.refl _ _⟩

def mvE (t:T4) (s:List Int):Int:=if tok t.s t.l && Shapes.ok s then (if Shapes.size s=(t.l.length:Int) then 0 else 10) else 1
theorem mshape_c (t:T4) (u:Value) (s:List Int) (W:World) (h_t:t.at W) (h_u:SlT (Value.int .i64) W u s):
  Fnc Tryz.prog 124 [t.v,u] W (fun r w' =>Below W.heap.size W w' ∧AnsK W w' r (mvE t s) s t.l):=by
 have hB:=Below.refl W.heap.size W
 refine Ap (n:=32) Tryz.func124 (by kernel_rfl) O O O<|Ae<|Ab<|Bv (cs:=[t.x,t.y]) O O O ?_
 rintro A_t w eA_t b_t hn -
 replace hB:=hB.bs hn
 replace h_t:=h_t.bs hn
 replace h_u:=h_u.bs hn
 clear hn
 have z0:=below_size hB
 have y_t:=blk_lt b_t
 refine B8 it_33 O ?_
 rintro A_r w eA_r b_r hn -
 replace hB:=hB.bs hn
 replace h_t:=h_t.bs hn
 replace h_u:=h_u.bs hn
 replace b_t:=b_t.bs hn
 clear hn
 refine Lw.val (Ac O) O<|Af<|Aa<|Cw.out<|Ae<|Cw.block<|Ae<|Ab<|Lw.val (Bw (ag_33 _) (sz_33 _) O O (by assumption)) O ?_
 have z_r:=blk_lt b_r
 refine Al O O (tcheck_c t.x t.y t.s t.l _ h_t.1 h_t.2) ?_
 rintro _ w ⟨rfl,hn⟩
 replace hB:=hB.bs hn
 replace h_t:=h_t.bs hn
 replace h_u:=h_u.bs hn
 replace b_t:=b_t.bs hn
 replace b_r:=b_r.bs hn
 clear hn
 refine Lw.val (Bx O) O<|Lw.val (Ad O) O ?_
 refine Bt 10 O ?_ ?_
 ·intro g
  refine Ai (dj:=10) O O O O<|Ai (dj:=10) O O O O<|Ai (dj:=10) O O O O<|Lw.val (As O O) O<|Lw.val (Ac O) O<|Af<|Aa<|Cw.out<|Br O<|Ae<|Ab<|Lw.val (Bn (vs:=[]) (cs:=[.slice none 0 0, .slice none 0 0]) O (by kernel_rfl)) O<|Ay (Bp (cs:=[.slice none 0 0, .slice none 0 0]) O O O O O b_r O) ?_
  rintro w3 ⟨b_r,hg, -⟩
  have hB:=hB.grown hg (below_size hB) (by rintro _ ⟨⟩;omega)
  refine Lw.val (Ac O) O<|Af<|Aa<|Cw.out<|An<|Bk<|Ak<|Bf O O O (by assumption) (Tryz.underlying33) O O O ?_
  rw [show mvE t s=1 by simp_all [mvE]]
  exact ⟨hB,ansK_no (by decide)⟩
 intro g1
 refine Lw.take (dj:=10) O O<|Lw.val (Ad O) O<|Lw.take (dj:=10) O O<|Al O O (check_c u s _ h_u) ?_
 rintro _ w ⟨rfl,hn⟩
 replace hB:=hB.bs hn
 replace h_t:=h_t.bs hn
 replace h_u:=h_u.bs hn
 replace b_t:=b_t.bs hn
 replace b_r:=b_r.bs hn
 clear hn
 refine Lw.take (dj:=10) O O<|Lw.val (Bx O) O<|Lw.val (Bd O O) O<|Lw.val (Ac O) O<|Af<|Aa<|Cw.out<|Au O ?_ ?_
 ·intro g
  refine Ae<|Ab<|Lw.val (Bn (vs:=[]) (cs:=[.slice none 0 0, .slice none 0 0]) O (by kernel_rfl)) O<|Ay (Bp (cs:=[.slice none 0 0, .slice none 0 0]) O O O O O b_r O) ?_
  rintro w3 ⟨b_r,hg, -⟩
  have hB:=hB.grown hg (below_size hB) (by rintro _ ⟨⟩;omega)
  refine Lw.val (Ac O) O<|Af<|Aa<|Cw.out<|An<|Bk<|Ak<|Bf O O O (by assumption) (Tryz.underlying33) O O O ?_
  rw [show mvE t s=1 by simp_all [mvE]]
  exact ⟨hB,ansK_no (by decide)⟩
 intro g2
 have k_t:tok t.s t.l=true:=by simpa using g1
 have k_s:Shapes.ok s=true:=by simpa using g2
 have szs:=Shapes.size_le s
 have szt:=Shapes.size_le t.s
 have lt:=(tok_ok k_t).2
 have S:=(Shapes.ok_iff s).1 k_s
 clear g1 g2
 have h_t2:=h_t.2
 refine Ae<|B5 mixed (by kernel_rfl)<|Qw.val (fun w1 hq=>Ad O) O<|B9 O O (fun w1 hq=>(size_c u s w1 (h_u.bs hq)).q hq)<|Qw.val (fun w1 hq=>Ag (q:=0) Tryz.underlying33 O (sz_31 _) O) O<|Qw.val (fun w1 hq=>Aj (ag_31 _) O (Blk.bs (by assumption) hq) O) O ?_
 refine Qw.val (fun w1 hq=>Av st_31 O (Sl.bs (by assumption) hq)) O ?_
 refine Qw.val (fun w1 hq=>B7 O O) O<|Qw.val (fun w1 hq=>Ac O) O ?_
 refine B3 (fun w1 hq=> ?_)
 refine Aa<|Cw.out ?_
 replace hB:=hB.bs hq
 replace h_t:=h_t.bs hq
 replace h_u:=h_u.bs hq
 replace b_t:=b_t.bs hq
 replace b_r:=b_r.bs hq
 replace h_t2:=h_t2.bs hq
 clear hq
 refine Au O ?_ ?_
 ·intro g
  have g:¬Shapes.size s=(t.l.length:Int):=by simpa using g
  refine Ae<|Ab<|Lw.val (Bn (vs:=[]) (cs:=[.slice none 0 0, .slice none 0 0]) O (by kernel_rfl)) O<|Ay (Bp (cs:=[.slice none 0 0, .slice none 0 0]) O O O O O b_r O) ?_
  rintro w3 ⟨b_r,hg, -⟩
  have hB:=hB.grown hg (below_size hB) (by rintro _ ⟨⟩;omega)
  refine Lw.val (Ac O) O<|Af<|Aa<|Cw.out<|An<|Bk<|Ak<|Bf O O O (by assumption) (Tryz.underlying33) O O O ?_
  rw [show mvE t s=10 by unfold mvE;rw [k_t,k_s];simp [g]]
  exact ⟨hB,ansK_no (by decide)⟩
 intro g
 have g:Shapes.size s=(t.l.length:Int):=by simpa using g
 rw [show mvE t s=0 by unfold mvE;rw [k_t,k_s];simp [g]]
 refine Aq<|Bo<|Aa<|Cw.out<|Ae ?_
 rename World=>w1
 have zW:=below_size hB
 have q_r:A_r<w1.heap.size:=blk_lt b_r
 have b_t0:=b_t
 have h_t20:=h_t2
 refine Cw.any mixed (fun w hcw _=> ?_)
 replace hB:=hB.bs hcw
 replace h_t:=h_t.bs hcw
 replace h_u:=h_u.bs hcw
 replace b_t:=b_t.bs hcw
 replace b_r:=b_r.bs hcw
 replace h_t2:=h_t2.bs hcw
 have a_tr:A_t<A_r:=by omega
 refine Cs (fun w' =>Below A_r w1 w') (fun hC=> ?_) (hcw.mono (by omega))
 refine AwC.take (i:=0) (Ah Ar) O (by kernel_rfl) (by kernel_rfl) (by kernel_rfl) (fun w1 hc=>Ad O) O<|AwC.take (i:=3) (Ah Ar) O (by kernel_rfl) (by kernel_rfl) (by kernel_rfl) (fun w1 hc=>Ag (q:=0) Tryz.underlying33 O (sz_31 _) O) O<|AwC.take (i:=4) (Ah Ar) O (by kernel_rfl) (by kernel_rfl) (by kernel_rfl) (fun w1 hc=>Aj (ag_31 _) O (Blk.bl (by assumption) hc a_tr) O) O ?_
 refine AwC.only (by first|exact hcr|exact hcw.mono (by omega)) (i:=1) (by kernel_rfl) O ?_
 have zc:=hcw.size
 refine Al O O (clone_c u s _ h_u (by omega)) ?_
 rintro x w ⟨hx,hn⟩
 have hx:=own_mono (B' :=w1.heap.size) hx (by omega)
 clear zc
 replace hB:=hB.bs hn
 replace h_t:=h_t.bs hn
 replace h_u:=h_u.bs hn
 replace b_t:=b_t.bs hn
 replace b_r:=b_r.bs hn
 replace h_t2:=h_t2.bs hn
 replace hcw:=hcw.bs hn
 clear hn
 refine AwC.back<|AwC.only (by first|exact hcr|exact hcw.mono (by omega)) (i:=2) (by kernel_rfl) O<|Al O O (clip_c x s _ (own_slT hx)) ?_
 rintro _ w ⟨rfl,hn⟩
 replace hB:=hB.bs hn
 replace h_t:=h_t.bs hn
 replace h_u:=h_u.bs hn
 replace b_t:=b_t.bs hn
 replace b_r:=b_r.bs hn
 replace h_t2:=h_t2.bs hn
 replace hcw:=hcw.bs hn
 replace hx:=hx.bs hn
 clear hn
 have kx:=KRow.clip hx
 refine AwC.back<|AwC.only (by first|exact hcr|exact hcw.mono (by omega)) (i:=5) (by kernel_rfl) O ?_
 have zc:=hcw.size
 have zx:∀b,(clip x).ownBlock=some b→b<_:=fun b e=>(kx.lt b e).2
 refine Al O O (clone32_c t.y t.l _ h_t2 (by omega)) ?_
 rintro y w ⟨hy,hn⟩
 have py:=own_block hy
 have hy:=own_mono (B' :=w1.heap.size) hy (by omega)
 clear zc
 replace hB:=hB.bs hn
 replace h_t:=h_t.bs hn
 replace h_u:=h_u.bs hn
 replace b_t:=b_t.bs hn
 replace b_r:=b_r.bs hn
 replace h_t2:=h_t2.bs hn
 replace hcw:=hcw.bs hn
 replace kx:=kx.bs hn
 clear hn
 refine AwC.back<|AwC.only (by first|exact hcr|exact hcw.mono (by omega)) (i:=6) (by kernel_rfl) O<|Al O O (clip32_c y t.l _ (own_slT hy)) ?_
 rintro _ w ⟨rfl,hn⟩
 replace hB:=hB.bs hn
 replace h_t:=h_t.bs hn
 replace h_u:=h_u.bs hn
 replace b_t:=b_t.bs hn
 replace b_r:=b_r.bs hn
 replace h_t2:=h_t2.bs hn
 replace hcw:=hcw.bs hn
 replace kx:=kx.bs hn
 replace hy:=hy.bs hn
 clear hn
 have ky:=KRow.clip hy
 have by' :(clip y).ownBlock=y.ownBlock:=clip_block y (by obtain ⟨_,ao,cap,rfl,_⟩:=own_sl hy;exact ⟨_,_,_,rfl⟩)
 refine AwC.back<|AwC.take (i:=7) (Ah Ar) O (by kernel_rfl) (by kernel_rfl) (by kernel_rfl) (fun w1 hc=>Bn (vs:=[(0,clip x),(1,clip y)]) (cs:=[clip x,clip y]) O (bt_ten _ _ kx.slT.one ky.slT.one)) O<|AwC.only (by first|exact hcr|exact hcw.mono (by omega)) (i:=8) (by kernel_rfl) O ?_
 have hxy:[clip x,clip y].all (·.oneCell')=true:=by simp [kx.slT.one',ky.slT.one']
 refine Ay (Bp (cs:=[clip x,clip y]) O O O O hxy b_r O) ?_
 rintro w2 ⟨b_r2,hg, -⟩
 have kx:=bl_krow kx hg q_r
 have ky:=bl_krow ky hg q_r
 have hB:=hB.grown hg (below_size hB) (by rintro _ ⟨⟩;omega)
 have hcr:Below A_r w1 w2:=(hcw.mono (by omega)).grown hg (by have:=hcw.size;omega) (by rintro _ ⟨⟩;omega)
 refine AwC.back<|AwC.take (i:=9) (Ah Ar) O (by kernel_rfl) (by kernel_rfl) (by kernel_rfl) (fun w1 hc=>Ac O) O<|Ck (by first|exact hcr|exact hcw.mono (by omega)) (by kernel_rfl)<|Aa<|Cw.out<|An<|Bf O O O (by assumption) (Tryz.underlying33) O O O ?_
 exact ⟨hB,clip x,clip y,rfl,fun h=>absurd rfl h,fun _=>⟨kx.mono zW,ky.mono zW,fun b e1 e2=>by
  have h1:=py b (by rw [← by'];exact e1)
  have h2:=zx b e2
  omega⟩⟩
theorem behind_c (u:Value) (s:List Int) (k:Nat) (w:World) (h_u:SlT (Value.int .i64) w u s) (hok:Shapes.ok s=true) (hk:k<s.length):
  Fnc Tryz.prog 219 [u, .int .i64 (k:Int)] w (fun r w' =>r= .int .i64 (Shapes.prod (s.drop (k+1)))∧Below w.heap.size w w'):=by
 have S:=(Shapes.ok_iff s).1 hok
 obtain ⟨d,hd⟩:∃d,d=s.drop (k+1):=⟨_,rfl⟩
 have ld:d.length=s.length - (k+1):=by rw [hd,List.length_drop]
 have gd:Shapes.good d:=hd ▸ Shapes.good_drop S.2.1 (k+1)
 have pd:Shapes.prod d≤4096:=by have:=(Shapes.ok_prod hok (k+1)).2;rw [hd];exact this
 have h_d:=SlT.drop h_u (i:=k+1) (by omega)
 rw [← hd] at h_d ⊢
 refine Ap (n:=22) Tryz.func219 (by kernel_rfl) O O O<|Ae<|Ab<|Lw.val (Ac O) O<|Af<|Aa<|Cw.out<|Ae<|Ab<|Lw.val (Ac O) O<|Af<|Aa<|Cw.out<|Ae<|Ae<|Ab<|Lw.val (Ad O) O<|Lw.val (Ad O) O<|Lw.val ((Bc O O (by omega)).as (congrArg (Value.int .i64) (show (k:Int)+1=((k+1:Nat):Int) by omega))) O<|Lw.val (Ex.cutL (i:=k+1) st_235 O O h_u (by omega)) O<|Lw.val (Av st_235 O (by assumption)) O ?_
 refine Lw.val (Ad O) O<|Af<|Aa<|Cw.out<|Cw.block ?_
 refine Bj (S:=Nat) (fun j=>[(5, .int .i64 (Shapes.prod (d.take j))),(11,cut u 1 (k+1) s.length),(12, .int .i64 (d.length:Int)),(13, .int .i64 (j:Int))]) (fun j w' =>j≤d.length∧w' =w) (fun j=>d.length - j) (0) ⟨rfl,rfl,rfl,rfl,trivial⟩ ?_ ?_
 ·exact ⟨Nat.zero_le _,rfl⟩
 rintro j w1 ⟨hj,rfl⟩
 refine Ae<|Ab<|Lw.val (Bh O O) O<|Af<|Aa<|Cw.out<|Ae<|Au O ?_ ?_
 ·intro h
  have hj' :j<d.length:=by have:=of_decide_eq_true h;omega
  have e1:Shapes.prod (d.take (j+1))=Shapes.prod (d.take j)*d.getD j default:=by
   rw [List.take_succ_eq_append_getElem hj',Shapes.prod_append];simp [Shapes.prod,hj']
  have e2:Shapes.prod d=Shapes.prod (d.take (j+1))*Shapes.prod (d.drop (j+1)):=by rw [← Shapes.prod_append,List.take_append_drop]
  have e3:=Shapes.prod_pos (s:=d.take (j+1)) fun x hx=>gd x (List.mem_of_mem_take hx)
  have e4:=Shapes.prod_pos (Shapes.good_drop gd (j+1))
  have e5:Shapes.prod (d.take (j+1))*1≤Shapes.prod (d.take (j+1))*Shapes.prod (d.drop (j+1)):=Int.mul_le_mul_of_nonneg_left e4 (by omega)
  refine Aq<|Aa<|Cw.out<|Ae<|Cw.block<|Ae<|Ab<|Lw.val (Ba st_235 O O (by assumption) _ O (by omega)) O ?_
  refine Lw.val (Bg (ag_3 _) O (by assumption) (by omega)) O ?_
  refine Lw.val (Ac O) O<|Af<|Aa<|Cw.out<|Ab<|Lw.val (Ad O) O<|Lw.val (Ad O) O<|Lw.val (Ca O O (by omega)) O<|Lw.val (Ac O) O<|Af<|Bo<|Aa<|Cw.out<|Ab<|Lw.val (Bc O O (by omega)) O<|Lw.val (Ad O) O<|Af ?_
  exact Aa (Bq (j+1) ⟨congrArg (fun x=>some (Value.int .i64 x)) e1.symm,rfl,rfl,rfl,trivial⟩ (⟨hj',rfl⟩) (by omega))
 intro h
 have hj' :j=d.length:=by have:=of_decide_eq_false h;omega
 subst hj'
 refine Bi<|Am<|Am<|Az<|Aa<|Cw.out<|Ae<|Ab<|Lw.val (Ad O) O<|Lw.val (Ac O) O<|Af<|Aa<|Cw.out<|An<|Bb O O ?_
 exact ⟨by rw [List.take_length],Below.refl _ _⟩
/-- A tensor that is filled, number by number, from what is told. -/
theorem filled_c (u:Value) (s:List Int) (f:FuncId) (q:List Value) (F:Nat→BitVec 32) (W:World) (h_u:SlT (Value.int .i64) W u s) (hok:Shapes.ok s=true)
  (hf:∀(i:Nat) (a:Value) (w:World),Below W.heap.size W w→i<(Shapes.size s).toNat→SlT (Value.int .i64) w a (Shapes.place s i)→Fnc Tryz.prog f ([a]++q) w (fun r w' =>r=i32 (F i)∧Below w.heap.size w w')):
  Fnc Tryz.prog 217 [u, .func (.func f) #[] q.toArray] W (fun r w' =>Below W.heap.size W w' ∧∃x y,r= .tuple #[.agg #[x,y], .int .i64 0]∧Made1 W w' x y s ((List.range (Shapes.size s).toNat).map F)):=by
 have hB:=Below.refl W.heap.size W
 have szs:=Shapes.size_le s
 have h_u0:=h_u
 refine Ap (n:=38) Tryz.func217 (by kernel_rfl) O O O<|Ae<|Ab<|B8 it_33 O ?_
 rintro A_r w eA_r b_r hn -
 replace hB:=hB.bs hn
 replace h_u:=h_u.bs hn
 clear hn
 refine Lw.val (Ac O) O<|Af<|Aa<|Cw.out<|Ae<|Ab<|Lw.val (Ad O) O ?_
 have z_r:=blk_lt b_r
 refine Al O O (new_c u s _ h_u) ?_
 rintro _ w7 ⟨hn7,⟨hk,x,y,rfl,hm⟩|⟨hk,rfl⟩⟩
 ·refine Lw.val (Ad O) O<|Lw.val (Ax (i:=0) O O) O<|Lw.val (Ax (i:=1) O O) O<|Cb (cs:=[x,y]) it_33 O O O O (fun _=>rfl) (hm.one) ?_
  rintro A_m w8 eA_m b_m hn8 zhn8
  have M:=mine_new hm eA_m b_m hn8 zhn8 hn7.size
  have hw8:=bt hn7 hn8
  have zw:=hw8.size
  have zB:=below_size hB
  replace hB:=hB.bs hw8
  replace h_u:=h_u.bs hw8
  replace b_r:=b_r.bs hw8
  clear hm b_m hn7 hn8 eA_m zhn8 hw8
  obtain ⟨fl,hfl⟩:∃l,l=(List.range (Shapes.size s).toNat).map F:=⟨_,rfl⟩
  obtain ⟨zs,hzs⟩:∃l,l=List.replicate (Shapes.size s).toNat 0#32:=⟨_,rfl⟩
  rw [← hzs] at M
  have n1:fl.length=zs.length:=by rw [hfl,hzs];simp
  have n2:zs.length=(Shapes.size s).toNat:=by rw [hzs];simp
  have b_m:=M.box
  have y_m:=M.sly
  refine Lw.val (Ac O) O<|Af<|Aa<|Cw.out<|Ae<|Ae<|Ab<|Lw.val (Ag (q:=0) Tryz.underlying33 O (sz_31 _) O) O<|Lw.val (Aj (ag_31 _) O (by assumption) O) O ?_
  refine Lw.val (Av st_31 O (by assumption)) O ?_
  refine Lw.val (Ad O) O<|Af<|Aa<|Cw.out<|Cw.block ?_
  refine Bj (S:=Nat) (fun i=>[(0,u),(1, .func (.func f) #[] q.toArray),(4, .pointer (some ⟨A_r,0,none⟩)),(6, .pointer (some ⟨A_m,0,none⟩)),(7, .int .i64 0),(18, .int .i64 (zs.length:Int)),(19, .int .i64 (i:Int))]) (fun i w' =>i≤zs.length∧Below w.heap.size w8 w' ∧MineT w' w.heap.size w8.heap.size A_m x y s (fl.take i++zs.drop i)) (fun i=>zs.length - i) (0) ⟨rfl,rfl,rfl,rfl,rfl,rfl,rfl,trivial⟩ ?_ ?_
  ·exact ⟨by omega,Below.refl _ _,by rw [td_zero];exact M⟩
  clear M b_m y_m
  rintro i w11 ⟨hi,hw,M⟩
  have hB2:=hB.trans (hw.mono (by omega))
  refine Ae<|Ab<|Lw.val (Bh O O) O<|Af<|Aa<|Cw.out<|Ae<|Au O ?_ ?_
  ·intro h
   have hi' :i<zs.length:=by have:=of_decide_eq_true h;omega
   have hu2:SlT (Value.int .i64) w11 u s:=Sl.stay h_u0 fun k e hne=>hB2.block k (Sl.blk h_u0 hne k e)
   refine Aq<|Aa<|Cw.out<|Ae<|Cw.block<|Ae<|Ab<|Lw.val (Ad O) O<|Lw.val (Ac O) O<|Af<|Aa<|Cw.out<|Ae<|Ab<|Lw.val (Ad O) O<|Lw.val (Ad O) O<|Al O O (at_c s u (i:Int) w11 hu2) ?_
   rintro _ w12 ⟨a,rfl,ha,hn⟩
   have ha:=ha.sl
   rw [show Shapes.atl s (i:Int)=Shapes.place s i by unfold Shapes.atl;rw [if_pos (by omega)]] at ha
   have M:=M.bs hn
   have hB3:=bt hB2 hn
   have hw:=hw.trans (hn.mono (by have:=hw.size;omega))
   have b_m:=M.box
   have y_m:=M.sly
   have e1:=td_len (i:=i) n1
   refine Lw.val (Ad O) O<|Lw.val (Ax (i:=0) O O) O<|Lw.val (Ax (i:=1) O O) O<|Lw.val (Ac O) O<|Lw.val (Ac O) O<|Af<|Aa<|Cw.out<|Cw.tail 7 mixed (by kernel_rfl)<|Qw.val (fun w1 hq=>Ag (q:=0) Tryz.underlying33 O (sz_31 _) O) O<|Qw.val (fun w1 hq=>Aj (ag_31 _) O (Blk.bs (by assumption) hq) O) O ?_
   refine Qw.val (fun w1 hq=>Ad O) O<|Qw.val (fun w1 hq=>Ad O) O<|Qw.val (fun w1 hq=>Ad O) O<|Qw.callV (p:=[]) (q:=q) O O O (fun w1 hq=>(hf i a w1 (bt hB3 hq) (by omega) (ha.bs hq)).q hq)<|Qw.val (fun w1 hq=>Ba st_31 O O (Sl.bs (by assumption) hq) _ O (by omega)) O ?_
   refine Cj (fun w13 hq=> ?_)
   refine Ay ((M.bs hq).st (sz_21 _) O O (by omega)) ?_
   rintro w14 ⟨M2,hg2, -⟩
   have hw2:=(M.bs hq).below (hw.trans (hq.mono (by have:=hw.size;omega))) (by omega) hg2
   rw [show F i=fl.getD i default by rw [hfl];simp [show i<(Shapes.size s).toNat by omega],td_set n1 hi'] at M2
   refine Af<|Bo<|Aa<|Cw.out<|Ab<|Lw.val (Bc O O (by omega)) O<|Lw.val (Ad O) O<|Af ?_
   exact Aa (Bq (i+1) ⟨rfl,rfl,rfl,rfl,rfl,rfl,rfl,trivial⟩ (⟨hi',hw2,M2⟩) (by omega))
  intro h
  have hi' :i=zs.length:=by have:=of_decide_eq_false h;omega
  subst hi'
  rw [td_all n1] at M
  have b_m:=M.box
  have b_r:=b_r.bl hw z_r
  rw [hfl] at M
  refine Bi<|Am<|Am<|Az<|Aa<|Cw.out<|Ae<|Ab<|Lw.val (Bw (ag_33 _) (sz_33 _) O O (by assumption)) O ?_
  refine Lw.val (Ad O) O<|Ay (Bp (cs:=[x,y]) O O O O (mine_at M).one b_r O) ?_
  rintro w12 ⟨b_r2,hg, -⟩
  have M2:=M.keep hg (by rintro _ ⟨⟩;exact .inl z_r)
  have hB3:=hB2.grown hg (below_size hB2) (by rintro _ ⟨⟩;omega)
  refine Lw.val (Ac O) O<|Af<|Aa<|Cw.out<|An<|Bf O O O (by assumption) (Tryz.underlying33) O O O ?_
  exact ⟨hB3,x,y,rfl,⟨M2.row.mono (by omega),own_mono M2.lst.own (by omega),M2.yx⟩⟩
 exact absurd hok (by rw [hk];decide)
theorem idxOf_c (u:Value) (l:List Int) (x:Int) (w:World) (h_u:SlT (Value.int .i64) w u l):Fnc Tryz.prog 243 [u, .int .i64 x] w (fun r w' =>(∃j,r= .int .i64 j∧decide (0≤j)=l.contains x)∧w' =w):=by
 have hle:=h_u.le
 refine Ap (n:=19) Tryz.func243 (by kernel_rfl) O O O<|Ae<|Ab<|Lw.val (Ac O) O<|Af<|Aa<|Cw.out<|Ae<|Ae<|Ab<|Lw.val (Ad O) O<|Lw.val (Av st_23 O (by assumption)) O ?_
 refine Lw.val (Ad O) O<|Af<|Aa<|Cw.out<|Cw.block ?_
 refine Bj (S:=Nat) (fun i=>[(0,u),(1, .int .i64 x),(7, .int .i64 (l.length:Int)),(8, .int .i64 (i:Int))]) (fun i w' =>i≤l.length∧(l.take i).contains x=false∧w' =w) (fun i=>l.length - i) (0) ⟨rfl,rfl,rfl,rfl,trivial⟩ ?_ ?_
 ·exact ⟨Nat.zero_le _,rfl,rfl⟩
 rintro i w1 ⟨hi,hc,rfl⟩
 refine Ae<|Ab<|Lw.val (Bh O O) O<|Af<|Aa<|Cw.out<|Ae<|Au O ?_ ?_
 ·intro h
  have hi' :i<l.length:=by have:=of_decide_eq_true h;omega
  have e1:l.take (i+1)=l.take i++[l.getD i default]:=by rw [List.take_succ_eq_append_getElem hi'];simp [hi']
  refine Aq<|Aa<|Cw.out<|Ae<|Cw.block<|Ae<|Ab<|Lw.val (Ad O) O<|Lw.val (Ac O) O<|Af<|Aa<|Cw.out<|Ae<|Ab<|Lw.val (Ad O) O<|Lw.val (Ad O) O<|Lw.val (Ad O) O<|Lw.val (Ba st_23 O O (by assumption) _ O (by omega)) O ?_
  refine Lw.val (Bg (ag_3 _) O (by assumption) (by omega)) O ?_
  refine Lw.val (Cn O O) O<|Af<|Aa<|Cw.out<|Au O ?_ ?_
  ·intro g
   have g:=of_decide_eq_true g
   refine Ae<|Ab<|Lw.val (Ad O) O<|Lw.val (Ac O) O<|Af<|Aa<|Cw.out<|An<|Bk<|Ak<|Ak<|Bk<|Ak<|Bb O O ?_
   refine ⟨⟨(i:Int),rfl, ?_⟩,rfl⟩
   have hm:x ∈ l:=by rw [g];simp [hi']
   rw [decide_eq_true (by omega),List.contains_iff_mem.2 hm]
  intro g
  have g:=of_decide_eq_false g
  refine Aq<|Bo<|Aa<|Cw.out<|Ab<|Lw.val (Bc O O (by omega)) O<|Lw.val (Ad O) O<|Af ?_
  exact Aa (Bq (i+1) ⟨rfl,rfl,rfl,rfl,trivial⟩ (⟨hi',by rw [e1,List.contains_append,hc,Bool.false_or,List.contains_cons,beq_false_of_ne g];rfl,rfl⟩) (by omega))
 intro h
 have hi' :i=l.length:=by have:=of_decide_eq_false h;omega
 subst hi'
 rw [List.take_length] at hc
 refine Bi<|Am<|Am<|Az<|Aa<|Cw.out<|Ae<|Ab<|Lw.val (Ac O) O<|Af<|Aa<|Cw.out<|An<|Bb O O ?_
 exact ⟨⟨-1,rfl,by rw [hc];rfl⟩,rfl⟩
theorem contains_c (u:Value) (l:List Int) (x:Int) (w:World) (h_u:SlT (Value.int .i64) w u l):Fnc Tryz.prog 216 [u, .int .i64 x] w (fun r w' =>r= .bool (l.contains x)∧Below w.heap.size w w'):=by
 refine Ap (n:=9) Tryz.func216 (by kernel_rfl) O O O<|Ae<|Ab<|Lw.val (Ac O) O<|Af<|Aa<|Cw.out<|Ae<|Ab<|Lw.val (Ad O) O<|Lw.val (Ad O) O<|Al O O (idxOf_c u l x w h_u) ?_
 rintro _ _ ⟨⟨j,rfl,hj⟩,rfl⟩
 refine Lw.val (Cu O O) O<|Lw.val (Ac O) O<|Af<|Aa<|Cw.out<|An<|Bb O O ?_
 exact ⟨congrArg Value.bool hj,Below.refl _ _⟩
/-- Where a turned number comes from. -/
theorem turnF_c (A_o A_t:Nat) (v:Value) (o:List Int) (t:T4) (a:Value) (i:Nat) (w:World) (b_o:Blk w A_o 23 [v]) (b_t:Blk w A_t 33 [t.x,t.y]) (h_o:SlT (Value.int .i64) w v o) (h_t:t.at w) (k_t:tok t.s t.l=true) (ho:ordOk o=true) (hl:o.length=t.s.length)
  (h_a:SlT (Value.int .i64) w a (Shapes.place (turn t.s o) i)):
  Fnc Tryz.prog 218 ([a]++[.pointer (some ⟨A_o,0,none⟩), .pointer (some ⟨A_t,0,none⟩)]) w (fun r w' =>r=i32 (t.l.getD (tuS t.s o (Shapes.place (turn t.s o) i) o.length).toNat default)∧Below w.heap.size w w'):=by
 have hB:=Below.refl w.heap.size w
 obtain ⟨k1,k2⟩:=tok_ok k_t
 have S:=(Shapes.ok_iff t.s).1 k1
 have okT:=turn_ok k1 ho hl
 have T:=(Shapes.ok_iff (turn t.s o)).1 okT
 obtain ⟨p,hp⟩:∃p,p=Shapes.place (turn t.s o) i:=⟨_,rfl⟩
 have pin:Shapes.inn (turn t.s o) p=true:=by rw [hp];exact Shapes.place_in (by omega) T.2.1
 have lp:p.length=o.length:=by rw [hp,Shapes.place_length,turn_length]
 rw [← hp] at h_a ⊢
 have hle:=h_o.le
 have kt:=tuS_lt k1 ho hl pin
 have szt:=Shapes.size_ok k1
 have hz:=Shapes.size_le t.s
 show Fnc Tryz.prog 218 [a, .pointer (some ⟨A_o,0,none⟩), .pointer (some ⟨A_t,0,none⟩)] w _
 refine Ap (n:=32) Tryz.func218 (by kernel_rfl) O O O<|Ae<|Ab<|Lw.val (Ac (show _=some (i32 (0#32)) from rfl)) O<|Af<|Aa<|Cw.out<|Ae<|Ab<|Lw.val (Ac O) O<|Af<|Aa<|Cw.out<|Ae<|Ae<|Ab<|Lw.val (Aj (ag_23 _) O (by assumption) O) O ?_
 refine Lw.val (Av st_23 O (by assumption)) O ?_
 refine Lw.val (Ad O) O<|Af<|Aa<|Cw.out<|Cw.block ?_
 refine Bj (S:=Nat) (fun j=>[(0,a),(1, .pointer (some ⟨A_o,0,none⟩)),(2, .pointer (some ⟨A_t,0,none⟩)),(5, .int .i64 (tuS t.s o p j)),(8,v),(9, .int .i64 (o.length:Int)),(10, .int .i64 (j:Int))]) (fun j w' =>j≤o.length∧Below w.heap.size w w') (fun j=>o.length - j) (0) ⟨rfl,rfl,rfl,rfl,rfl,rfl,rfl,trivial⟩ ?_ ?_
 ·exact ⟨Nat.zero_le _,hB⟩
 rintro j w1 ⟨hj,hn⟩
 have h_o1:=h_o.bs hn
 have h_a1:=h_a.bs hn
 have b_t1:=b_t.bs hn
 have h_t1:=(h_t.bs hn).1
 refine Ae<|Ab<|Lw.val (Bh O O) O<|Af<|Aa<|Cw.out<|Ae<|Au O ?_ ?_
 ·intro h
  have hj' :j<o.length:=by have:=of_decide_eq_true h;omega
  obtain ⟨k,hk⟩:∃k:Nat,o.getD j default=(k:Int):=⟨_,(Int.toNat_of_nonneg (ord_in ho hj').1).symm⟩
  have hks:k<t.s.length:=by have:=(ord_in ho hj').2;omega
  have aj:=Shapes.inn_at pin (k:=j) (by rw [turn_length];exact hj')
  rw [turn_at hj',hk,Int.toNat_natCast] at aj
  have ds:=dim_at S.2.1 hks
  have pr:=Shapes.ok_prod k1 (k+1)
  have m0:0≤p.getD j default*Shapes.prod (t.s.drop (k+1)):=Int.mul_nonneg aj.1 (by omega)
  have m1:p.getD j default*Shapes.prod (t.s.drop (k+1))≤64*4096:=Int.mul_le_mul (by omega) pr.2 (by omega) (by decide)
  have l1:=tuS_le k1 ho hl pin hj
  have eF:tuS t.s o p j+p.getD j default*Shapes.prod (t.s.drop (k+1))=tuS t.s o p (j+1):=by
   show _=tuS t.s o p j+tuF t.s o p j
   unfold tuF;rw [hk,Int.toNat_natCast]
  refine Aq<|Aa<|Cw.out<|Ae<|Cw.block<|Ae<|Ab<|Lw.val (Ad O) O<|Lw.val (Ba st_23 O O (by assumption) _ O (by omega)) O ?_
  refine Lw.val ((Bg (ag_3 _) O h_o1 hj').as (congrArg (Value.int .i64) hk)) O<|Lw.val (Ac O) O<|Lw.val (Ac O) O<|Af<|Aa<|Cw.out<|B5 mixed (by kernel_rfl)<|Qw.val (fun w1 hq=>Ad O) O<|Qw.val (fun w1 hq=>Ad O) O<|Qw.val (fun w1 hq=>Ad O) O<|Qw.val (fun w1 hq=>Ba st_23 O O (Sl.bs (by assumption) hq) _ O (by omega)) O ?_
  refine Qw.val (fun w1 hq=>Bg (ag_3 _) O (Sl.bs (by assumption) hq) (by omega)) O ?_
  refine Qw.val (fun w1 hq=>Ag (q:=0) Tryz.underlying33 O (sz_23 _) O) O<|Qw.val (fun w1 hq=>Aj (ag_23 _) O (Blk.bs (by assumption) hq) O) O ?_
  refine Qw.val (fun w1 hq=>Ad O) O<|B9 O O (fun w1 hq=>(behind_c t.x t.s k w1 (h_t1.bs hq) k1 hks).q hq)<|Qw.val (fun w1 hq=>Ca O O (by omega)) O<|Qw.val (fun w1 hq=>Bc O O (by omega)) O<|Qw.val (fun w1 hq=>Ac O) O ?_
  refine B3 (fun w2 hq=> ?_)
  refine Bo<|Aa<|Cw.out<|Ab<|Lw.val (Bc O O (by omega)) O<|Lw.val (Ad O) O<|Af ?_
  exact Aa (Bq (j+1) ⟨rfl,rfl,rfl,congrArg (fun x=>some (Value.int .i64 x)) eF,rfl,rfl,rfl,trivial⟩ (⟨hj',bt hn hq⟩) (by omega))
 intro h
 have hj' :j=o.length:=by have:=of_decide_eq_false h;omega
 subst hj'
 obtain ⟨K,hK⟩:∃K:Nat,tuS t.s o p o.length=(K:Int):=⟨_,(Int.toNat_of_nonneg kt.1).symm⟩
 have h_t2:=(h_t.bs hn).2
 have hKl:K<t.l.length:=by omega
 refine Bi<|Am<|Am<|Az<|Aa<|Cw.out<|Ae<|Ab<|Lw.val (Ag (q:=0) Tryz.underlying33 O (sz_31 _) O) O<|Lw.val (Aj (ag_31 _) O (by assumption) O) O ?_
 refine Lw.val (Ad O) O<|Lw.val (Ba st_31 O O h_t2 K hK hKl) O<|Lw.val (Bg (ag_21 _) O (by assumption) (by omega)) O ?_
 refine Lw.val (Ac O) O<|Af<|Aa<|Cw.out<|An<|Bb O O ?_
 exact ⟨by rw [hK,Int.toNat_natCast],hn⟩
def tnE (t:T4) (o:List Int):Int:=if tok t.s t.l && decide (o.length=t.s.length) && ordOk o then 0 else 1
theorem mturn_c (t:T4) (v:Value) (o:List Int) (W:World) (h_t:t.at W) (h_v:SlT (Value.int .i64) W v o):
  Fnc Tryz.prog 126 [t.v,v] W (fun r w' =>Below W.heap.size W w' ∧AnsK W w' r (tnE t o) (turn t.s o) (tuL t.s t.l o)):=by
 have hB:=Below.refl W.heap.size W
 have hvo:=h_v.one
 refine Ap (n:=61) Tryz.func126 (by kernel_rfl) O O O<|Ae<|Ab<|Bv (cs:=[t.x,t.y]) O O O ?_
 rintro A_t w eA_t b_t hn -
 replace hB:=hB.bs hn
 replace h_t:=h_t.bs hn
 replace h_v:=h_v.bs hn
 clear hn
 refine Bv (cs:=[v]) O hvo O ?_
 rintro A_o w eA_o b_o hn -
 replace hB:=hB.bs hn
 replace h_t:=h_t.bs hn
 replace h_v:=h_v.bs hn
 replace b_t:=b_t.bs hn
 clear hn
 have z0:=below_size hB
 refine B8 it_33 O ?_
 rintro A_r w eA_r b_r hn -
 replace hB:=hB.bs hn
 replace h_t:=h_t.bs hn
 replace h_v:=h_v.bs hn
 replace b_t:=b_t.bs hn
 replace b_o:=b_o.bs hn
 clear hn
 refine Lw.val (Ac O) O<|Af<|Aa<|Cw.out<|Ae<|Ae<|Ab<|Lw.val (Bw (ag_33 _) (sz_33 _) O O (by assumption)) O ?_
 have z_r:=blk_lt b_r
 have h_t1:=h_t.1
 refine Al O O (tcheck_c t.x t.y t.s t.l _ h_t.1 h_t.2) ?_
 rintro _ w ⟨rfl,hn⟩
 replace hB:=hB.bs hn
 replace h_t:=h_t.bs hn
 replace h_v:=h_v.bs hn
 replace b_t:=b_t.bs hn
 replace b_o:=b_o.bs hn
 replace b_r:=b_r.bs hn
 replace h_t1:=h_t1.bs hn
 clear hn
 refine Lw.val (Bx O) O<|Lw.val (Ad O) O ?_
 refine Bt 12 O ?_ ?_
 ·intro g
  refine Ai (dj:=12) O O O O<|Ai (dj:=12) O O O O<|Ai (dj:=12) O O O O<|Ai (dj:=12) O O O O<|Ai (dj:=12) O O O O<|Ai (dj:=12) O O O O<|Lw.val (As O O) O<|Af<|Aa<|Cw.out<|Br O<|Ae<|Ab<|Lw.val (Bn (vs:=[]) (cs:=[.slice none 0 0, .slice none 0 0]) O (by kernel_rfl)) O<|Ay (Bp (cs:=[.slice none 0 0, .slice none 0 0]) O O O O O b_r O) ?_
  rintro w3 ⟨b_r,hg, -⟩
  have hB:=hB.grown hg (below_size hB) (by rintro _ ⟨⟩;omega)
  refine Lw.val (Ac O) O<|Af<|Aa<|Cw.out<|An<|Ak<|Bf O O O (by assumption) (Tryz.underlying33) O O O ?_
  rw [show tnE t o=1 by simp_all [tnE]]
  exact ⟨hB,ansK_no (by decide)⟩
 intro g1
 have k_t:tok t.s t.l=true:=by simpa using g1
 refine Lw.take (dj:=12) O O<|Lw.val (Aj (ag_23 _) O (by assumption) O) O ?_
 refine Lw.take (dj:=12) O O<|Lw.val (Av st_23 O (by assumption)) O ?_
 refine Lw.take (dj:=12) O O<|Lw.val (Ag (q:=0) Tryz.underlying33 O (sz_23 _) O) O<|Lw.take (dj:=12) O O<|Lw.val (Aj (ag_23 _) O (by assumption) O) O ?_
 refine Lw.take (dj:=12) O O<|Lw.val (Av st_23 O (by assumption)) O ?_
 refine Lw.take (dj:=12) O O<|Lw.val (B7 O O) O<|Lw.val (Bd O O) O<|Af<|Aa<|Cw.out<|Au O ?_ ?_
 ·intro g
  have g:¬o.length=t.s.length:=by have:=g;simp at this;omega
  refine Ae<|Ab<|Lw.val (Bn (vs:=[]) (cs:=[.slice none 0 0, .slice none 0 0]) O (by kernel_rfl)) O<|Ay (Bp (cs:=[.slice none 0 0, .slice none 0 0]) O O O O O b_r O) ?_
  rintro w3 ⟨b_r,hg, -⟩
  have hB:=hB.grown hg (below_size hB) (by rintro _ ⟨⟩;omega)
  refine Lw.val (Ac O) O<|Af<|Aa<|Cw.out<|An<|Ak<|Bf O O O (by assumption) (Tryz.underlying33) O O O ?_
  rw [show tnE t o=1 by unfold tnE;rw [decide_eq_false g,Bool.and_false,Bool.false_and];rfl]
  exact ⟨hB,ansK_no (by decide)⟩
 intro g2
 have hl:o.length=t.s.length:=by have:=g2;simp at this;omega
 clear g1 g2
 have S:=(Shapes.ok_iff t.s).1 (tok_ok k_t).1
 refine Aq<|Aa<|Cw.out<|Ae<|Ab<|Lw.val (Aj (ag_23 _) O (by assumption) O) O ?_
 refine Lw.val (Av st_23 O (by assumption)) O ?_
 have zB:=below_size hB
 obtain ⟨B,hBB⟩:∃B,B=w.heap.size:=⟨_,rfl⟩
 have p_t:=h_t
 have p_v:=h_v
 have y_t:=blk_lt b_t
 have y_o:=blk_lt b_o
 have y_r:=blk_lt b_r
 rename World=>w0
 refine Bl (C2 (l:=o.length) (c:=o.length) st_23 it_3 O O O (Nat.le_refl _) (by omega) (by omega)) O ?_
 rintro y w1 ⟨hy, -,hn, -⟩
 obtain ⟨zs,hzs⟩:∃l,l=List.replicate o.length (0:Int):=⟨_,rfl⟩
 have n2:zs.length=o.length:=by rw [hzs];simp
 have n1:(turn t.s o).length=zs.length:=by rw [turn_length,n2]
 have hy:w1.ownsRow w0.heap.size 3 1 y zs.length (zs.map (Value.int .i64)):=by rw [n2,hzs,← rep_flat (enc:=Value.int .i64) (z:=0)];exact hy
 replace hB:=hB.bs hn
 replace h_t:=h_t.bs hn
 replace h_v:=h_v.bs hn
 replace b_t:=b_t.bs hn
 replace b_o:=b_o.bs hn
 replace b_r:=b_r.bs hn
 replace h_t1:=h_t1.bs hn
 have zn:=hn.size
 clear hn
 refine Lw.val (Ac O) O<|Af<|Aa<|Cw.out<|Ae<|Ae<|Ab<|Lw.val (Aj (ag_23 _) O (by assumption) O) O ?_
 refine Lw.val (Av st_23 O (by assumption)) O ?_
 refine Lw.val (Ad O) O<|Af<|Aa<|Cw.out<|Cw.block ?_
 refine Bj (S:=Nat) (fun i=>[(2, .pointer (some ⟨A_t,0,none⟩)),(3, .pointer (some ⟨A_o,0,none⟩)),(4, .pointer (some ⟨A_r,0,none⟩)),(6,y),(24,v),(25, .int .i64 (o.length:Int)),(26, .int .i64 (i:Int))]) (fun i w' =>i≤o.length∧(∀j,j<i→ordC o j=true)∧Below w0.heap.size w1 w' ∧w'.ownsRow w0.heap.size 3 1 y zs.length (((turn t.s o).take i++zs.drop i).map (Value.int .i64))) (fun i=>o.length - i) (0) ⟨rfl,rfl,rfl,rfl,rfl,rfl,rfl,trivial⟩ ?_ ?_
 ·exact ⟨Nat.zero_le _,fun j hj=>absurd hj (by omega),Below.refl _ _,by rw [td_zero];exact hy⟩
 clear hy
 rintro i w2 ⟨hi,hC,hw,hy⟩
 have zw:=hw.size
 have hB:=hB.trans (hw.mono zB)
 have b_t:=b_t.bl hw y_t
 have b_o:=b_o.bl hw y_o
 have b_r:=b_r.bl hw y_r
 have h_t:=at_stay p_t h_t (Nat.le_refl _) hw
 have h_v:SlT (Value.int .i64) w2 v o:=Sl.stay h_v fun k e hne=>hw.block k (Sl.blk p_v hne k e)
 have h_t1:=h_t.1
 refine Ae<|Ab<|Lw.val (Bh O O) O<|Af<|Aa<|Cw.out<|Ae<|Au O ?_ ?_
 ·intro h
  have hi' :i<o.length:=by have:=of_decide_eq_true h;omega
  obtain ⟨k,hk⟩:∃k,k=o.getD i default:=⟨_,rfl⟩
  refine Aq<|Aa<|Cw.out<|Ae<|Cw.block<|Ae<|Ab<|Lw.val (Ad O) O<|Lw.val (Ba st_23 O O (by assumption) _ O (by omega)) O ?_
  refine Lw.val ((Bg (ag_3 _) O h_v hi').as (congrArg (Value.int .i64) hk.symm)) O<|Lw.val (Ac O) O<|Lw.val (Ac O) O<|Af<|Aa<|Cw.out<|Ae<|Ae<|Ab<|Lw.val (Ad O) O<|Lw.val (Bh O O) O<|Lw.val (Ad O) O ?_
  refine Bt 33 O ?_ ?_
  ·intro g
   have g:=of_decide_eq_true g
   refine Ai (dj:=33) O O O O<|Ai (dj:=33) O O O O<|Ai (dj:=33) O O O O<|Ai (dj:=33) O O O O<|Lw.val (As O O) O<|Lw.val (Ad O) O<|Ai (dj:=39) O O O O<|Ai (dj:=39) O O O O<|Ai (dj:=39) O O O O<|Ai (dj:=39) O O O O<|Ai (dj:=39) O O O O<|Lw.val (As O O) O<|Af<|Aa<|Cw.out<|Br O<|Ae<|Ab<|Lw.val (Bn (vs:=[]) (cs:=[.slice none 0 0, .slice none 0 0]) O (by kernel_rfl)) O<|Ay (Bp (cs:=[.slice none 0 0, .slice none 0 0]) O O O O O b_r O) ?_
   rintro w3 ⟨b_r,hg, -⟩
   have hB:=hB.grown hg (below_size hB) (by rintro _ ⟨⟩;omega)
   refine Lw.val (Ac O) O<|Af<|Aa<|Cw.out<|An<|Ak<|Bk<|Ak<|Ak<|Bk<|Ak<|Bf O O O (by assumption) (Tryz.underlying33) O O O ?_
   rw [show tnE t o=1 by unfold tnE;rw [ordOk_no hi' (by unfold ordC;rw [← hk,decide_eq_false (show ¬0≤k by omega)];rfl),Bool.and_false];rfl]
   exact ⟨hB,ansK_no (by decide)⟩
  intro g1
  have g1:=of_decide_eq_false g1
  refine Lw.take (dj:=33) O O<|Lw.val (Ad O) O<|Lw.take (dj:=33) O O<|Lw.val (Aj (ag_23 _) O (by assumption) O) O ?_
  refine Lw.take (dj:=33) O O<|Lw.val (Av st_23 O (by assumption)) O ?_
  refine Lw.take (dj:=33) O O<|Lw.val (Cu O O) O<|Lw.val (Bd O O) O<|Lw.val (Ad O) O ?_
  refine Bt 39 O ?_ ?_
  ·intro g
   have g:=of_decide_eq_true g
   refine Ai (dj:=39) O O O O<|Ai (dj:=39) O O O O<|Ai (dj:=39) O O O O<|Ai (dj:=39) O O O O<|Ai (dj:=39) O O O O<|Lw.val (As O O) O<|Af<|Aa<|Cw.out<|Br O<|Ae<|Ab<|Lw.val (Bn (vs:=[]) (cs:=[.slice none 0 0, .slice none 0 0]) O (by kernel_rfl)) O<|Ay (Bp (cs:=[.slice none 0 0, .slice none 0 0]) O O O O O b_r O) ?_
   rintro w3 ⟨b_r,hg, -⟩
   have hB:=hB.grown hg (below_size hB) (by rintro _ ⟨⟩;omega)
   refine Lw.val (Ac O) O<|Af<|Aa<|Cw.out<|An<|Ak<|Bk<|Ak<|Ak<|Bk<|Ak<|Bf O O O (by assumption) (Tryz.underlying33) O O O ?_
   rw [show tnE t o=1 by unfold tnE;rw [ordOk_no hi' (by unfold ordC;rw [← hk,decide_eq_false (show ¬k<(o.length:Int) by omega),Bool.and_false];rfl),Bool.and_false];rfl]
   exact ⟨hB,ansK_no (by decide)⟩
  intro g2
  have g2:=of_decide_eq_false g2
  refine Lw.take (dj:=39) O O<|Lw.val (Aj (ag_23 _) O (by assumption) O) O ?_
  refine Lw.take (dj:=39) O O<|Lw.val (Ad O) O<|Lw.take (dj:=39) O O<|Lw.val (Ex.cutH st_23 O O h_v hi) O<|Lw.take (dj:=39) O O<|Lw.val (Ad O) O<|Lw.take (dj:=39) O O<|Al O O (contains_c (cut v 1 0 i) (o.take i) k _ (SlT.take h_v hi)) ?_
  rintro _ w3 ⟨rfl,hn⟩
  have hw:=hw.trans (hn.mono (by omega))
  replace hB:=hB.bs hn
  replace h_t:=h_t.bs hn
  replace h_v:=h_v.bs hn
  replace b_t:=b_t.bs hn
  replace b_o:=b_o.bs hn
  replace b_r:=b_r.bs hn
  replace hy:=hy.bs hn
  clear hn
  refine Lw.val (Bd O O) O<|Af<|Aa<|Cw.out<|Au O ?_ ?_
  ·intro g
   refine Ae<|Ab<|Lw.val (Bn (vs:=[]) (cs:=[.slice none 0 0, .slice none 0 0]) O (by kernel_rfl)) O<|Ay (Bp (cs:=[.slice none 0 0, .slice none 0 0]) O O O O O b_r O) ?_
   rintro w3 ⟨b_r,hg, -⟩
   have hB:=hB.grown hg (below_size hB) (by rintro _ ⟨⟩;omega)
   refine Lw.val (Ac O) O<|Af<|Aa<|Cw.out<|An<|Ak<|Bk<|Ak<|Ak<|Bk<|Ak<|Bf O O O (by assumption) (Tryz.underlying33) O O O ?_
   rw [show tnE t o=1 by unfold tnE;rw [ordOk_no hi' (by unfold ordC;rw [← hk,g,Bool.not_true,Bool.and_false]),Bool.and_false];rfl]
   exact ⟨hB,ansK_no (by decide)⟩
  intro g3
  have hO:ordC o i=true:=by unfold ordC;rw [← hk,g3,decide_eq_true (show 0≤k by omega),decide_eq_true (show k<(o.length:Int) by omega)];rfl
  obtain ⟨K,hK⟩:∃K:Nat,k=(K:Int):=⟨_,(Int.toNat_of_nonneg (by omega)).symm⟩
  have hKs:K<t.s.length:=by omega
  have h_t1:=h_t.1
  have e1:=td_len (i:=i) n1
  have hy' :=hy
  rw [← e1] at hy'
  have s_y:=own_slT hy'
  clear hy'
  have hC' :∀j,j<i+1→ordC o j=true:=by
   intro j hj
   rcases Nat.lt_or_ge j i with h|h
   ·exact hC j h
   ·obtain rfl:j=i:=by omega
    exact hO
  have eV:t.s.getD K default=(turn t.s o).getD i default:=by rw [turn_at hi',← hk,hK,Int.toNat_natCast]
  refine Aq<|Aa<|Cw.out<|Ab<|Lw.val (Ad O) O<|Lw.val (Ad O) O<|Lw.val (Ag (q:=0) Tryz.underlying33 O (sz_23 _) O) O<|Lw.val (Aj (ag_23 _) O (by assumption) O) O ?_
  refine Lw.val (Ad O) O<|Lw.val (Ba st_23 O O h_t1 K hK hKs) O<|Lw.val ((Bg (ag_3 _) O h_t1 hKs).as (congrArg (Value.int .i64) eV)) O<|Lw.val (Ba st_23 O O s_y i O (by omega)) O<|Ay (Cv (sz_3 _) O O O hy (by rw [List.length_map];omega)) ?_
  rintro w4 ⟨hy4,hg, -⟩
  rw [← List.map_set,td_set n1 (by omega)] at hy4
  have hw4:=hw.grown hg (by have:=hw.size;omega) (fun b e=>(own_block hy b e).1)
  refine Af<|Bo<|Aa<|Cw.out<|Ab<|Lw.val (Bc O O (by omega)) O<|Lw.val (Ad O) O<|Af ?_
  exact Aa (Bq (i+1) ⟨rfl,rfl,rfl,rfl,rfl,rfl,rfl,trivial⟩ (⟨hi',hC',hw4,hy4⟩) (by omega))
 intro h
 have hi' :i=o.length:=by have:=of_decide_eq_false h;omega
 subst hi'
 have ho:ordOk o=true:=ordOk_iff.2 hC
 rw [← n2,td_all n1] at hy
 rw [← n1] at hy
 have s_y:=own_slT hy
 have okT:=turn_ok (tok_ok k_t).1 ho hl
 have q_r:A_r<w2.heap.size:=by omega
 rw [show tnE t o=0 by unfold tnE;rw [k_t,decide_eq_true hl,ho];rfl]
 refine Bi<|Am<|Am<|Az<|Aa<|Cw.out<|Ae<|Ab<|Lw.val (Ad O) O<|Lw.val (C7 (vs:=[]) (us:=[.pointer (some ⟨A_o,0,none⟩), .pointer (some ⟨A_t,0,none⟩)]) O O) O<|Al O O (filled_c y (turn t.s o) 218 [.pointer (some ⟨A_o,0,none⟩), .pointer (some ⟨A_t,0,none⟩)] (fun i=>t.l.getD (tuS t.s o (Shapes.place (turn t.s o) (i:Int)) o.length).toNat default) _ s_y okT (fun i a w' hb _ ha=>turnF_c A_o A_t v o t a i w' (b_o.bs hb) (b_t.bs hb) (h_v.bs hb) (h_t.bs hb) k_t ho hl ha)) ?_
 rintro _ w ⟨hn,x,x2,rfl,hm⟩
 have hm:=hm.k
 replace hB:=hB.bs hn
 replace h_t:=h_t.bs hn
 replace h_v:=h_v.bs hn
 replace b_t:=b_t.bs hn
 replace b_o:=b_o.bs hn
 replace b_r:=b_r.bs hn
 clear hn
 refine Lw.val (Ax (i:=0) O O) O<|Lw.val (Ax (i:=1) O O) O<|Ay (Bp (cs:=[x,x2]) O O O O hm.at.one b_r O) ?_
 rintro w5 ⟨b_r5,hg, -⟩
 have hB5:=hB.grown hg (below_size hB) (by rintro _ ⟨⟩;omega)
 refine Lw.val (Ac O) O<|Af<|Aa<|Cw.out<|An<|Bf O O O (by assumption) (Tryz.underlying33) O O O ?_
 have zz:=below_size hB
 exact ⟨hB5,x,x2,rfl,fun h=>absurd rfl h,fun _=>⟨(bl_krow hm.row hg q_r).mono (by omega),(bl_krow hm.col hg q_r).mono (by omega),hm.apart⟩⟩
end Go.Proofs.YtmipoeanpnnjoaaGreatDoor

/-! Contracts: numbers as bytes. -/
namespace Go.Proofs.YtmipoeanpnnjoaaGreatDoor
open Go Go.Dd Go.RowKit
set_option maxRecDepth 100000

def gf (l:List (BitVec 8)):BitVec 32:=le4 (l.getD 0 default) (l.getD 1 default) (l.getD 2 default) (l.getD 3 default)
theorem growIntS_c (k:Nat) (w:World) (hk:k≤16777216):Fnc Tryz.prog 245 [.slice none 0 0, .int .i64 (k:Int)] w (fun r w' =>w'.ownsRow w.heap.size 3 1 r 0 []∧Below w.heap.size w w'):=by
 have hnil:=Sl.nil w 1
 refine Ap (n:=27) Tryz.func245 (by kernel_rfl) O O O<|Ae<|Ab<|Lw.val (Ac O) O<|Af<|Aa<|Cw.out<|Ae<|Ae<|Ab<|Lw.val (Ad O) O<|Lw.val (Bh O O) O<|Af<|Aa<|Cw.out<|Bs O false (by simp)<|Aq<|Aa<|Cw.out<|Ae<|Ae<|Ab<|Lw.val (Ad O) O<|Lw.val (Ad O) O<|Lw.val (Ex.capNil st_23 O) O<|Lw.val (Ad O) O<|Lw.val (Av st_23 O (by assumption)) O ?_
 refine Lw.val (Cx O O (by omega)) O<|Lw.val (Cx O O (by omega)) O<|Lw.val (Ac O) O<|Af<|Aa<|Cw.out<|Ae<|Ab<|Lw.val (Ad O) O<|Lw.val (Cr O O) O<|Af<|Aa<|Cw.out<|Au O ?_ ?_
 ·intro g
  have g' :0<k:=by have:=of_decide_eq_true g;omega
  refine Ab<|Lw.val (Ad O) O<|Lw.val (Ad O) O<|Lw.val (Ex.capNil st_23 O) O<|Lw.val (Ex.as (u:= .slice none 0 0) (Ex.cutH (j:=0) st_23 O O hnil (Nat.le_refl 0)) O) O<|Lw.val (Ex.as (u:= .int .i64 (k:Int)) (Ad O) (congrArg (Value.int .i64) (by omega))) O<|Bl (Xw.grow0 (tn:=3) (kn:= .i64) st_23 it_3 O (by decide) un_3 O O g' (by omega) (by omega)) O ?_
  rintro v w1 ⟨cap,xs,rfl,ho,hn⟩
  have hnil:=Sl.nil w1 1
  refine Lw.val (Ad O) O<|Lw.val (Av st_23 O (by assumption)) O ?_
  refine Lw.val (Ex.extH (j:=0) st_23 O O (Nat.zero_le cap)) O<|Lw.val (Ac O) O<|Af<|Aa<|Cw.out<|Ae<|Ab<|Lw.val (Ad O) O<|Lw.val (Ac O) O<|Af<|Aa<|Cw.out<|An<|Bb O O ?_
  exact ⟨own_short (k:=0) (m:=k) (xs:=[]) (by simpa using ho) rfl,hn⟩
 ·intro g
  refine Aq<|Aa<|Cw.out<|Ae<|Ab<|Lw.val (Ad O) O<|Lw.val (Ac O) O<|Af<|Aa<|Cw.out<|An<|Bb O O ?_
  exact ⟨⟨rfl, .inl ⟨rfl,rfl⟩⟩,Below.refl _ _⟩
theorem concatInt_c (v:Value) (ps:List (Value×List (Int))) (w:World) (hv:SlT (fun p:Value×List (Int)=>p.1) w v ps) (hp:∀p ∈ ps,SlT (Value.int .i64) w p.1 p.2) (hb:(ps.map (·.2)).flatten.length≤16777216):
  Fnc Tryz.prog 220 [v] w (fun r w' =>w'.ownsRow w.heap.size 3 1 r (ps.map (·.2)).flatten.length ((ps.map (·.2)).flatten.map (Value.int .i64))∧Below w.heap.size w w'):=by
 have hle:=hv.le
 have hmem:∀i,i<ps.length→SlT (Value.int .i64) w (ps.getD i default).1 (ps.getD i default).2:=fun i hi=>hp _ (getD_mem hi)
 refine Ap (n:=36) Tryz.func220 (by kernel_rfl) O O O<|Ae<|Ab<|Lw.val (Ac O) O<|Af<|Aa<|Cw.out<|Ae<|Ab<|Lw.val (Ac O) O<|Af<|Aa<|Cw.out<|Ae<|Ae<|Ab<|Lw.val (Ad O) O<|Lw.val (Av st_125 O (by assumption)) O ?_
 refine Lw.val (Ad O) O<|Af<|Aa<|Cw.out<|Cw.block ?_
 refine Bj (S:=Nat) (fun i=>[(0,v),(3, .int .i64 ((((ps.take i).map (·.2)).flatten.length:Nat):Int)),(9,v),(10, .int .i64 (ps.length:Int)),(11, .int .i64 (i:Int))]) (fun i w' =>i≤ps.length∧w' =w) (fun i=>ps.length - i) (0) ⟨rfl,rfl,rfl,rfl,rfl,trivial⟩ ?_ ?_
 ·exact ⟨by omega,rfl⟩
 rintro i w1 ⟨hi,rfl⟩
 refine Ae<|Ab<|Lw.val (Bh O O) O<|Af<|Aa<|Cw.out<|Ae<|Au O ?_ ?_
 ·intro h
  have hi' :i<ps.length:=by simp at h;omega
  have hs:=hmem i hi'
  have h1:=cat_le (ps:=ps) (i+1)
  have h2:=cat_step hi'
  have h3:=congrArg List.length h2
  rw [List.length_append] at h3
  refine Aq<|Aa<|Cw.out<|Ae<|Cw.block<|Ae<|Ab<|Lw.val (Ba st_125 O O (by assumption) _ O (by omega)) O ?_
  refine Lw.val (Bg (ag_23 _) O (by assumption) (by omega)) O ?_
  refine Lw.val (Ac O) O<|Af<|Aa<|Cw.out<|Ae<|Ab<|Lw.val (Ad O) O<|Lw.val (Ad O) O<|Lw.val (Av st_23 O (by assumption)) O ?_
  refine Lw.val (Bc O O (by omega)) O<|Lw.val (Ac O) O<|Af<|Aa<|Cw.out<|Ae<|Ab<|Lw.val (Ad O) O<|Lw.val (Bh O O) O<|Af<|Aa<|Cw.out<|Bs O false (by simp;omega)<|Aq<|Bo<|Aa<|Cw.out<|Ab<|Lw.val (Bc O O (by omega)) O<|Lw.val (Ad O) O<|Af ?_
  exact Aa (Bq (i+1) ⟨rfl,(congrArg (fun x=>some (Value.int .i64 x)) (by omega)),rfl,rfl,rfl,trivial⟩ (⟨hi',rfl⟩) (by omega))
 intro h
 have hi' :i=ps.length:=by simp at h;omega
 subst hi'
 rw [List.take_length]
 refine Bi<|Am<|Am<|Az<|Aa<|Cw.out<|Ae<|Ab<|Lw.val (Ad O) O<|Al O O (growIntS_c _ w1 hb) ?_
 rintro x w2 ⟨ho,hn⟩
 have hv2:=hv.bs hn
 refine Lw.val (Ac O) O<|Af<|Aa<|Cw.out<|Ae<|Ae<|Ab<|Lw.val (Ad O) O<|Lw.val (Av st_125 O (by assumption)) O ?_
 refine Lw.val (Ad O) O<|Af<|Aa<|Cw.out<|Cw.block ?_
 refine Bj (S:=(Nat×Value)) (fun z=>[(0,v),(6,z.2),(25,v),(26, .int .i64 (ps.length:Int)),(27, .int .i64 (z.1:Int))]) (fun z w' =>z.1≤ps.length∧w'.ownsRow w1.heap.size 3 1 z.2 ((ps.take z.1).map (·.2)).flatten.length (((ps.take z.1).map (·.2)).flatten.map (Value.int .i64))∧Below w1.heap.size w1 w') (fun z=>ps.length - z.1) ((0,x)) ⟨rfl,rfl,rfl,rfl,rfl,trivial⟩ ?_ ?_
 ·exact ⟨Nat.zero_le _,by simpa using ho,hn⟩
 clear ho hn hv2
 rintro ⟨i,x⟩ w2 ⟨hi,ho,hn⟩
 dsimp only at hi ho ⊢
 have hv2:=hv.bs hn
 refine Ae<|Ab<|Lw.val (Bh O O) O<|Af<|Aa<|Cw.out<|Ae<|Au O ?_ ?_
 ·intro h
  have hi' :i<ps.length:=by simp at h;omega
  have hs:=(hmem i hi').bs hn
  have h1:=cat_le (ps:=ps) (i+1)
  have h2:=cat_step hi'
  have h3:=congrArg List.length h2
  rw [List.length_append] at h3
  refine Aq<|Aa<|Cw.out<|Ae<|Cw.block<|Ae<|Ab<|Lw.val (Ba st_125 O O (by assumption) _ O (by omega)) O ?_
  refine Lw.val (Bg (ag_23 _) O (by assumption) (by omega)) O ?_
  refine Lw.val (Ac O) O<|Af<|Aa<|Cw.out<|Ab<|Lw.val (Ad O) O<|Lw.val (Ad O) O<|Bl (Cq (base:=w1.heap.size) st_23 it_3 O (by decide) O O ho hs (one_map (fun _=>rfl) _) (by omega) (by omega) hn.size) O ?_
  rintro x' w3 ⟨ho3,hb3, -⟩
  rw [← List.map_append,← h2,← h3] at ho3
  refine Lw.val (Ac O) O<|Af<|Bo<|Aa<|Cw.out<|Ab<|Lw.val (Bc O O (by omega)) O<|Lw.val (Ad O) O<|Af ?_
  exact Aa (Bq ((i+1,x')) ⟨rfl,rfl,rfl,rfl,rfl,trivial⟩ (⟨hi',ho3,hn.trans hb3⟩) (by simp only;omega))
 intro h
 have hi' :i=ps.length:=by simp at h;omega
 subst hi'
 rw [List.take_length] at ho
 refine Bi<|Am<|Am<|Az<|Aa<|Cw.out<|Ae<|Ab<|Lw.val (Ad O) O<|Lw.val (Ac O) O<|Af<|Aa<|Cw.out<|An<|Bb O O ?_
 exact ⟨ho,hn⟩
end Go.Proofs.YtmipoeanpnnjoaaGreatDoor

/-! Contract: sums along a direction. -/
namespace Go.Proofs.YtmipoeanpnnjoaaGreatDoor
open Go Go.Dd Go.RowKit
set_option maxRecDepth 100000

theorem apartF_c (u:Value) (s:List Int) (k a:Nat) (w:World) (h_u:SlT (Value.int .i64) w u s) (hok:Shapes.ok s=true) (hk:k<s.length) (ha:Shapes.prod (s.drop (k+1))=(a:Int)):
  Fnc Tryz.prog 221 [.agg #[u, .int .i64 (k:Int)]] w (fun r w' =>r= .int .i64 (a:Int)∧Below w.heap.size w w'):=by
 have hB:=Below.refl w.heap.size w
 refine Ap (n:=8) Tryz.func221 (by kernel_rfl) O O O<|Ae<|Ab<|Bv (cs:=[u, .int .i64 (k:Int)]) O O O ?_
 rintro A_f w eA_f b_f hn -
 replace hB:=hB.bs hn
 replace h_u:=h_u.bs hn
 clear hn
 refine Lw.val (Ac O) O<|Af<|Aa<|Cw.out<|Ae<|Ab<|Lw.val (Ag (q:=0) Tryz.underlying239 O (sz_235 _) O) O<|Lw.val (Aj (ag_235 _) O (by assumption) O) O ?_
 refine Lw.val (Ag (q:=0) Tryz.underlying239 O (sz_3 _) O) O<|Lw.val (Aj (ag_3 _) O (by assumption) O) O ?_
 refine Al O O (behind_c u s k _ h_u hok hk) ?_
 rintro _ w ⟨rfl,hn⟩
 replace hB:=hB.bs hn
 replace h_u:=h_u.bs hn
 replace b_f:=b_f.bs hn
 clear hn
 refine Lw.val (Ac O) O<|Af<|Aa<|Cw.out<|An<|Bb O O ?_
 exact ⟨by rw [ha],hB⟩
theorem ofF_c (u:Value) (s:List Int) (k a:Nat) (w:World) (h_u:SlT (Value.int .i64) w u s) (hk:k<s.length) (ha:s.getD k default=(a:Int)):
  Fnc Tryz.prog 222 [.agg #[u, .int .i64 (k:Int)]] w (fun r w' =>r= .int .i64 (a:Int)∧Below w.heap.size w w'):=by
 have hB:=Below.refl w.heap.size w
 refine Ap (n:=9) Tryz.func222 (by kernel_rfl) O O O<|Ae<|Ab<|Bv (cs:=[u, .int .i64 (k:Int)]) O O O ?_
 rintro A_f w eA_f b_f hn -
 replace hB:=hB.bs hn
 replace h_u:=h_u.bs hn
 clear hn
 refine Lw.val (Ac O) O<|Af<|Aa<|Cw.out<|Ae<|Ab<|Lw.val (Ag (q:=0) Tryz.underlying239 O (sz_235 _) O) O<|Lw.val (Aj (ag_235 _) O (by assumption) O) O ?_
 refine Lw.val (Ag (q:=0) Tryz.underlying239 O (sz_3 _) O) O<|Lw.val (Aj (ag_3 _) O (by assumption) O) O ?_
 refine Lw.val (Ba st_235 O O h_u k O hk) O<|Lw.val ((Bg (ag_3 _) O h_u hk).as (congrArg (Value.int .i64) ha)) O<|Lw.val (Ac O) O<|Af<|Aa<|Cw.out<|An<|Bb O O ?_
 exact ⟨rfl,hB⟩
theorem bt_field (y:Value) (a:Int) (hy:y.cells=[y].toArray):Tryz.prog.built 239 [(0,y),(1, .int .i64 a)]=some [y, .int .i64 a].toArray:=by
 have h1:Tryz.prog.info? 239=some Tryz.t239:=rfl
 have h2:Tryz.prog.info? 235=some Tryz.t235:=rfl
 have h3:Tryz.prog.info? 3=some Tryz.t3:=rfl
 simp [Program.built,h1,Tryz.underlying239,h2,h3,Instr.fill,hy]
 rfl
def suE (t:T4) (along:Int):Int:=if tok t.s t.l && decide (0≤along) && decide (along<(t.s.length:Int)) then 0 else 1
set_option maxHeartbeats 1000000 in
theorem msum_c (t:T4) (al:Int) (W:World) (h_t:t.at W):
  Fnc Tryz.prog 128 [t.v, .int .i64 al] W (fun r w' =>Below W.heap.size W w' ∧AnsK W w' r (suE t al) (without t.s al.toNat) (suL t.s t.l al.toNat)):=by
 have hB:=Below.refl W.heap.size W
 refine Ap (n:=99) Tryz.func128 (by kernel_rfl) O O O<|Ae<|Ab<|Bv (cs:=[t.x,t.y]) O O O ?_
 rintro A_t w eA_t b_t hn -
 replace hB:=hB.bs hn
 replace h_t:=h_t.bs hn
 clear hn
 have z0:=below_size hB
 refine B8 it_33 O ?_
 rintro A_r w eA_r b_r hn -
 replace hB:=hB.bs hn
 replace h_t:=h_t.bs hn
 replace b_t:=b_t.bs hn
 clear hn
 refine Lw.val (Ac O) O<|Af<|Aa<|Cw.out<|Ae<|Ae<|Ab<|Lw.val (Bw (ag_33 _) (sz_33 _) O O (by assumption)) O ?_
 have z_r:=blk_lt b_r
 have h_t1:=h_t.1
 refine Al O O (tcheck_c t.x t.y t.s t.l _ h_t.1 h_t.2) ?_
 rintro _ w ⟨rfl,hn⟩
 replace hB:=hB.bs hn
 replace h_t:=h_t.bs hn
 replace b_t:=b_t.bs hn
 replace b_r:=b_r.bs hn
 replace h_t1:=h_t1.bs hn
 clear hn
 refine Lw.val (Bx O) O<|Lw.val (Ad O) O ?_
 refine Bt 16 O ?_ ?_
 ·intro g
  refine Ai (dj:=16) O O O O<|Ai (dj:=16) O O O O<|Lw.val (As O O) O<|Lw.val (Ad O) O<|Ai (dj:=20) O O O O<|Ai (dj:=20) O O O O<|Ai (dj:=20) O O O O<|Ai (dj:=20) O O O O<|Ai (dj:=20) O O O O<|Lw.val (As O O) O<|Af<|Aa<|Cw.out<|Br O<|Ae<|Ab<|Lw.val (Bn (vs:=[]) (cs:=[.slice none 0 0, .slice none 0 0]) O (by kernel_rfl)) O<|Ay (Bp (cs:=[.slice none 0 0, .slice none 0 0]) O O O O O b_r O) ?_
  rintro w3 ⟨b_r,hg, -⟩
  have hB:=hB.grown hg (below_size hB) (by rintro _ ⟨⟩;omega)
  refine Lw.val (Ac O) O<|Af<|Aa<|Cw.out<|An<|Ak<|Bf O O O (by assumption) (Tryz.underlying33) O O O ?_
  rw [show suE t al=1 by simp_all [suE]]
  exact ⟨hB,ansK_no (by decide)⟩
 intro g1
 have k_t:tok t.s t.l=true:=by simpa using g1
 refine Lw.take (dj:=16) O O<|Lw.val (Ad O) O<|Lw.take (dj:=16) O O<|Lw.val (Bh O O) O<|Lw.val (Bd O O) O<|Lw.val (Ad O) O ?_
 refine Bt 20 O ?_ ?_
 ·intro g
  have g:=of_decide_eq_true g
  refine Ai (dj:=20) O O O O<|Ai (dj:=20) O O O O<|Ai (dj:=20) O O O O<|Ai (dj:=20) O O O O<|Ai (dj:=20) O O O O<|Lw.val (As O O) O<|Af<|Aa<|Cw.out<|Br O<|Ae<|Ab<|Lw.val (Bn (vs:=[]) (cs:=[.slice none 0 0, .slice none 0 0]) O (by kernel_rfl)) O<|Ay (Bp (cs:=[.slice none 0 0, .slice none 0 0]) O O O O O b_r O) ?_
  rintro w3 ⟨b_r,hg, -⟩
  have hB:=hB.grown hg (below_size hB) (by rintro _ ⟨⟩;omega)
  refine Lw.val (Ac O) O<|Af<|Aa<|Cw.out<|An<|Ak<|Bf O O O (by assumption) (Tryz.underlying33) O O O ?_
  rw [show suE t al=1 by unfold suE;rw [decide_eq_false (show ¬0≤al by omega),Bool.and_false,Bool.false_and];rfl]
  exact ⟨hB,ansK_no (by decide)⟩
 intro g2
 have g2:=of_decide_eq_false g2
 refine Lw.take (dj:=20) O O<|Lw.val (Ad O) O<|Lw.take (dj:=20) O O<|Lw.val (Ag (q:=0) Tryz.underlying33 O (sz_23 _) O) O<|Lw.take (dj:=20) O O<|Lw.val (Aj (ag_23 _) O (by assumption) O) O ?_
 refine Lw.take (dj:=20) O O<|Lw.val (Av st_23 O (by assumption)) O ?_
 refine Lw.take (dj:=20) O O<|Lw.val (Cu O O) O<|Lw.val (Bd O O) O<|Af<|Aa<|Cw.out<|Au O ?_ ?_
 ·intro g
  have g:=of_decide_eq_true g
  refine Ae<|Ab<|Lw.val (Bn (vs:=[]) (cs:=[.slice none 0 0, .slice none 0 0]) O (by kernel_rfl)) O<|Ay (Bp (cs:=[.slice none 0 0, .slice none 0 0]) O O O O O b_r O) ?_
  rintro w3 ⟨b_r,hg, -⟩
  have hB:=hB.grown hg (below_size hB) (by rintro _ ⟨⟩;omega)
  refine Lw.val (Ac O) O<|Af<|Aa<|Cw.out<|An<|Ak<|Bf O O O (by assumption) (Tryz.underlying33) O O O ?_
  rw [show suE t al=1 by unfold suE;rw [decide_eq_false (show ¬al<(t.s.length:Int) by omega),Bool.and_false];rfl]
  exact ⟨hB,ansK_no (by decide)⟩
 intro g3
 have g3:=of_decide_eq_false g3
 rw [show suE t al=0 by unfold suE;rw [k_t,decide_eq_true (show 0≤al by omega),decide_eq_true (show al<(t.s.length:Int) by omega)];rfl]
 clear g1
 obtain ⟨k,rfl⟩:∃k:Nat,al=(k:Int):=⟨al.toNat,by omega⟩
 rw [Int.toNat_natCast]
 have hk:k<t.s.length:=by omega
 clear g2 g3
 obtain ⟨k1,k2⟩:=tok_ok k_t
 have S:=(Shapes.ok_iff t.s).1 k1
 have okW:=without_ok k1 hk
 have pr:=Shapes.ok_prod k1 (k+1)
 have dk:=dim_at S.2.1 hk
 obtain ⟨a,ha⟩:∃a:Nat,Shapes.prod (t.s.drop (k+1))=(a:Int):=⟨_,(Int.toNat_of_nonneg (by omega)).symm⟩
 obtain ⟨n,hn⟩:∃n:Nat,t.s.getD k default=(n:Int):=⟨_,(Int.toNat_of_nonneg (by omega)).symm⟩
 obtain ⟨ps,hps⟩:∃ps:List (Value×List Int),ps=[(cut t.x 1 0 k,t.s.take k),(cut t.x 1 (k+1) t.s.length,t.s.drop (k+1))]:=⟨_,rfl⟩
 have s_1:=SlT.take h_t1 (j:=k) (by omega)
 have s_2:=SlT.drop h_t1 (i:=k+1) (by omega)
 refine Aq<|Aa<|Cw.out<|Ae<|Cw.tail 9 mixed (by kernel_rfl)<|Qw.val (fun w1 hq=>Ag (q:=0) Tryz.underlying33 O (sz_23 _) O) O<|Qw.val (fun w1 hq=>Aj (ag_23 _) O (Blk.bs (by assumption) hq) O) O ?_
 refine Qw.val (fun w1 hq=>Ad O) O<|Qw.val (fun w1 hq=>Ex.cutH st_23 O O (Sl.bs (by assumption) hq) (by omega)) O ?_
 refine Qw.val (fun w1 hq=>Ag (q:=0) Tryz.underlying33 O (sz_23 _) O) O<|Qw.val (fun w1 hq=>Aj (ag_23 _) O (Blk.bs (by assumption) hq) O) O ?_
 refine Qw.val (fun w1 hq=>Ad O) O<|Qw.val (fun w1 hq=>(Bc O O (by omega)).as (congrArg (Value.int .i64) (show (k:Int)+1=((k+1:Nat):Int) by omega))) O<|Qw.val (fun w1 hq=>Ex.cutL st_23 O O (Sl.bs (by assumption) hq) (by omega)) O ?_
 refine Cj (fun w2 hq=> ?_)
 replace hB:=hB.bs hq
 replace h_t:=h_t.bs hq
 replace b_t:=b_t.bs hq
 replace b_r:=b_r.bs hq
 replace h_t1:=h_t1.bs hq
 replace s_1:=s_1.bs hq
 replace s_2:=s_2.bs hq
 clear hq
 refine Bl (Cp (vs:=ps.map (fun p=>p.1)) st_125 it_23 O (by rw [hps];rfl) (by rw [hps];rfl) (by rw [hps];simp [s_1.one',s_2.one']) O) O ?_
 rintro x0 w ⟨hx0, -,hn0, -⟩
 have hx0:w.ownsRow w2.heap.size 23 1 x0 ps.length (ps.map (fun p=>p.1)):=by rw [show ps.length=2 by rw [hps];rfl];exact hx0
 replace hB:=hB.bs hn0
 replace h_t:=h_t.bs hn0
 replace b_t:=b_t.bs hn0
 replace b_r:=b_r.bs hn0
 replace h_t1:=h_t1.bs hn0
 replace s_1:=s_1.bs hn0
 replace s_2:=s_2.bs hn0
 clear hn0
 have zc:=below_size hB
 refine Al O O (concatInt_c x0 ps w (own_slT hx0) (by rw [hps];intro p hp;simp at hp;rcases hp with rfl|rfl;exact s_1;exact s_2) (by rw [hps];simp;omega)) ?_
 rintro x w ⟨hx,hn1⟩
 have hfl:(ps.map (·.2)).flatten=t.s.take k++t.s.drop (k+1):=by rw [hps];simp
 rw [hfl] at hx
 have hx:=own_mono hx zc
 replace hB:=hB.bs hn1
 replace h_t:=h_t.bs hn1
 replace b_t:=b_t.bs hn1
 replace b_r:=b_r.bs hn1
 replace h_t1:=h_t1.bs hn1
 replace s_1:=s_1.bs hn1
 replace s_2:=s_2.bs hn1
 clear hn1 hx0 hfl
 have s_x:=own_slT hx
 refine Lw.val (Ac O) O<|Af<|Aa<|Cw.out<|Ae<|Ae<|Ab<|Lw.val (Ad O) O<|Lw.val (Av st_23 O (by assumption)) O ?_
 refine Lw.val (Cn O O) O<|Af<|Aa<|Cw.out ?_
 refine Cw.midS (St:=Value) (fun z=>[(1, .int .i64 (k:Int)),(2, .pointer (some ⟨A_t,0,none⟩)),(4, .pointer (some ⟨A_r,0,none⟩)),(6,z)]) (fun z w' =>Below w.heap.size w w' ∧SlT (Value.int .i64) w' z (without t.s k)) ?_ ?_
 ·have hM:=Below.refl w.heap.size w
  refine Au O ?_ ?_
  ·intro g
   have g:=of_decide_eq_true g
   have l1:t.s.length=1:=by rw [List.length_append,List.length_take,List.length_drop] at g;omega
   refine Ab<|Bl (Cp (vs:=[(1:Int)].map (Value.int .i64)) st_23 it_3 O O O O O) O ?_
   rintro z w ⟨hz, -,hn2, -⟩
   replace hB:=hB.bs hn2
   replace h_t:=h_t.bs hn2
   replace b_t:=b_t.bs hn2
   replace b_r:=b_r.bs hn2
   replace h_t1:=h_t1.bs hn2
   replace s_1:=s_1.bs hn2
   replace s_2:=s_2.bs hn2
   replace hx:=hx.bs hn2
   replace s_x:=s_x.bs hn2
   replace hM:=hM.bs hn2
   refine Lw.val (Ac O) O<|Af ?_
   exact Pw.midS (z) ⟨rfl,rfl,rfl,rfl,trivial⟩ (⟨hM,by unfold without;rw [if_pos l1];exact own_slT hz⟩)
  intro g
  have g:=of_decide_eq_false g
  have l1:¬t.s.length=1:=by intro h;apply g;rw [List.length_append,List.length_take,List.length_drop];omega
  refine Aq ?_
  exact Pw.midS (x) ⟨rfl,rfl,rfl,rfl,trivial⟩ (⟨hM,by unfold without;rw [if_neg l1];exact own_slT hx⟩)
 rintro z w ⟨hn3,h_z⟩
 replace hB:=hB.bs hn3
 replace h_t:=h_t.bs hn3
 replace b_t:=b_t.bs hn3
 replace b_r:=b_r.bs hn3
 replace h_t1:=h_t1.bs hn3
 replace s_1:=s_1.bs hn3
 replace s_2:=s_2.bs hn3
 replace hx:=hx.bs hn3
 replace s_x:=s_x.bs hn3
 clear hn3
 clear hx s_x
 refine Cw.out ?_
 have h_t2:=h_t.2
 refine Ae<|Ab<|Lw.val (Ag (q:=0) Tryz.underlying33 O (sz_23 _) O) O<|Lw.val (Aj (ag_23 _) O (by assumption) O) O ?_
 refine Lw.val (Ad O) O<|Lw.val (Bn (vs:=[(0,t.x),(1, .int .i64 (k:Int))]) (cs:=[t.x, .int .i64 (k:Int)]) O (bt_field _ _ h_t1.one)) O<|Cb (cs:=[t.x, .int .i64 (k:Int)]) it_239 O O O O (fun _=>rfl) (by simp [h_t1.one'];rfl) ?_
 rintro A_f w eA_f b_f hn -
 replace hB:=hB.bs hn
 replace h_t:=h_t.bs hn
 replace b_t:=b_t.bs hn
 replace b_r:=b_r.bs hn
 replace h_t1:=h_t1.bs hn
 replace s_1:=s_1.bs hn
 replace s_2:=s_2.bs hn
 replace h_z:=h_z.bs hn
 replace h_t2:=h_t2.bs hn
 clear hn
 refine Af<|Aa<|Cw.out<|Ae<|Ab<|Lw.val (Ad O) O ?_
 have y_t:=blk_lt b_t
 have y_r:=blk_lt b_r
 have y_f:=blk_lt b_f
 have y_B:=below_size hB
 have p_t:=h_t
 refine Al O O (new_c z (without t.s k) _ h_z) ?_
 rintro _ w7 ⟨hn7,⟨hk',x,y,rfl,hm⟩|⟨hk',rfl⟩⟩
 ·refine Lw.val (Ad O) O<|Lw.val (Ax (i:=0) O O) O<|Lw.val (Ax (i:=1) O O) O<|Cb (cs:=[x,y]) it_33 O O O O (fun _=>rfl) (hm.one) ?_
  rintro A_m w8 eA_m b_m hn8 zhn8
  have M:=mine_new hm eA_m b_m hn8 zhn8 hn7.size
  have hw8:=bt hn7 hn8
  have zw:=hw8.size
  replace hB:=hB.bs hw8
  replace h_t:=h_t.bs hw8
  replace b_t:=b_t.bs hw8
  replace b_r:=b_r.bs hw8
  replace h_t1:=h_t1.bs hw8
  replace s_1:=s_1.bs hw8
  replace s_2:=s_2.bs hw8
  replace h_z:=h_z.bs hw8
  replace h_t2:=h_t2.bs hw8
  replace b_f:=b_f.bs hw8
  clear hm b_m hn7 hn8 eA_m zhn8 hw8
  have zB:=below_size hB
  have szW:=Shapes.size_le (without t.s k)
  have szo:=Shapes.size_ok okW
  rw [without_prod hk,ha] at szo
  obtain ⟨P,hP⟩:∃P:Nat,Shapes.prod (t.s.take k)=(P:Int):=⟨_,(Int.toNat_of_nonneg (by have:=Shapes.prod_pos (s:=t.s.take k) fun x hx=>S.2.1 x (List.mem_of_mem_take hx);omega)).symm⟩
  have hM:(Shapes.size (without t.s k)).toNat=P*a:=by
   have:((P*a:Nat):Int)=Shapes.size (without t.s k):=by rw [szo,hP];push_cast;rfl
   omega
  have hL:t.l.length=P*(n*a):=by
   have e1:=Shapes.size_ok k1
   rw [prod_split hk,ha,hn,hP] at e1
   have:((P*(n*a):Nat):Int)=Shapes.size t.s:=by rw [e1];push_cast;rfl
   have:=Shapes.size_le t.s
   omega
  have sz4:t.l.length≤4096:=by have:=Shapes.size_le t.s;omega
  obtain ⟨fl,hfl⟩:∃l,l=suL t.s t.l k:=⟨_,rfl⟩
  obtain ⟨zs,hzs⟩:∃l,l=List.replicate (Shapes.size (without t.s k)).toNat 0#32:=⟨_,rfl⟩
  rw [← hzs] at M
  have n1:fl.length=zs.length:=by rw [hfl,hzs];simp [suL]
  have n2:zs.length=P*a:=by rw [hzs,List.length_replicate,hM]
  have hF:∀i,i<P*a→fl.getD i default=sm n (suF t.s t.l k i):=fun i hi=>by rw [hfl];unfold suL;rw [hM,hn,Int.toNat_natCast];simp [hi]
  have hG:∀i j,suF t.s t.l k i j=t.l.getD (i / a*a*n+i % a+j*a) default:=fun i j=>by unfold suF;rw [ha,hn,Int.toNat_natCast,Int.toNat_natCast]
  have b_m:=M.box
  have y_m:=M.sly
  refine Lw.val (Ac O) O<|Af<|Aa<|Cw.out<|Ae<|Ae<|Ab<|Lw.val (Ag (q:=0) Tryz.underlying33 O (sz_31 _) O) O<|Lw.val (Aj (ag_31 _) O (by assumption) O) O ?_
  refine Lw.val (Av st_31 O (by assumption)) O ?_
  refine Lw.val (Ad O) O<|Af<|Aa<|Cw.out<|Cw.block ?_
  refine Bj (S:=Nat) (fun i=>[(2, .pointer (some ⟨A_t,0,none⟩)),(4, .pointer (some ⟨A_r,0,none⟩)),(7, .pointer (some ⟨A_f,0,none⟩)),(8, .pointer (some ⟨A_m,0,none⟩)),(9, .int .i64 0),(54, .int .i64 (zs.length:Int)),(55, .int .i64 (i:Int))]) (fun i w' =>i≤zs.length∧Below w.heap.size w8 w' ∧MineT w' w.heap.size w8.heap.size A_m x y (without t.s k) (fl.take i++zs.drop i)) (fun i=>zs.length - i) (0) ⟨rfl,rfl,rfl,rfl,rfl,rfl,rfl,trivial⟩ ?_ ?_
  ·exact ⟨by omega,Below.refl _ _,by rw [td_zero];exact M⟩
  clear M b_m y_m
  rintro i w11 ⟨hi,hw,M⟩
  refine Ae<|Ab<|Lw.val (Bh O O) O<|Af<|Aa<|Cw.out<|Ae<|Au O ?_ ?_
  ·intro h
   have hi' :i<zs.length:=by have:=of_decide_eq_true h;omega
   have hiP:i<P*a:=by omega
   have b_f1:=b_f.bl hw y_f
   have h_t11:=(at_stay p_t h_t (Nat.le_refl _) hw).1
   have a1:1≤a:=by omega
   have r0:=su_lt (n:=n) hiP (j:=0) (by omega)
   rw [Nat.zero_mul,Nat.add_zero,← hL] at r0
   obtain ⟨fi,hfi⟩:∃x,x=i / a*a*n+i % a:=⟨_,rfl⟩
   obtain ⟨qa,hqa⟩:∃x,x=i / a*a:=⟨_,rfl⟩
   obtain ⟨qn,hqn⟩:∃x,x=qa*n:=⟨_,rfl⟩
   obtain ⟨q,hqq⟩:∃x,x=i / a:=⟨_,rfl⟩
   obtain ⟨rr,hrr⟩:∃x,x=i % a:=⟨_,rfl⟩
   rw [← hqq] at hqa
   rw [← hqq,← hqa,← hqn,← hrr] at hfi r0
   have c1:(q:Int)*(a:Int)=(qa:Int):=by rw [hqa];push_cast;rfl
   have c2:(qa:Int)*(n:Int)=(qn:Int):=by rw [hqn];push_cast;rfl
   have qle:qa≤i:=by rw [hqa,hqq];exact Nat.div_mul_le_self i a
   refine Aq<|Aa<|Cw.out<|Ae<|Cw.block<|Ae<|Ab<|Lw.val (Ad O) O<|Lw.val (Ac O) O<|Af<|Aa<|Cw.out<|Ae<|B5 mixed (by kernel_rfl)<|Qw.val (fun w1 hq=>Ad O) O<|Qw.val (fun w1 hq=>Bw (ag_239 _) (sz_239 _) O O (Blk.bs (by assumption) hq)) O ?_
   refine B9 O O (fun w1 hq=>(apartF_c t.x t.s k a w1 (h_t11.bs hq) k1 hk ha).q hq)<|Qw.val (fun w1 hq=>(Ct O O (by omega) (by omega)).as (congrArg (Value.int .i64) (show (i:Int) / (a:Int)=(q:Int) by rw [hqq];rfl))) O<|Qw.val (fun w1 hq=>Bw (ag_239 _) (sz_239 _) O O (Blk.bs (by assumption) hq)) O ?_
   refine B9 O O (fun w1 hq=>(apartF_c t.x t.s k a w1 (h_t11.bs hq) k1 hk ha).q hq)<|Qw.val (fun w1 hq=>(Ca O O (by omega)).as (congrArg (Value.int .i64) c1)) O<|Qw.val (fun w1 hq=>Bw (ag_239 _) (sz_239 _) O O (Blk.bs (by assumption) hq)) O ?_
   refine B9 O O (fun w1 hq=>(ofF_c t.x t.s k n w1 (h_t11.bs hq) hk hn).q hq)<|Qw.val (fun w1 hq=>(Ca O O (by omega)).as (congrArg (Value.int .i64) c2)) O<|Qw.val (fun w1 hq=>Ad O) O<|Qw.val (fun w1 hq=>Bw (ag_239 _) (sz_239 _) O O (Blk.bs (by assumption) hq)) O ?_
   refine B9 O O (fun w1 hq=>(apartF_c t.x t.s k a w1 (h_t11.bs hq) k1 hk ha).q hq)<|Qw.val (fun w1 hq=>(Ex.remI O O (by omega) (by omega)).as (congrArg (Value.int .i64) (show (i:Int) % (a:Int)=(rr:Int) by rw [hrr];rfl))) O<|Qw.val (fun w1 hq=>(Bc O O (by omega)).as (congrArg (Value.int .i64) (show (qn:Int)+(rr:Int)=(fi:Int) by omega))) O<|Qw.val (fun w1 hq=>Ac O) O ?_
   refine B3 (fun w12 hq=> ?_)
   refine Aa<|Cw.out<|Ae ?_
   have hw:=hw.trans (hq.mono (by have:=hw.size;omega))
   have M:=M.bs hq
   have b_f1:=b_f1.bs hq
   have h_t11:=h_t11.bs hq
   clear hq
   refine Ab<|Lw.val (Bw (ag_239 _) (sz_239 _) O O (by assumption)) O ?_
   refine Al O O (ofF_c t.x t.s k n w12 h_t11 hk hn) ?_
   rintro _ w13 ⟨rfl,hq⟩
   have hw:=hw.trans (hq.mono (by have:=hw.size;omega))
   have M:=M.bs hq
   have e1:=td_len (i:=i) n1
   have h0:(fl.take i++zs.drop i).set i 0#32=fl.take i++zs.drop i:=set_selfD (by omega) (by rw [td_get n1 hi',hzs];exact getD_rep (by omega))
   refine Lw.val (Ad O) O<|Af<|Aa<|Cw.out<|Cw.block ?_
   refine Bj (S:=Nat) (fun j=>[(2, .pointer (some ⟨A_t,0,none⟩)),(4, .pointer (some ⟨A_r,0,none⟩)),(7, .pointer (some ⟨A_f,0,none⟩)),(8, .pointer (some ⟨A_m,0,none⟩)),(9, .int .i64 0),(54, .int .i64 (zs.length:Int)),(55, .int .i64 (i:Int)),(10, .int .i64 (i:Int)),(11, .int .i64 (fi:Int)),(74, .int .i64 (n:Int)),(75, .int .i64 (j:Int))]) (fun j w' =>j≤n∧Below w.heap.size w8 w' ∧MineT w' w.heap.size w8.heap.size A_m x y (without t.s k) ((fl.take i++zs.drop i).set i (sm j (suF t.s t.l k i)))) (fun j=>n - j) (0) ⟨rfl,rfl,rfl,rfl,rfl,rfl,rfl,rfl,rfl,rfl,rfl,trivial⟩ ?_ ?_
   ·exact ⟨Nat.zero_le _,hw,by rw [show sm 0 (suF t.s t.l k i)=0#32 from rfl,h0];exact M⟩
   clear M hw hq b_f1 h_t11
   rintro j w14 ⟨hj,hw,M⟩
   refine Ae<|Ab<|Lw.val (Bh O O) O<|Af<|Aa<|Cw.out<|Ae<|Au O ?_ ?_
   ·intro h
    have hj' :j<n:=by have:=of_decide_eq_true h;omega
    have b_f1:=b_f.bl hw y_f
    have b_t1:=b_t.bl hw y_t
    have h_t1a:=at_stay p_t h_t (Nat.le_refl _) hw
    have h_t11:=h_t1a.1
    have h_t12:=h_t1a.2
    have b_m:=M.box
    have y_m:=M.sly
    have hil:i<((fl.take i++zs.drop i).set i (sm j (suF t.s t.l k i))).length:=by rw [List.length_set];omega
    have rK:=su_lt (n:=n) hiP hj'
    rw [← hL] at rK
    obtain ⟨ja,hja⟩:∃x,x=j*a:=⟨_,rfl⟩
    obtain ⟨K,hK⟩:∃x,x=fi+ja:=⟨_,rfl⟩
    have eK:i / a*a*n+i % a+j*a=K:=by rw [hK,hja,hfi,hqn,hqa,hqq,hrr]
    rw [eK] at rK
    have c3:(j:Int)*(a:Int)=(ja:Int):=by rw [hja];push_cast;rfl
    have eV:sm j (suF t.s t.l k i)+t.l.getD K default=sm (j+1) (suF t.s t.l k i):=by
     show _=sm j (suF t.s t.l k i)+suF t.s t.l k i j
     rw [hG,eK]
    refine Aq<|Aa<|Cw.out<|Ae<|Cw.block<|Ae<|Ab<|Lw.val (Ad O) O<|Lw.val (Ac O) O<|Af<|Aa<|Cw.out<|Cw.tail 17 mixed (by kernel_rfl)<|Qw.val (fun w1 hq=>Ag (q:=0) Tryz.underlying33 O (sz_31 _) O) O<|Qw.val (fun w1 hq=>Aj (ag_31 _) O (Blk.bs (by assumption) hq) O) O ?_
    refine Qw.val (fun w1 hq=>Ad O) O<|Qw.val (fun w1 hq=>Ba st_31 O O (Sl.bs y_m hq) i O hil) O<|Qw.val (fun w1 hq=>(Bg (ag_21 _) O (Sl.bs y_m hq) hil).as (congrArg i32 (getD_set (by omega)))) O<|Qw.val (fun w1 hq=>Ag (q:=0) Tryz.underlying33 O (sz_31 _) O) O<|Qw.val (fun w1 hq=>Aj (ag_31 _) O (Blk.bs (by assumption) hq) O) O ?_
    refine Qw.val (fun w1 hq=>Ad O) O<|Qw.val (fun w1 hq=>Ad O) O<|Qw.val (fun w1 hq=>Bw (ag_239 _) (sz_239 _) O O (Blk.bs (by assumption) hq)) O ?_
    refine B9 O O (fun w1 hq=>(apartF_c t.x t.s k a w1 (h_t11.bs hq) k1 hk ha).q hq)<|Qw.val (fun w1 hq=>(Ca O O (by omega)).as (congrArg (Value.int .i64) c3)) O<|Qw.val (fun w1 hq=>(Bc O O (by omega)).as (congrArg (Value.int .i64) (show (fi:Int)+(ja:Int)=(K:Int) by omega))) O<|Qw.val (fun w1 hq=>Ba st_31 O O (Sl.bs h_t12 hq) K O rK) O<|Qw.val (fun w1 hq=>Bg (ag_21 _) O (Sl.bs h_t12 hq) rK) O<|Qw.val (fun w1 hq=>(Cy O O).as (congrArg i32 eV)) O<|Qw.val (fun w1 hq=>Ba st_31 O O (Sl.bs y_m hq) i O hil) O ?_
    refine Cj (fun w15 hq=> ?_)
    refine Ay ((M.bs hq).st (sz_21 _) O O hil) ?_
    rintro w16 ⟨M2,hg2, -⟩
    have hw2:=(M.bs hq).below (hw.trans (hq.mono (by have:=hw.size;omega))) (by omega) hg2
    rw [List.set_set] at M2
    refine Af<|Bo<|Aa<|Cw.out<|Ab<|Lw.val (Bc O O (by omega)) O<|Lw.val (Ad O) O<|Af ?_
    exact Aa (Bq (j+1) ⟨rfl,rfl,rfl,rfl,rfl,rfl,rfl,rfl,rfl,rfl,rfl,trivial⟩ (⟨hj',hw2,M2⟩) (by omega))
   intro h
   have hj' :j=n:=by have:=of_decide_eq_false h;omega
   subst hj'
   rw [← hF i hiP,td_set n1 hi'] at M
   refine Bi<|Am<|Am<|Az<|Bo<|Aa<|Cw.out<|Ab<|Lw.val (Bc O O (by omega)) O<|Lw.val (Ad O) O<|Af ?_
   exact Aa (Bq (i+1) ⟨rfl,rfl,rfl,rfl,rfl,rfl,rfl,trivial⟩ (⟨hi',hw,M⟩) (by omega))
  intro h
  have hi' :i=zs.length:=by have:=of_decide_eq_false h;omega
  subst hi'
  rw [td_all n1,hfl] at M
  have b_m:=M.box
  have b_r:=b_r.bl hw y_r
  have hB2:=hB.trans (hw.mono (by omega))
  refine Bi<|Am<|Am<|Az<|Aa<|Cw.out<|Ae<|Ab<|Lw.val (Bw (ag_33 _) (sz_33 _) O O (by assumption)) O ?_
  refine Lw.val (Ad O) O<|Ay (Bp (cs:=[x,y]) O O O O (mine_at M).one b_r O) ?_
  rintro w12 ⟨b_r2,hg, -⟩
  have M2:=M.keep hg (by rintro _ ⟨⟩;exact .inl y_r)
  have hB3:=hB2.grown hg (below_size hB2) (by rintro _ ⟨⟩;omega)
  refine Lw.val (Ac O) O<|Af<|Aa<|Cw.out<|An<|Bf O O O (by assumption) (Tryz.underlying33) O O O ?_
  exact ⟨hB3,x,y,rfl,fun h=>absurd rfl h,fun _=>⟨M2.row.mono (by omega), .inl (own_mono M2.lst.own (by omega)),M2.yx⟩⟩
 exact absurd okW (by rw [hk'];decide)
end Go.Proofs.YtmipoeanpnnjoaaGreatDoor

/-! Contracts: the document's answers on the same numbers elsewhere. -/
namespace Go.Proofs.YtmipoeanpnnjoaaGreatDoor
open Go Go.Dd Go.RowKit
set_option maxRecDepth 100000

theorem below_nil {w w' :World} (hg:w.grownBy w' (Value.ownBlock (.slice none 0 0))):Below w.heap.size w w' :=⟨hg.os,hg.tape,hg.output,hg.size,fun k hk=>hg.block k hk (by simp [Value.ownBlock])⟩
theorem rmshape_c (t:T4) (u:Value) (s:List Int) (W:World) (h_t:t.at W) (h_u:SlT (Value.int .i64) W u s):
  Fnc Tryz.prog 42 [t.v,u] W (fun r w' =>Below W.heap.size W w' ∧AnsK W w' r (mvE t s) s t.l):=by
 have hB:=Below.refl W.heap.size W
 refine Ap (n:=28) Tryz.func42 (by kernel_rfl) O O O<|Ae<|Ab<|Bv (cs:=[t.x,t.y]) O O O ?_
 rintro A_t w eA_t b_t hn -
 replace hB:=hB.bs hn
 replace h_t:=h_t.bs hn
 replace h_u:=h_u.bs hn
 clear hn
 have z0:=below_size hB
 have y_t:=blk_lt b_t
 refine B8 it_33 O ?_
 rintro A_r w eA_r b_r hn -
 replace hB:=hB.bs hn
 replace h_t:=h_t.bs hn
 replace h_u:=h_u.bs hn
 replace b_t:=b_t.bs hn
 clear hn
 refine Lw.val (Ac O) O<|Af<|Aa<|Cw.out<|Ae<|Ae<|Ab<|Lw.val (Bw (ag_33 _) (sz_33 _) O O (by assumption)) O ?_
 have z_r:=blk_lt b_r
 refine Al O O (rtcheck_c t.x t.y t.s t.l _ h_t.1 h_t.2) ?_
 rintro _ w ⟨rfl,hn⟩
 replace hB:=hB.bs hn
 replace h_t:=h_t.bs hn
 replace h_u:=h_u.bs hn
 replace b_t:=b_t.bs hn
 replace b_r:=b_r.bs hn
 clear hn
 refine Lw.val (Bx O) O<|Lw.val (Ad O) O ?_
 refine Bt 9 O ?_ ?_
 ·intro g
  refine Ai (dj:=9) O O O O<|Ai (dj:=9) O O O O<|Ai (dj:=9) O O O O<|Lw.val (As O O) O<|Af<|Aa<|Cw.out<|Br O<|Ae<|Ab<|Lw.val (Bn (vs:=[]) (cs:=[.slice none 0 0, .slice none 0 0]) O (by kernel_rfl)) O<|Ay (Bp (cs:=[.slice none 0 0, .slice none 0 0]) O O O O O b_r O) ?_
  rintro w3 ⟨b_r,hg, -⟩
  have hB:=hB.grown hg (below_size hB) (by rintro _ ⟨⟩;omega)
  refine Lw.val (Ac O) O<|Af<|Aa<|Cw.out<|An<|Ak<|Bf O O O (by assumption) (Tryz.underlying33) O O O ?_
  rw [show mvE t s=1 by simp_all [mvE]]
  exact ⟨hB,ansK_no (by decide)⟩
 intro g1
 refine Lw.take (dj:=9) O O<|Lw.val (Ad O) O<|Lw.take (dj:=9) O O<|Al O O (rcheck_c u s _ h_u) ?_
 rintro _ w ⟨rfl,hn⟩
 replace hB:=hB.bs hn
 replace h_t:=h_t.bs hn
 replace h_u:=h_u.bs hn
 replace b_t:=b_t.bs hn
 replace b_r:=b_r.bs hn
 clear hn
 refine Lw.take (dj:=9) O O<|Lw.val (Bx O) O<|Lw.val (Bd O O) O<|Af<|Aa<|Cw.out<|Au O ?_ ?_
 ·intro g
  refine Ae<|Ab<|Lw.val (Bn (vs:=[]) (cs:=[.slice none 0 0, .slice none 0 0]) O (by kernel_rfl)) O<|Ay (Bp (cs:=[.slice none 0 0, .slice none 0 0]) O O O O O b_r O) ?_
  rintro w3 ⟨b_r,hg, -⟩
  have hB:=hB.grown hg (below_size hB) (by rintro _ ⟨⟩;omega)
  refine Lw.val (Ac O) O<|Af<|Aa<|Cw.out<|An<|Ak<|Bf O O O (by assumption) (Tryz.underlying33) O O O ?_
  rw [show mvE t s=1 by simp_all [mvE]]
  exact ⟨hB,ansK_no (by decide)⟩
 intro g2
 have k_t:tok t.s t.l=true:=by simpa using g1
 have k_s:Shapes.ok s=true:=by simpa using g2
 have szs:=Shapes.size_le s
 have szt:=Shapes.size_le t.s
 have lt:=(tok_ok k_t).2
 have S:=(Shapes.ok_iff s).1 k_s
 clear g1 g2
 have h_t2:=h_t.2
 refine Aq<|Aa<|Cw.out<|Ae<|Ae<|B5 mixed (by kernel_rfl)<|Qw.val (fun w1 hq=>Ad O) O<|B9 O O (fun w1 hq=>(rsize_c u s w1 (h_u.bs hq)).q hq)<|Qw.val (fun w1 hq=>Ag (q:=0) Tryz.underlying33 O (sz_31 _) O) O<|Qw.val (fun w1 hq=>Aj (ag_31 _) O (Blk.bs (by assumption) hq) O) O ?_
 refine Qw.val (fun w1 hq=>Av st_31 O (Sl.bs (by assumption) hq)) O ?_
 refine Qw.val (fun w1 hq=>B7 O O) O ?_
 refine B3 (fun w1 hq=> ?_)
 refine Aa<|Cw.out ?_
 replace hB:=hB.bs hq
 replace h_t:=h_t.bs hq
 replace h_u:=h_u.bs hq
 replace b_t:=b_t.bs hq
 replace b_r:=b_r.bs hq
 replace h_t2:=h_t2.bs hq
 clear hq
 refine Au O ?_ ?_
 ·intro g
  have g:¬Shapes.size s=(t.l.length:Int):=by simpa using g
  refine Ae<|Ab<|Lw.val (Bn (vs:=[]) (cs:=[.slice none 0 0, .slice none 0 0]) O (by kernel_rfl)) O<|Ay (Bp (cs:=[.slice none 0 0, .slice none 0 0]) O O O O O b_r O) ?_
  rintro w3 ⟨b_r,hg, -⟩
  have hB:=hB.grown hg (below_size hB) (by rintro _ ⟨⟩;omega)
  refine Lw.val (Ac O) O<|Af<|Aa<|Cw.out<|An<|Ak<|Bf O O O (by assumption) (Tryz.underlying33) O O O ?_
  rw [show mvE t s=10 by unfold mvE;rw [k_t,k_s];simp [g]]
  exact ⟨hB,ansK_no (by decide)⟩
 intro g
 have g:Shapes.size s=(t.l.length:Int):=by simpa using g
 rw [show mvE t s=0 by unfold mvE;rw [k_t,k_s];simp [g]]
 refine Aq<|Aa<|Cw.out<|Ae ?_
 rename World=>w1
 have zW:=below_size hB
 have q_r:A_r<w1.heap.size:=blk_lt b_r
 have b_t0:=b_t
 have h_t20:=h_t2
 refine Cw.any mixed (fun w hcw _=> ?_)
 replace hB:=hB.bs hcw
 replace h_t:=h_t.bs hcw
 replace h_u:=h_u.bs hcw
 replace b_t:=b_t.bs hcw
 replace b_r:=b_r.bs hcw
 replace h_t2:=h_t2.bs hcw
 have a_tr:A_t<A_r:=by omega
 refine Cs (fun w' =>Below A_r w1 w') (fun hC=> ?_) (hcw.mono (by omega))
 refine AwC.take (i:=0) (Ah Ar) O (by kernel_rfl) (by kernel_rfl) (by kernel_rfl) (fun w1 hc=>Ad O) O<|AwC.take (i:=2) (Ah Ar) O (by kernel_rfl) (by kernel_rfl) (by kernel_rfl) (fun w1 hc=>Ag (q:=0) Tryz.underlying33 O (sz_31 _) O) O<|AwC.take (i:=3) (Ah Ar) O (by kernel_rfl) (by kernel_rfl) (by kernel_rfl) (fun w1 hc=>Aj (ag_31 _) O (Blk.bl (by assumption) hc a_tr) O) O ?_
 refine AwC.only (by first|exact hcr|exact hcw.mono (by omega)) (i:=1) (by kernel_rfl) O ?_
 have zc:=hcw.size
 refine Bl (C4 (k:=0) (xs:=[]) st_23 it_3 O (by decide) O O ⟨rfl, .inl ⟨rfl,rfl⟩⟩ h_u (one_map (fun _=>rfl) _) (by omega) (by omega) (Nat.le_refl _)) O ?_
 rintro x w ⟨hx,hg, -⟩
 have hn:=below_nil hg
 rw [Nat.zero_add,List.nil_append] at hx
 have hx:=own_mono (B' :=w1.heap.size) hx (by omega)
 clear zc hg
 replace hB:=hB.bs hn
 replace h_t:=h_t.bs hn
 replace h_u:=h_u.bs hn
 replace b_t:=b_t.bs hn
 replace b_r:=b_r.bs hn
 replace h_t2:=h_t2.bs hn
 replace hcw:=hcw.bs hn
 clear hn
 refine AwC.back<|AwC.only (by first|exact hcr|exact hcw.mono (by omega)) (i:=4) (by kernel_rfl) O ?_
 have zc:=hcw.size
 have zx:∀b,x.ownBlock=some b→b<_:=fun b e=>(own_block hx b e).2
 refine Bl (C4 (k:=0) (xs:=[]) st_31 it_21 O (by decide) O O ⟨rfl, .inl ⟨rfl,rfl⟩⟩ h_t2 (one_map (fun _=>rfl) _) (by omega) (by omega) (Nat.le_refl _)) O ?_
 rintro y w ⟨hy,hg, -⟩
 have hn:=below_nil hg
 rw [Nat.zero_add,List.nil_append] at hy
 have py:=own_block hy
 have hy:=own_mono (B' :=w1.heap.size) hy (by omega)
 clear zc hg
 replace hB:=hB.bs hn
 replace h_t:=h_t.bs hn
 replace h_u:=h_u.bs hn
 replace b_t:=b_t.bs hn
 replace b_r:=b_r.bs hn
 replace h_t2:=h_t2.bs hn
 replace hcw:=hcw.bs hn
 replace hx:=hx.bs hn
 clear hn
 refine AwC.back<|AwC.take (i:=5) (Ah Ar) O (by kernel_rfl) (by kernel_rfl) (by kernel_rfl) (fun w1 hc=>Bn (vs:=[(0,x),(1,y)]) (cs:=[x,y]) O (bt_ten _ _ (own_sl hx).one (own_sl hy).one)) O<|AwC.only (by first|exact hcr|exact hcw.mono (by omega)) (i:=6) (by kernel_rfl) O ?_
 have hxy:[x,y].all (·.oneCell')=true:=by simp [(own_sl hx).one',(own_sl hy).one']
 refine Ay (Bp (cs:=[x,y]) O O O O hxy b_r O) ?_
 rintro w2 ⟨b_r2,hg, -⟩
 have kx:=bl_krow (.inl hx) hg q_r
 have ky:=bl_krow (.inl hy) hg q_r
 have hB:=hB.grown hg (below_size hB) (by rintro _ ⟨⟩;omega)
 have hcr:Below A_r w1 w2:=(hcw.mono (by omega)).grown hg (by have:=hcw.size;omega) (by rintro _ ⟨⟩;omega)
 refine AwC.back<|AwC.take (i:=7) (Ah Ar) O (by kernel_rfl) (by kernel_rfl) (by kernel_rfl) (fun w1 hc=>Ac O) O<|Ck (by first|exact hcr|exact hcw.mono (by omega)) (by kernel_rfl)<|Aa<|Cw.out<|An<|Bf O O O (by assumption) (Tryz.underlying33) O O O ?_
 exact ⟨hB,x,y,rfl,fun h=>absurd rfl h,fun _=>⟨kx.mono zW,ky.mono zW,fun b e1 e2=>by
  have h1:=py b e1
  have h2:=zx b e2
  omega⟩⟩
theorem rturned_c (u v:Value) (s o:List Int) (W:World) (h_u:SlT (Value.int .i64) W u s) (h_v:SlT (Value.int .i64) W v o) (ho:∀j,j<o.length→0≤o.getD j default∧o.getD j default<(s.length:Int)) (h4:o.length≤4):
  Fnc Tryz.prog 148 [u,v] W (fun r w' =>Below W.heap.size W w' ∧w'.ownsRow W.heap.size 3 1 r o.length ((turn s o).map (Value.int .i64))):=by
 refine Ap (n:=24) Tryz.func148 (by kernel_rfl) O O O<|Ae<|Ab<|Lw.val (Ac O) O<|Af<|Aa<|Cw.out<|Ae<|Ab<|Lw.val (Ac O) O<|Af<|Aa<|Cw.out<|Ae<|Ae<|Ab<|Lw.val (Ac O) O<|Af<|Aa<|Cw.out<|Cw.block ?_
 refine Bj (S:=(Nat×Value)) (fun z=>[(0,u),(1,v),(5,z.2),(6, .int .i64 (z.1:Int))]) (fun z w' =>z.1≤o.length∧Below W.heap.size W w' ∧w'.ownsRow W.heap.size 3 1 z.2 z.1 (((turn s o).take z.1).map (Value.int .i64))) (fun z=>o.length - z.1) ((0, .slice none 0 0)) ⟨rfl,rfl,rfl,rfl,trivial⟩ ?_ ?_
 ·exact ⟨Nat.zero_le _,Below.refl _ _,World.ownsRow_nil _ _ _ _⟩
 rintro ⟨i,x⟩ w1 ⟨hi,hB,hx⟩
 dsimp only at hi hx ⊢
 have h_u1:=h_u.bs hB
 have h_v1:=h_v.bs hB
 have zB:=hB.size
 refine Ae<|Ae<|Ab<|Lw.val (Ad O) O<|Lw.val (Ad O) O<|Lw.val (Av st_23 O (by assumption)) O ?_
 refine Lw.val (Bh O O) O<|Af<|Aa<|Cw.out<|Au O ?_ ?_
 ·intro g
  have hi' :i<o.length:=by have:=of_decide_eq_true g;omega
  have hr:=ho i hi'
  obtain ⟨k,hk⟩:∃k:Nat,o.getD i default=(k:Int):=⟨_,(Int.toNat_of_nonneg hr.1).symm⟩
  have hks:k<s.length:=by omega
  have lt:=turn_length s o
  have e1:(turn s o).take (i+1)=(turn s o).take i++[s.getD k default]:=by
   have e:(turn s o).getD i default=s.getD k default:=by rw [turn_at hi',hk,Int.toNat_natCast]
   have hi2:i<(turn s o).length:=by omega
   rw [List.take_succ_eq_append_getElem hi2,← e];simp [hi2]
  refine Aq<|Aa<|Cw.out<|Ae<|Cw.block<|Ab<|Lw.val (Ad O) O<|Lw.val (Ad O) O<|Lw.val (Ad O) O<|Lw.val (Ad O) O<|Lw.val (Ba st_23 O O (by assumption) _ O (by omega)) O ?_
  refine Lw.val ((Bg (ag_3 _) O h_v1 hi').as (congrArg (Value.int .i64) hk)) O<|Lw.val (Ba st_23 O O h_u1 k O hks) O<|Lw.val (Bg (ag_3 _) O (by assumption) (by omega)) O ?_
  refine Bl (Cp (vs:=[s.getD k default].map (Value.int .i64)) st_23 it_3 O O O O O) O ?_
  rintro q w2 ⟨hq, -,hn, -⟩
  have hx:=own_bs hx hn
  have hB:=bt hB hn
  have zB:=hB.size
  refine Bl (Cq (base:=W.heap.size) st_23 it_3 O (by decide) O O hx (own_sl hq) (one_map (fun _=>rfl) _) (by omega) (by omega) zB) O ?_
  rintro y w3 ⟨hy,hn3, -⟩
  have hB:=hB.trans hn3
  rw [← List.map_append,← e1] at hy
  refine Lw.val (Ac O) O<|Af<|Bo<|Aa<|Cw.out<|Ab<|Lw.val (Ad O) O<|Lw.val (Bc O O (by omega)) O<|Lw.val (Ac O) O<|Af ?_
  exact Aa (Bq ((i+1,y)) ⟨rfl,rfl,rfl,rfl,trivial⟩ (⟨hi',hB,hy⟩) (by simp only;omega))
 intro g
 have hi' :i=o.length:=by have:=of_decide_eq_false g;omega
 rw [hi',List.take_of_length_le (by rw [turn_length];exact Nat.le_refl _)] at hx
 refine Bi<|Am<|Am<|Az<|Aa<|Cw.out<|Ae<|Ab<|Lw.val (Ad O) O<|Lw.val (Ac O) O<|Af<|Aa<|Cw.out<|An<|Bb O O ?_
 exact ⟨hB,hx⟩
theorem wo_take {s:List Int} {k i:Nat} (h:i<s.length):wo (s.take (i+1)) k=if i=k then wo (s.take i) k else wo (s.take i) k++[s.getD i default]:=by
 have e:s.take (i+1)=s.take i++[s.getD i default]:=by rw [List.take_succ_eq_append_getElem h];simp [h]
 have l:(s.take i).length=i:=by rw [List.length_take];omega
 unfold wo
 rw [e,List.take_append,List.drop_append,l]
 by_cases g:i=k
 ·subst g
  rw [if_pos rfl,Nat.sub_self,List.take_zero,List.append_nil,List.drop_of_length_le (by rw [l];omega)]
  rw [List.drop_of_length_le (by simp)]
  simp
 ·rw [if_neg g]
  rcases Nat.lt_or_ge i k with h1|h1
  ·have q1:(s.take i).drop (k+1)=[]:=List.drop_of_length_le (by omega)
   have q2:[s.getD i default].drop (k+1 - i)=[]:=List.drop_of_length_le (by simp;omega)
   have q3:[s.getD i default].take (k - i)=[s.getD i default]:=List.take_of_length_le (by simp;omega)
   rw [q1,q2,q3];simp
  ·rw [show k - i=0 by omega,show k+1 - i=0 by omega,List.take_zero,List.drop_zero,List.append_nil,List.append_assoc]
/-- A list without one of its places, wherever that is. -/
def woR (s:List Int) (k:Nat):List Int:=if (wo s k).length=0 then [1] else wo s k
theorem woR_eq {s:List Int} {k:Nat} (hk:k<s.length):woR s k=without s k:=by
 have lw:=wo_length hk
 unfold woR
 by_cases g:s.length=1
 ·rw [if_pos (by omega)];unfold without;rw [if_pos g]
 ·rw [if_neg (by omega),without_wo g]
theorem rwithout0_c (u:Value) (s:List Int) (k:Nat) (W:World) (h_u:SlT (Value.int .i64) W u s) (h4:s.length≤4):
  Fnc Tryz.prog 152 [u, .int .i64 (k:Int)] W (fun r w' =>Below W.heap.size W w' ∧w'.ownsRow W.heap.size 3 1 r (woR s k).length ((woR s k).map (Value.int .i64))):=by
 refine Ap (n:=28) Tryz.func152 (by kernel_rfl) O O O<|Ae<|Ab<|Lw.val (Ac O) O<|Af<|Aa<|Cw.out<|Ae<|Ab<|Lw.val (Ac O) O<|Af<|Aa<|Cw.out<|Ae<|Ae<|Ab<|Lw.val (Ac O) O<|Af<|Aa<|Cw.out<|Cw.block ?_
 refine Bj (S:=(Nat×Value)) (fun z=>[(0,u),(1, .int .i64 (k:Int)),(5,z.2),(6, .int .i64 (z.1:Int))]) (fun z w' =>z.1≤s.length∧Below W.heap.size W w' ∧w'.ownsRow W.heap.size 3 1 z.2 (wo (s.take z.1) k).length ((wo (s.take z.1) k).map (Value.int .i64))) (fun z=>s.length - z.1) ((0, .slice none 0 0)) ⟨rfl,rfl,rfl,rfl,trivial⟩ ?_ ?_
 ·exact ⟨Nat.zero_le _,Below.refl _ _,by show W.ownsRow _ _ _ _ (wo (s.take 0) k).length ((wo (s.take 0) k).map _);rw [show wo (s.take 0) k=[] by simp [wo]];exact World.ownsRow_nil _ _ _ _⟩
 rintro ⟨i,x⟩ w1 ⟨hi,hB,hx⟩
 dsimp only at hi hx ⊢
 have h_u1:=h_u.bs hB
 have zB:=hB.size
 have ll:(wo (s.take i) k).length≤i:=by
  unfold wo
  rw [List.length_append,List.length_take,List.length_drop,List.length_take];omega
 refine Ae<|Ae<|Ab<|Lw.val (Ad O) O<|Lw.val (Ad O) O<|Lw.val (Av st_23 O (by assumption)) O ?_
 refine Lw.val (Bh O O) O<|Af<|Aa<|Cw.out<|Au O ?_ ?_
 ·intro g
  have hi' :i<s.length:=by have:=of_decide_eq_true g;omega
  have e1:=wo_take (k:=k) hi'
  refine Aq<|Aa<|Cw.out<|Ae<|Cw.block<|Ae<|Ab<|Lw.val (Ad O) O<|Lw.val (Ad O) O<|Lw.val (B7 O O) O<|Af<|Aa<|Cw.out<|Au O ?_ ?_
  ·intro g2
   have g2:¬i=k:=by have:=g2;simp at this;omega
   rw [if_neg g2] at e1
   refine Ab<|Lw.val (Ad O) O<|Lw.val (Ad O) O<|Lw.val (Ad O) O<|Lw.val (Ba st_23 O O (by assumption) _ O (by omega)) O ?_
   refine Lw.val (Bg (ag_3 _) O (by assumption) (by omega)) O ?_
   refine Bl (Cp (vs:=[s.getD i default].map (Value.int .i64)) st_23 it_3 O O O O O) O ?_
   rintro q w2 ⟨hq, -,hn, -⟩
   have hx:=own_bs hx hn
   have hB:=bt hB hn
   have zB:=hB.size
   refine Bl (Cq (base:=W.heap.size) st_23 it_3 O (by decide) O O hx (own_sl hq) (one_map (fun _=>rfl) _) (by omega) (by omega) zB) O ?_
   rintro y w3 ⟨hy,hn3, -⟩
   have hB:=hB.trans hn3
   rw [← List.map_append,← e1] at hy
   have hy' :w3.ownsRow W.heap.size 3 1 y (wo (s.take (i+1)) k).length ((wo (s.take (i+1)) k).map (Value.int .i64)):=by rw [e1,List.length_append,← e1];exact hy
   refine Lw.val (Ac O) O<|Af<|Bo<|Aa<|Cw.out<|Ab<|Lw.val (Ad O) O<|Lw.val (Bc O O (by omega)) O<|Lw.val (Ac O) O<|Af ?_
   exact Aa (Bq ((i+1,y)) ⟨rfl,rfl,rfl,rfl,trivial⟩ (⟨hi',hB,hy'⟩) (by simp only;omega))
  intro g2
  have g2:i=k:=by have:=g2;simp at this;omega
  rw [if_pos g2] at e1
  refine Aq<|Bo<|Aa<|Cw.out<|Ab<|Lw.val (Ad O) O<|Lw.val (Bc O O (by omega)) O<|Lw.val (Ac O) O<|Af ?_
  exact Aa (Bq ((i+1,x)) ⟨rfl,rfl,rfl,rfl,trivial⟩ (⟨hi',hB,by show w1.ownsRow _ _ _ _ (wo (s.take (i+1)) k).length ((wo (s.take (i+1)) k).map _);rw [e1];exact hx⟩) (by simp only;omega))
 intro g
 have hi' :i=s.length:=by have:=of_decide_eq_false g;omega
 rw [hi',List.take_length] at hx
 have s_x:=own_slT hx
 refine Bi<|Am<|Am<|Az<|Aa<|Cw.out<|Ae<|Ae<|Ab<|Lw.val (Ad O) O<|Lw.val (Av st_23 O (by assumption)) O ?_
 refine Lw.val (Cn O O) O<|Af<|Aa<|Cw.out<|Au O ?_ ?_
 ·intro g2
  have g2:(wo s k).length=0:=by have:=of_decide_eq_true g2;omega
  refine Ab<|Bl (Cp (vs:=[(1:Int)].map (Value.int .i64)) st_23 it_3 O O O O O) O ?_
  rintro q w2 ⟨hq, -,hn, -⟩
  refine Lw.val (Ac O) O<|Af<|Aa<|Cw.out<|Ae<|Ab<|Lw.val (Ad O) O<|Lw.val (Ac O) O<|Af<|Aa<|Cw.out<|An<|Bb O O ?_
  rw [show woR s k=[1] by unfold woR;rw [if_pos g2]]
  exact ⟨bt hB hn,own_mono hq zB⟩
 intro g2
 have g2:¬(wo s k).length=0:=by have:=of_decide_eq_false g2;omega
 refine Aq<|Aa<|Cw.out<|Ae<|Ab<|Lw.val (Ad O) O<|Lw.val (Ac O) O<|Af<|Aa<|Cw.out<|An<|Bb O O ?_
 rw [show woR s k=wo s k by unfold woR;rw [if_neg g2]]
 exact ⟨hB,hx⟩
theorem rwithout_c (u:Value) (s:List Int) (k:Nat) (W:World) (h_u:SlT (Value.int .i64) W u s) (hk:k<s.length) (h4:s.length≤4):
  Fnc Tryz.prog 152 [u, .int .i64 (k:Int)] W (fun r w' =>Below W.heap.size W w' ∧w'.ownsRow W.heap.size 3 1 r (without s k).length ((without s k).map (Value.int .i64))):=by
 have:=rwithout0_c u s k W h_u h4
 rwa [woR_eq hk] at this
end Go.Proofs.YtmipoeanpnnjoaaGreatDoor
