/- Texts of this proof, one behind the other: MathsShiftCode, Twins, TensorsLaw, MathsLaw, RefShape, RefCode, RefMaths, ProductsCode, RefProducts, WinCode. -/
import Derived.Test.YtmipoeanpnnjoaaGreatDoorPk2
import Derived.Test.YtmipoeanpnnjoaaGreatDoorPk1

/-! Contracts: what is below 0 made 0; shifts. -/
namespace Go.Proofs.YtmipoeanpnnjoaaGreatDoor
open Go Go.Dd Go.RowKit
set_option maxRecDepth 100000

def reluB (x:BitVec 32):BitVec 32:=if 0<x.toInt then x else 0#32
theorem relu_eq (x:BitVec 32):Value.int .i32 (if (0:Int)<x.toInt then x.toInt else 0)=i32 (reluB x):=by
 unfold reluB
 split<;>rfl
def reluG (l:List (BitVec 32)):BitVec 32:=reluB (l.getD 0 default)

theorem relu1_c (u:Value) (xs:List (BitVec 32)) (w:World) (hu:SlT i32 w u xs) (hl:xs.length=1):Fnc Tryz.prog 207 [u] w (fun r w' =>r=i32 (reluG xs)∧Below w.heap.size w w'):=by
 refine Ap (n:=7) Tryz.func207 (by kernel_rfl) O O O<|Ae<|Ab<|Lw.val (Ac (show _=some (i32 (0#32)) from rfl)) O<|Af<|Aa<|Cw.out<|Ae<|Ab<|Lw.val (Ad O) O<|Lw.val (Cm st_31 O O hu.shp 0 O (by omega)) O<|Lw.val (Bg (ag_21 _) O (by assumption) (by omega)) O ?_
 refine Lw.val (Ex.as (Ex.max2 (m:=0) (q:=(xs.getD 0 default).toInt) O O) (relu_eq _)) O<|Lw.val (Ac O) O<|Af<|Aa<|Cw.out<|An<|Bb O O ?_
 exact ⟨rfl,Below.refl _ _⟩

theorem relu_c (a:T4) (W:World) (ha:a.at W):
  Fnc Tryz.prog 118 [a.v] W (fun r w' =>Below W.heap.size W w' ∧Ans W w' r (ofE [a] a.s) a.s (ofL id reluG [a] (Shapes.size a.s).toNat)):=by
 refine Ap (n:=10) Tryz.func118 (by kernel_rfl) O O O<|Ae<|Ab<|Bl (Xw.box (cs:=[a.x,a.y]) O O) O ?_
 rintro _ w1 ⟨rfl,h1,hB1,s1⟩
 refine Bl (Xw.new it_33) O ?_
 rintro _ w3 ⟨rfl,h3,hw3,s3⟩
 have hB3:=bt hB1 hw3
 have h1:=h1.bs hw3
 refine Lw.val (Ac O) O<|Af<|Aa<|Cw.out<|Ae<|Ab<|Lw.val (Bn (vs:=[(0, .func (.func 207) #[] #[])]) (cs:=[.func (.func 207) #[] #[]]) O O) O<|Lw.val (Bw (ag_33 _) (sz_33 _) O O (by assumption)) O ?_
 refine Bl (Xw.litA (vs:=[(0,a.v)]) (cs:=cellsOf [a]) st_26 it_33 O (by decide) (by decide) (by decide) (by kernel_rfl) O) O ?_
 rintro v w4 ⟨ho4, -,hw4,s4⟩
 have hB4:=bt hB3 hw4
 refine Al O O (of32_c [a] v a 207 [] reluG w4 O (by simp) (own_sl ho4) (fun t ht=>by simp at ht;subst ht;exact ha.bs hB4) (fun w u xs _ hu hl=>relu1_c u xs w hu hl)) ?_
 rintro _ w5 ⟨hw5,x,y,rfl,q1,q2⟩
 have hB5:=bt hB4 hw5
 have h5:=(h3.bs hw4).bs hw5
 refine Lw.val (Ax (i:=0) O O) O<|Lw.val (Ax (i:=1) O O) O<|Ay (Bp (cs:=[x,y]) O O O O (ans_one q1 q2) h5 O) ?_
 rintro w6 ⟨h6,hg6, -⟩
 have z2:=hB1.size
 have hB6:Below W.heap.size W w6:=hB5.grown hg6 (below_size hB5) (by rintro _ ⟨⟩;exact z2)
 refine Lw.val (Ac O) O<|Af<|Aa<|Cw.out<|An<|Bf O O O (by assumption) (Tryz.underlying33) O O O ?_
 exact ⟨hB6,x,y,rfl,q1,fun h=>(q2 h).out hg6 (by omega) (by omega)⟩

theorem of64_c (ts : List T4) (v : Value) (t0 : T4) (f : FuncId) (q : List Value) (g : List Int → Int) (W : World) (h0 : ts[0]? = some t0) (hk : ts.length ≤ 1000) (hv : Sl W 2 v ts.length (cellsOf ts)) (hts : ∀ t ∈ ts, t.at W)
    (hdo:∀(w:World) (u:Value) (xs:List Int),Below W.heap.size W w→SlT (Value.int .i64) w u xs→(∃i:Nat,xs=ts.map fun t=>(t.l.getD i default).toInt)→Fnc Tryz.prog f (u::q) w (fun r w' =>r= .int .i64 (g xs)∧Below w.heap.size w w')):
    Fnc Tryz.prog 210 [.agg #[.func (.func f) #[] q.toArray],v] W (fun r w' =>Below W.heap.size W w' ∧∃x y,r= .tuple #[.agg #[x,y], .int .i64 (ofE ts t0.s)]∧(ofE ts t0.s≠0→x= .slice none 0 0∧y= .slice none 0 0)∧(ofE ts t0.s=0→Made1 W w' x y t0.s (ofL BitVec.toInt (fun xs=>BitVec.ofInt 32 (g xs)) ts (Shapes.size t0.s).toNat))):=by
  have hpos:0<ts.length:=by
    cases ts with
    |nil=>cases h0
    |cons=>simp
  have hvs:∃ad c k,v= .slice (some ad) c k:=by
    obtain ⟨_,ao,cap,rfl,h1,h2,h3,h4⟩:=hv
    cases ao with
    |none=>have:=h3 rfl;omega
    |some ad=>exact ⟨ad,_,_,rfl⟩
  refine Ap (n:=86) Tryz.func210 (by kernel_rfl) O O O<|Ae<|Ab<|Bl (Xw.box (cs:=[.func (.func f) #[] q.toArray]) O O) O ?_
  rintro _ w1 ⟨rfl,hb2,hB1,hs1⟩
  refine Bl (Xw.new it_33) O ?_
  rintro _ w2 ⟨rfl,hb4,hw2,hs2⟩
  have hB2:=bt hB1 hw2
  have hb2:=hb2.bs hw2
  refine Lw.val (Ac O) O<|Af<|Aa<|Cw.out<|Ae<|Ae<|Ab<|Lw.val (Ad O) O<|Lw.val (Av (sz:=2) st_26 O (hv.bs hB2)) O<|Lw.val (Ad O) O<|Af<|Aa<|Cw.out<|Cw.block ?_
  refine Bj (S:=Nat) (fun i=>[(1,v),(2, .pointer (some ⟨W.heap.size,0,none⟩)),(4, .pointer (some ⟨w1.heap.size,0,none⟩)),(5, .int .i64 0),(16,v),(17, .int .i64 (ts.length:Int)),(18, .int .i64 (i:Int))]) (fun i w' =>i≤ts.length∧(∀t ∈ ts.take i,t.ok=true)∧Below w2.heap.size w2 w') (fun i=>ts.length - i) (0) ⟨rfl,rfl,rfl,rfl,rfl,rfl,rfl,trivial⟩ ?_ ?_
  · exact ⟨by omega,by simp,Below.refl _ _⟩
  rintro i w3 ⟨hi,hall,hw3⟩
  have hB3:=bt hB2 hw3
  refine Ae<|Ab<|Lw.val (Bh O O) O<|Af<|Aa<|Cw.out<|Ae<|Au O ?_ ?_
  · intro h
    have hi' :i<ts.length:=by simp at h;omega
    obtain ⟨c1,c2⟩:=cells_at hi'
    have hv3:=hv.bs hB3
    refine Aq<|Aa<|Cw.out<|Ae<|Cw.block<|Ae<|Ab<|Lw.val (Bz st_26 O O hv3 i O hi') O<|Lw.val (Cc (cs:=[ts[i].x,ts[i].y]) (ag_33 _) (sz_33 _) O hv3 O (by decide) (fun j hj=>by rcases (show j=0∨j=1 by omega) with rfl|rfl;exact ⟨_,rfl,c1⟩;exact ⟨_,rfl,c2⟩)) O<|Bl (Xw.new it_33) O ?_
    rintro _ w4 ⟨rfl,hb7,hw4,hs4⟩
    refine Ay (Bp (cs:=[ts[i].x,ts[i].y]) O O O O (by have:=(hts _ (List.getElem_mem hi'));simp [this.1.one',this.2.one']) hb7 O) ?_
    rintro w5 ⟨hb7,hg5,hs5⟩
    have hw5:Below w3.heap.size w3 w5:=hw4.grown hg5 (below_size hw4) (by rintro _ ⟨⟩;exact Nat.le_refl _)
    have hB5:=bt hB3 hw5
    have hat:=(hts _ (List.getElem_mem hi')).bs hB5
    refine Af<|Aa<|Cw.out<|Ae<|Ab<|Lw.val (Bw (ag_33 _) (sz_33 _) O O (by assumption)) O ?_
    refine Al O O (tcheck_c ts[i].x ts[i].y ts[i].s ts[i].l w5 hat.1 hat.2) ?_
    rintro _ w6 ⟨rfl,hw6⟩
    have hw6' :=bt hw3 (bt hw5 hw6)
    refine Lw.val (Bx O) O<|Af<|Aa<|Cw.out<|Au O ?_ ?_
    · intro h
      have hno:ts[i].ok=false:=by simpa [T4.ok] using h
      have hb4' :=hb4.bs hw6'
      refine Ae<|Ab<|Lw.val (Bn (vs:=[]) (cs:=[.slice none 0 0, .slice none 0 0]) O (by kernel_rfl)) O<|Ay (Bp (cs:=[.slice none 0 0, .slice none 0 0]) O O O O O hb4' O) ?_
      rintro w7 ⟨hb7',hg7, -⟩
      have hB6:=bt hB2 hw6'
      have hB7:Below W.heap.size W w7:=hB6.grown hg7 (below_size hB6) (by rintro _ ⟨⟩;omega)
      have he:ofE ts t0.s=1:=by
        unfold ofE
        rw [if_neg]
        intro ha
        rw [List.all_eq_true.1 ha _ (List.getElem_mem hi')] at hno
        cases hno
      refine Lw.val (Ac O) O<|Af<|Aa<|Cw.out<|An<|Bk<|Ak<|Ak<|Bk<|Ak<|Bf O O O (by assumption) (Tryz.underlying33) O O O ?_
      exact ⟨hB7,_,_,by rw [he],fun _=>⟨rfl,rfl⟩,fun h=>by rw [he] at h;cases h⟩
    · intro h
      have hyes:ts[i].ok=true:=by simpa [T4.ok] using h
      have hall' :∀t ∈ ts.take (i+1),t.ok=true:=fun t ht=>by
        rw [List.take_succ_eq_append_getElem hi'] at ht
        rcases List.mem_append.1 ht with h|h
        · exact hall t h
        · rw [List.mem_singleton.1 h];exact hyes
      refine Aq<|Bo<|Aa<|Cw.out<|Ab<|Lw.val (Bc O O (by omega)) O<|Lw.val (Ad O) O<|Af ?_
      exact Aa (Bq (i+1) ⟨rfl,rfl,rfl,rfl,rfl,rfl,rfl,trivial⟩ (⟨hi',hall',hw6'⟩) (by omega))
  intro h
  have hi' :i=ts.length:=by simp at h;omega
  subst hi'
  rw [List.take_length] at hall
  obtain ⟨c1,c2⟩:=cells_at hpos
  have h00:ts[0]=t0:=by rw [List.getElem?_eq_getElem hpos] at h0;exact Option.some.inj h0
  rw [h00] at c1 c2
  have hm0:t0 ∈ ts:=h00 ▸ List.getElem_mem hpos
  have hv3:=hv.bs hB3
  have ht0:=(hts t0 hm0).bs hB3
  have hok0:Shapes.ok t0.s=true:=by
    have:=hall t0 hm0
    simp only [T4.ok,tok,Bool.and_eq_true] at this
    exact this.1
  have hsz:=Shapes.size_le t0.s
  refine Bi<|Am<|Am<|Az<|Aa<|Cw.out<|Ae<|Ab<|Lw.val (Ad O) O<|Lw.val (Bz st_26 O O hv3 0 O hpos) O<|Lw.val (Ch Tryz.underlying33 O (sz_23 _) O hvs) O<|Lw.val (C6 (ag_23 _) O hv3 c1) O<|Al O O (new_c t0.x t0.s w3 ht0.1) ?_
  rintro r w4 ⟨hw4,hcase⟩
  obtain ⟨x,y,rfl,hm⟩:∃x y,r= .tuple #[.agg #[x,y], .int .i64 0]∧Made1 w3 w4 x y t0.s (List.replicate (Shapes.size t0.s).toNat 0#32):=by
    rcases hcase with ⟨_,h⟩|⟨h,_⟩
    · exact h
    · rw [hok0] at h;cases h
  have hB4:=bt hB3 hw4
  refine Lw.val (Ad O) O<|Lw.val (Ax (i:=0) O O) O<|Lw.val (Ax (i:=1) O O) O<|Bl (Xw.new it_33) O ?_
  rintro _ w5 ⟨rfl,hb8,hw5,hs5⟩
  have hm5:=hm.bs hw5
  refine Ay (Bp (cs:=[x,y]) O O O O (by simp [hm.sh.one',(own_sl hm.own).one']) hb8 O) ?_
  rintro w6 ⟨hb8,hg6,hs6⟩
  have hw6:Below w4.heap.size w4 w6:=hw5.grown hg6 (below_size hw5) (by rintro _ ⟨⟩;exact Nat.le_refl _)
  have hm6:=hm.bs hw6
  have hB6:=bt hB4 hw6
  have hw26:Below w2.heap.size w2 w6:=bt hw3 (bt hw4 hw6)
  clear hm5 hw5 hg6
  refine Lw.val (Ac O) O<|Af<|Aa<|Cw.out<|Ae<|Ae<|Ab<|Lw.val (Ad O) O<|Lw.val (Av (sz:=2) st_26 O (hv.bs hB6)) O<|Lw.val (Ad O) O<|Af<|Aa<|Cw.out<|Cw.block ?_
  refine Bj (S:=Nat) (fun i=>[(1,v),(2, .pointer (some ⟨W.heap.size,0,none⟩)),(4, .pointer (some ⟨w1.heap.size,0,none⟩)),(5, .int .i64 0),(8, .pointer (some ⟨w4.heap.size,0,none⟩)),(35,v),(36, .int .i64 (ts.length:Int)),(37, .int .i64 (i:Int))]) (fun i w' =>i≤ts.length∧(∀t ∈ ts.take i,t.s=t0.s)∧Below w6.heap.size w6 w') (fun i=>ts.length - i) (0) ⟨rfl,rfl,rfl,rfl,rfl,rfl,rfl,rfl,trivial⟩ ?_ ?_
  · exact ⟨by omega,by simp,Below.refl _ _⟩
  rintro i w7 ⟨hi,hsame,hw7⟩
  have hB7:=bt hB6 hw7
  refine Ae<|Ab<|Lw.val (Bh O O) O<|Af<|Aa<|Cw.out<|Ae<|Au O ?_ ?_
  · intro h
    have hi' :i<ts.length:=by simp at h;omega
    obtain ⟨c1,c2⟩:=cells_at hi'
    have hv7:=hv.bs hB7
    refine Aq<|Aa<|Cw.out<|Ae<|Cw.block<|Ae<|Ab<|Lw.val (Bz st_26 O O hv7 i O hi') O<|Lw.val (Cc (cs:=[ts[i].x,ts[i].y]) (ag_33 _) (sz_33 _) O hv7 O (by decide) (fun j hj=>by rcases (show j=0∨j=1 by omega) with rfl|rfl;exact ⟨_,rfl,c1⟩;exact ⟨_,rfl,c2⟩)) O<|Bl (Xw.new it_33) O ?_
    rintro _ w8 ⟨rfl,hb11,hw8,hs8⟩
    refine Ay (Bp (cs:=[ts[i].x,ts[i].y]) O O O O (by have:=(hts _ (List.getElem_mem hi'));simp [this.1.one',this.2.one']) hb11 O) ?_
    rintro w9 ⟨hb11,hg9,hs9⟩
    have hw9:Below w7.heap.size w7 w9:=hw8.grown hg9 (below_size hw8) (by rintro _ ⟨⟩;exact Nat.le_refl _)
    have hB9:=bt hB7 hw9
    have hw69:=bt hw7 hw9
    have hat:=(hts _ (List.getElem_mem hi')).bs hB9
    have hb8' :=hb8.bs hw69
    have hm9:=hm6.bs hw69
    refine Af<|Aa<|Cw.out<|Ae<|Ab<|Lw.val (Ag (q:=0) Tryz.underlying33 O (sz_23 _) O) O<|Lw.val (Aj (ag_23 _) O (by assumption) O) O ?_
    refine Lw.val (Ag (q:=0) Tryz.underlying33 O (sz_23 _) O) O<|Lw.val (Aj (ag_23 _) O (by assumption) O) O ?_
    refine Al O O (equalInts_c ts[i].x x ts[i].s t0.s w9 hat.1 hm9.sh) ?_
    rintro _ w10 ⟨rfl,hw10⟩
    have hw6a:=bt hw69 hw10
    refine Lw.val (Bx O) O<|Af<|Aa<|Cw.out<|Au O ?_ ?_
    · intro h
      have hno:¬ts[i].s=t0.s:=by simpa using h
      have hb4' :=(hb4.bs hw26).bs hw6a
      have hB10:=bt hB6 hw6a
      refine Ae<|Ab<|Lw.val (Bn (vs:=[]) (cs:=[.slice none 0 0, .slice none 0 0]) O (by kernel_rfl)) O<|Ay (Bp (cs:=[.slice none 0 0, .slice none 0 0]) O O O O O hb4' O) ?_
      rintro w11 ⟨hb4',hg11, -⟩
      have hB11:Below W.heap.size W w11:=hB10.grown hg11 (below_size hB10) (by rintro _ ⟨⟩;omega)
      have he:ofE ts t0.s=10:=by
        unfold ofE
        rw [if_pos (List.all_eq_true.2 hall),if_neg]
        intro ha
        exact hno (of_decide_eq_true (List.all_eq_true.1 ha _ (List.getElem_mem hi')))
      refine Lw.val (Ac O) O<|Af<|Aa<|Cw.out<|An<|Bk<|Ak<|Ak<|Bk<|Ak<|Bf O O O (by assumption) (Tryz.underlying33) O O O ?_
      exact ⟨hB11,_,_,by rw [he],fun _=>⟨rfl,rfl⟩,fun h=>by rw [he] at h;cases h⟩
    · intro h
      have hyes:ts[i].s=t0.s:=by simpa using h
      have hsame' :∀t ∈ ts.take (i+1),t.s=t0.s:=fun t ht=>by
        rw [List.take_succ_eq_append_getElem hi'] at ht
        rcases List.mem_append.1 ht with h|h
        · exact hsame t h
        · rw [List.mem_singleton.1 h];exact hyes
      refine Aq<|Bo<|Aa<|Cw.out<|Ab<|Lw.val (Bc O O (by omega)) O<|Lw.val (Ad O) O<|Af ?_
      exact Aa (Bq (i+1) ⟨rfl,rfl,rfl,rfl,rfl,rfl,rfl,rfl,trivial⟩ (⟨hi',hsame',hw6a⟩) (by omega))
  intro h
  have hi' :i=ts.length:=by simp at h;omega
  subst hi'
  rw [List.take_length] at hsame
  have he:ofE ts t0.s=0:=by
    unfold ofE
    rw [if_pos (List.all_eq_true.2 hall),if_pos (List.all_eq_true.2 fun t ht=>decide_eq_true (hsame t ht))]
  obtain ⟨N,hN⟩:∃N,N=(Shapes.size t0.s).toNat:=⟨_,rfl⟩
  obtain ⟨K,hK⟩:∃K,K=ts.length:=⟨_,rfl⟩
  have hlen:∀t ∈ ts,t.l.length=N:=fun t ht=>by
    have:=hall t ht
    simp only [T4.ok,tok,Bool.and_eq_true,decide_eq_true_eq] at this
    rw [hsame t ht] at this
    omega
  have z3:=hB3.size
  have z23:=hw3.size
  have z34:=hw4.size
  have z67:=(bt hw6 hw7).size
  rw [← hN] at hm6 hm
  have hmA:=hm6.bs hw7
  have hyb:∀b,y.ownBlock=some b→w3.heap.size≤b∧b<w4.heap.size:=own_block hm.own
  have facts:∀w',w7.grownBy w' y.ownBlock→Below W.heap.size W w' ∧Blk w' W.heap.size 225 [.func (.func f) #[] q.toArray]∧Blk w' w1.heap.size 33 [.slice none 0 0, .slice none 0 0]∧Blk w' w4.heap.size 33 [x,y]∧KRow w' w3.heap.size 3 1 x t0.s.length (t0.s.map (Value.int .i64)):=fun w' hg=>
    ⟨hB7.grown hg (below_size hB7) (fun b hb=>by have:=(hyb b hb).1;omega),
     ((hb2.bs hw26).bs hw7).by hg (fun h=>by have:=(hyb _ h.symm).1;omega),
     ((hb4.bs hw26).bs hw7).by hg (fun h=>by have:=(hyb _ h.symm).1;omega),
     (hb8.bs hw7).by hg (fun h=>by have:=(hyb _ h.symm).2;omega),
     hmA.row.by' hg (by
      cases hx:x.ownBlock with
      |none=>exact .inl rfl
      |some b=>exact .inr fun h=>hmA.apart b h.symm hx)⟩
  have hownA:w7.ownsRow w3.heap.size 21 1 y N ((ofL BitVec.toInt (fun xs=>BitVec.ofInt 32 (g xs)) ts 0++List.replicate (N - 0) 0#32).map i32):=by
    have:=hmA.own
    rw [List.length_replicate] at this
    exact this
  rw [← hK]
  refine Bi<|Am<|Am<|Az<|Aa<|Cw.out<|Ae<|Ab<|Lw.val (Ad O) O<|Lw.val (Av (sz:=2) st_26 O (hv.bs hB7)) O<|Bl (C2 st_221 it_2 O O O (Nat.le_refl _) (by omega) (by omega)) O ?_
  rintro sv w8 ⟨ho8,hsv,hw8,hs8⟩
  have hg8:w7.grownBy w8 y.ownBlock:=below_grown hw8 _
  obtain ⟨f1,f2,f4,f8,fx⟩:=facts w8 hg8
  have hy8:=own_bs hownA hw8
  have hyT:=own_slT hy8
  refine Lw.val (Ac O) O<|Af<|Aa<|Cw.out<|Ae<|Ae<|Ab<|Lw.val (Ag (q:=0) Tryz.underlying33 O (sz_31 _) O) O<|Lw.val (Aj (ag_31 _) O (by assumption) O) O ?_
  refine Lw.val (Av st_31 O (by assumption)) O ?_
  refine Lw.val (Ad O) O<|Af<|Aa<|Cw.out<|Cw.block ?_
  have hlen0:(ofL BitVec.toInt (fun xs=>BitVec.ofInt 32 (g xs)) ts 0++List.replicate (N - 0) 0#32).length=N:=by simp [ofL]
  refine C3 54 (v' := .int .i64 (N:Int)) O (congrArg (Value.int .i64) (by rw [hlen0])) ?_
  have hrep:∃rest:List Int,rest.length=K∧w8.ownsRow w7.heap.size 2 1 sv K (rest.map (Value.int .i64)):=by
    refine ⟨List.replicate K (0:Int),by simp, ?_⟩
    have e:(List.replicate K [Value.int .i64 0]).flatten=(List.replicate K (0:Int)).map (Value.int .i64):=by
      clear ho8 hsv hk
      generalize K=K
      induction K with
      |zero=>rfl
      |succ n ih=>simp [List.replicate_succ]
    rw [← e];rw [← hK] at ho8;exact ho8
  have hsvb:sv.ownBlock=some w7.heap.size:=by rw [hsv];rfl
  refine Bj (S:=Nat) (fun i=>[(1,v),(2, .pointer (some ⟨W.heap.size,0,none⟩)),(4, .pointer (some ⟨w1.heap.size,0,none⟩)),(5, .int .i64 0),(8, .pointer (some ⟨w4.heap.size,0,none⟩)),(12,sv),(54, .int .i64 (N:Int)),(55, .int .i64 (i:Int))]) (fun i w' =>i≤N∧w7.grownBy w' y.ownBlock∧w'.ownsRow w3.heap.size 21 1 y N ((ofL BitVec.toInt (fun xs=>BitVec.ofInt 32 (g xs)) ts i++List.replicate (N - i) 0#32).map i32)∧(∃rest:List Int,rest.length=K∧w'.ownsRow w7.heap.size 2 1 sv K (rest.map (Value.int .i64)))) (fun i=>N - i) (0) ⟨rfl,rfl,rfl,rfl,rfl,rfl,rfl,rfl,trivial⟩ ?_ ?_
  · exact ⟨by omega,hg8,hy8,hrep⟩
  clear ho8 hy8 hyT hrep f1 f2 f4 f8 fx hw8
  rintro i w9 ⟨hi,hg9,hy9,rest9,hr9,hs9⟩
  obtain ⟨f1,f2,f4,f8,fx⟩:=facts w9 hg9
  refine Ae<|Ab<|Lw.val (Bh O O) O<|Af<|Aa<|Cw.out<|Ae<|Au O ?_ ?_
  · intro h
    have hi' :i<N:=by simp at h;omega
    refine Aq<|Aa<|Cw.out<|Ae<|Cw.block<|Ae<|Ab<|Lw.val (Ad O) O<|Lw.val (Ac O) O<|Af<|Aa<|Cw.out<|Ae<|Ae<|Ab<|Lw.val (Ad O) O<|Lw.val (Av (sz:=2) st_26 O (hv.bs f1)) O<|Lw.val (Ad O) O<|Af<|Aa<|Cw.out<|Cw.block<|C3 59 (v' := .int .i64 (K:Int)) O (by rw [hK]) ?_
    refine Bj (S:=Nat) (fun k=>[(1,v),(2, .pointer (some ⟨W.heap.size,0,none⟩)),(4, .pointer (some ⟨w1.heap.size,0,none⟩)),(5, .int .i64 0),(8, .pointer (some ⟨w4.heap.size,0,none⟩)),(12,sv),(13, .int .i64 (i:Int)),(54, .int .i64 (N:Int)),(55, .int .i64 (i:Int)),(58,v),(59, .int .i64 (K:Int)),(60, .int .i64 (k:Int))]) (fun k w' =>k≤K∧w7.grownBy w' y.ownBlock∧w'.ownsRow w3.heap.size 21 1 y N ((ofL BitVec.toInt (fun xs=>BitVec.ofInt 32 (g xs)) ts i++List.replicate (N - i) 0#32).map i32)∧(∃rest:List Int,rest.length=K∧rest.take k=(ts.take k).map (fun t=>(t.l.getD i default).toInt)∧w'.ownsRow w7.heap.size 2 1 sv K (rest.map (Value.int .i64)))) (fun k=>K - k) (0) ⟨rfl,rfl,rfl,rfl,rfl,rfl,rfl,rfl,rfl,rfl,rfl,rfl,trivial⟩ ?_ ?_
    · exact ⟨by omega,hg9,hy9,rest9,hr9,by simp,hs9⟩
    clear hr9 hs9 hy9 hg9 f1 f2 f4 f8 fx
    rintro k w10 ⟨hkK,hg10,hy10,rest10,hr10,ht10,hs10⟩
    obtain ⟨f1,f2,f4,f8,fx⟩:=facts w10 hg10
    refine Ae<|Ab<|Lw.val (Bh O O) O<|Af<|Aa<|Cw.out<|Ae<|Au O ?_ ?_
    · intro h
      have hk' :k<K:=by simp at h;omega
      have hk'' :k<ts.length:=by omega
      obtain ⟨c1,c2⟩:=cells_at hk''
      have hv10:=hv.bs f1
      refine Aq<|Aa<|Cw.out<|Ae<|Cw.block<|Ae<|Ab<|Lw.val (Ad O) O<|Lw.val (Bz st_26 O O hv10 k O hk'') O<|Lw.val (Cc (cs:=[ts[k].x,ts[k].y]) (ag_33 _) (sz_33 _) O hv10 O (by decide) (fun j hj=>by rcases (show j=0∨j=1 by omega) with rfl|rfl;exact ⟨_,rfl,c1⟩;exact ⟨_,rfl,c2⟩)) O<|Bl (Xw.new it_33) O ?_
      rintro _ w11 ⟨rfl,hb15,hw11,hs11⟩
      refine Lw.val (Ac O) O<|Ay (Bp (cs:=[ts[k].x,ts[k].y]) O O O O (by have:=(hts _ (List.getElem_mem hk''));simp [this.1.one',this.2.one']) hb15 O) ?_
      rintro w12 ⟨hb15,hg12,hs12⟩
      have hw12:Below w10.heap.size w10 w12:=hw11.grown hg12 (below_size hw11) (by rintro _ ⟨⟩;exact Nat.le_refl _)
      have hB12:=bt f1 hw12
      have hat:=(hts _ (List.getElem_mem hk'')).bs hB12
      have haty:=hat.2
      have hsT:=own_slT (own_bs hs10 hw12)
      have hly:ts[k].l.length=N:=hlen _ (List.getElem_mem hk'')
      refine Af<|Aa<|Cw.out<|Ab<|Lw.val (Ad O) O<|Lw.val (Ad O) O<|Lw.val (Ag (q:=0) Tryz.underlying33 O (sz_31 _) O) O<|Lw.val (Aj (ag_31 _) O (by assumption) O) O ?_
      refine Lw.val (Ad O) O<|Lw.val (Ba st_31 O O (by assumption) _ O (by omega)) O ?_
      refine Lw.val (Bg (ag_21 _) O (by assumption) (by omega)) O ?_
      refine Lw.val (Ex.convi32_I us_21 un_2 O) O<|Lw.val (Ba st_221 O O (by assumption) _ O (by omega)) O ?_
      refine Ay (Cv (sz_2 _) O O O (own_bs hs10 hw12) (by rw [List.length_map];omega)) ?_
      rintro w13 ⟨hs13,hg13, -⟩
      have hg12' :w7.grownBy w12 y.ownBlock:=grown_more hg10 (below_grown hw12 none) (by rintro _ ⟨⟩)
      have hg13' :w7.grownBy w13 y.ownBlock:=grown_more hg12' hg13 (by rintro b hb;rw [hsvb] at hb;cases hb;exact Nat.le_refl _)
      have hy13:=(own_bs hy10 hw12).kept hg13 (.inr fun h=>by rw [hsvb] at h;have:=(hyb _ h).2;omega)
      have hset:(rest10.set k (ts[k].l.getD i default).toInt).take (k+1)=(ts.take (k+1)).map (fun t=>(t.l.getD i default).toInt):=by
        rw [List.take_succ_eq_append_getElem hk'',List.map_append,← ht10,List.take_set,List.take_succ_eq_append_getElem (by omega),List.set_append_right _ _ (by simp;omega)]
        simp [Nat.min_eq_left (show k≤rest10.length by omega)]
      rw [← List.map_set] at hs13
      refine Af<|Bo<|Aa<|Cw.out<|Ab<|Lw.val (Bc O O (by omega)) O<|Lw.val (Ad O) O<|Af ?_
      exact Aa (Bq (k+1) ⟨rfl,rfl,rfl,rfl,rfl,rfl,rfl,rfl,rfl,rfl,rfl,rfl,trivial⟩ (⟨hk',hg13',hy13,_,by simpa using hr10,hset,hs13⟩) (by omega))
    · intro h
      have hk' :k=ts.length:=by simp at h;omega
      rw [List.take_of_length_le (by omega),List.take_of_length_le (by omega)] at ht10
      have hsT:=own_slT hs10
      have hyT:=own_slT hy10
      have hyl:(ofL BitVec.toInt (fun xs=>BitVec.ofInt 32 (g xs)) ts i++List.replicate (N - i) 0#32).length=N:=by simp [ofL];omega
      refine Bi<|Am<|Am<|Az<|Aa<|Cw.out<|Cw.tail 9 mixed (by kernel_rfl)<|Qw.val (fun w1 hq=>Ag (q:=0) Tryz.underlying33 O (sz_31 _) O) O<|Qw.val (fun w1 hq=>Aj (ag_31 _) O (Blk.bs (by assumption) hq) O) O ?_
      refine Qw.val (fun w1 hq=>Ad O) O<|Qw.val (fun w1 hq=>Ag (q:=0) Tryz.underlying225 O (sz_223 _) O) O<|Qw.val (fun w1 hq=>Aj (ag_223 _) O (Blk.bs (by assumption) hq) O) O ?_
      refine Qw.val (fun w1 hq=>Ad O) O<|Qw.callV (p:=[]) O O O (fun w1 hq=>(hdo w1 sv rest10 (bt f1 hq) (hsT.bs hq) ⟨i,ht10⟩).q hq)<|Qw.val (fun w1 hq=>Ex.convi32 us_2 un_21 O) O<|Qw.val (fun w1 hq=>Ba st_31 O O (Sl.bs (by assumption) hq) _ O (by omega)) O ?_
      refine Cj (fun w11 hq=> ?_)
      refine Ay (Cv (sz_21 _) O O O (own_bs hy10 hq) (by rw [List.length_map];omega)) ?_
      rintro w12 ⟨hy12,hg12, -⟩
      have hg12' :w7.grownBy w12 y.ownBlock:=grown_trans (grown_more hg10 (below_grown hq none) (by rintro _ ⟨⟩)) hg12
      have hs12:=(own_bs hs10 hq).kept hg12 (.inr fun h=>by rw [hsvb] at h;have:=(hyb _ h.symm).2;omega)
      have hset:(ofL BitVec.toInt (fun xs=>BitVec.ofInt 32 (g xs)) ts i++List.replicate (N - i) 0#32).set i (BitVec.ofInt 32 (g rest10))=ofL BitVec.toInt (fun xs=>BitVec.ofInt 32 (g xs)) ts (i+1)++List.replicate (N - (i+1)) 0#32:=by
        have hl:(ofL BitVec.toInt (fun xs=>BitVec.ofInt 32 (g xs)) ts i).length=i:=by simp [ofL]
        rw [List.set_append_right _ _ (by omega),hl,Nat.sub_self,show N - i=(N - (i+1))+1 by omega,List.replicate_succ,List.set_cons_zero]
        rw [ht10]
        simp [ofL,List.range_succ]
      rw [← List.map_set,hset] at hy12
      refine Af<|Bo<|Aa<|Cw.out<|Ab<|Lw.val (Bc O O (by omega)) O<|Lw.val (Ad O) O<|Af ?_
      exact Aa (Bq (i+1) ⟨rfl,rfl,rfl,rfl,rfl,rfl,rfl,rfl,trivial⟩ (⟨hi',hg12',hy12,rest10,hr10,hs12⟩) (by omega))
  · intro h
    have hi' :i=N:=by simp at h;omega
    subst hi'
    refine Bi<|Am<|Am<|Az<|Aa<|Cw.out<|Ae<|Ab<|Lw.val (Bw (ag_33 _) (sz_33 _) O O (by assumption)) O ?_
    refine Ay (Bp (cs:=[x,y]) O O O O (by simp [fx.sl.one',(own_sl hy9).one']) f4 O) ?_
    rintro w10 ⟨hb4',hg10, -⟩
    have hB10:Below W.heap.size W w10:=f1.grown hg10 (below_size f1) (by rintro _ ⟨⟩;omega)
    refine Lw.val (Ac O) O<|Af<|Aa<|Cw.out<|An<|Bf O O O (by assumption) (Tryz.underlying33) O O O ?_
    refine ⟨hB10,x,y,by rw [he],fun h=>absurd he h,fun _=>⟨(fx.by' hg10 ?_).mono z3, ?_,hmA.apart⟩⟩
    · cases hx:x.ownBlock with
      |none=>exact .inl rfl
      |some b=>
        refine .inr fun h=> ?_
        have:=hmA.fresh b hx
        cases h
        omega
    · have hy10:=own_mono (hy9.kept hg10 (.inr fun h=>by have:=(hyb _ h).1;omega)) z3
      rw [Nat.sub_self,List.replicate_zero,List.append_nil] at hy10
      rw [← hN]
      have:(ofL BitVec.toInt (fun xs=>BitVec.ofInt 32 (g xs)) ts i).length=i:=by simp [ofL]
      rw [this]
      exact hy10


def clampI (z:Int):Int:=if 127<(if z< -128 then -128 else z) then 127 else (if z< -128 then -128 else z)
def shI (j:Nat) (z:Int):Int:=clampI ((z+1*2 ^ j / 2 ^ 1) / 2 ^ j)
def shG (j:Nat) (l:List Int):Int:=shI j (l.getD 0 default)
def shL (j:Nat) (l:List Int):BitVec 32:=BitVec.ofInt 32 (shG j l)

theorem within_c (z:Int) (w:World):Fnc Tryz.prog 209 [.int .i64 z, .int .i64 (-128), .int .i64 127] w (fun r w' =>r= .int .i64 (clampI z)∧Below w.heap.size w w'):=by
 refine Ap (n:=12) Tryz.func209 (by kernel_rfl) O O O<|Ae<|Ab<|Lw.val (Ac O) O<|Af<|Aa<|Cw.out<|Ae<|Ab<|Lw.val (Ad O) O<|Lw.val (Ad O) O<|Lw.val (Ex.max2 O O) O<|Lw.val (Ad O) O<|Lw.val (Ex.min2 O O) O<|Lw.val (Ac O) O<|Af<|Aa<|Cw.out<|An<|Bb O O ?_
 exact ⟨rfl,Below.refl _ _⟩

theorem pow_le (j:Nat) (h:j≤31):(1:Int)≤2 ^ j∧(2:Int) ^ j≤2147483648:=by
 have h1:1≤2 ^ j:=Nat.one_le_two_pow
 have h2:2 ^ j≤2 ^ 31:=Nat.pow_le_pow_right (by decide) h
 have h3:(2:Nat) ^ 31=2147483648:=by decide
 have e:((2 ^ j:Nat):Int)=(2:Int) ^ j:=by simp
 omega

theorem shift1_c (u:Value) (xs:List Int) (j b1 b2:Nat) (w:World) (hj:j≤31) (hu:SlT (Value.int .i64) w u xs) (hl:xs.length=1) (hx: -2147483648≤xs.getD 0 default∧xs.getD 0 default≤2147483647)
  (h1:Blk w b1 2 [.int .i64 (1*2 ^ j / 2 ^ 1)]) (h2:Blk w b2 3 [.int .i64 (j:Int)]):
  Fnc Tryz.prog 208 [u, .pointer (some ⟨b1,0,none⟩), .pointer (some ⟨b2,0,none⟩)] w (fun r w' =>r= .int .i64 (shG j xs)∧Below w.heap.size w w'):=by
 have hp:=pow_le j hj
 refine Ap (n:=13) Tryz.func208 (by kernel_rfl) O O O<|Ae<|Ab<|Lw.val (Ac O) O<|Af<|Aa<|Cw.out<|Ae<|B5 mixed (by kernel_rfl)<|Qw.val (fun w1 hq=>Ad O) O<|Qw.val (fun w1 hq=>Cm st_221 O O hu.shp 0 O (by omega)) O<|Qw.val (fun w1 hq=>Bg (ag_2 _) O (Sl.bs (by assumption) hq) (by omega)) O ?_
 refine Qw.val (fun w1 hq=>Aj (ag_2 _) O (Blk.bs (by assumption) hq) O) O ?_
 refine Qw.val (fun w1 hq=>Bc O O (by omega)) O<|Qw.val (fun w1 hq=>Aj (ag_3 _) O (Blk.bs (by assumption) hq) O) O ?_
 refine Qw.val (fun w1 hq=>Ex.shrI (j:=j) O O (by omega)) O<|B9 O O (fun w1 hq=>(within_c _ w1).q hq)<|Qw.val (fun w1 hq=>Ac O) O ?_
 refine B3 (fun w2 hq=> ?_)
 refine Aa<|Cw.out<|An<|Bb O O ?_
 exact ⟨rfl,hq⟩

/-- The error of a shift. -/
def shE (a:T4) (n:Int):Int:=if n<0∨31<n then 1 else ofE [a] a.s

theorem shift_c (a:T4) (n:Int) (W:World) (ha:a.at W):
  Fnc Tryz.prog 120 [a.v, .int .i64 n] W (fun r w' =>Below W.heap.size W w' ∧Ans W w' r (shE a n) a.s (ofL BitVec.toInt (shL n.toNat) [a] (Shapes.size a.s).toNat)):=by
 refine Ap (n:=24) Tryz.func120 (by kernel_rfl) O O O<|Ae<|Ab<|Bl (Xw.box (cs:=[a.x,a.y]) O O) O ?_
 rintro _ w1 ⟨rfl,h1,hB1,s1⟩
 refine Bl (Xw.box (cs:=[.int .i64 n]) O O) O ?_
 rintro _ w2 ⟨rfl,h2,hw2,s2⟩
 have hB2:=bt hB1 hw2
 have h1:=h1.bs hw2
 refine Bl (Xw.new it_33) O ?_
 rintro _ w3 ⟨rfl,h3,hw3,s3⟩
 have hB3:=bt hB2 hw3
 have h1:=h1.bs hw3
 have h2:=h2.bs hw3
 refine Lw.val (Ac O) O<|Af<|Aa<|Cw.out<|Ae<|Ae<|Ab<|Lw.val (Aj (ag_3 _) O (by assumption) O) O ?_
 refine Lw.val (Bh O O) O<|Lw.val (Ad O) O ?_
 refine Bt 9 O ?_ ?_
 ·intro g
  have g' :=of_decide_eq_true g
  refine Ai (dj:=9) O O O O<|Ai (dj:=9) O O O O<|Lw.val (As O O) O<|Af<|Aa<|Cw.out<|Br O<|Ae<|Ab<|Lw.val (Bn (vs:=[]) (cs:=[.slice none 0 0, .slice none 0 0]) O (by kernel_rfl)) O ?_
  have he:shE a n=1:=by unfold shE;rw [if_pos (by omega)]
  refine Ay (Bp (cs:=[.slice none 0 0, .slice none 0 0]) O O O O O h3 O) ?_
  rintro w4 ⟨h4,hg4, -⟩
  have z2:=hB2.size
  have hB4:Below W.heap.size W w4:=hB3.grown hg4 (below_size hB3) (by rintro _ ⟨⟩;exact z2)
  refine Lw.val (Ac O) O<|Af<|Aa<|Cw.out<|An<|Ak<|Bf O O O (by assumption) (Tryz.underlying33) O O O ?_
  exact ⟨hB4,_,_,by rw [he],fun _=>⟨rfl,rfl⟩,fun h=>by rw [he] at h;cases h⟩
 intro g
 have g' :=of_decide_eq_false g
 refine Lw.take (dj:=9) O O<|Lw.val (Aj (ag_3 _) O (by assumption) O) O ?_
 refine Lw.take (dj:=9) O O<|Lw.val (Cr O O) O<|Lw.val (Bd O O) O<|Af<|Aa<|Cw.out<|Au O ?_ ?_
 ·intro k
  have k' :=of_decide_eq_true k
  have he:shE a n=1:=by unfold shE;rw [if_pos (by omega)]
  refine Ae<|Ab<|Lw.val (Bn (vs:=[]) (cs:=[.slice none 0 0, .slice none 0 0]) O (by kernel_rfl)) O<|Ay (Bp (cs:=[.slice none 0 0, .slice none 0 0]) O O O O O h3 O) ?_
  rintro w4 ⟨h4,hg4, -⟩
  have z2:=hB2.size
  have hB4:Below W.heap.size W w4:=hB3.grown hg4 (below_size hB3) (by rintro _ ⟨⟩;exact z2)
  refine Lw.val (Ac O) O<|Af<|Aa<|Cw.out<|An<|Ak<|Bf O O O (by assumption) (Tryz.underlying33) O O O ?_
  exact ⟨hB4,_,_,by rw [he],fun _=>⟨rfl,rfl⟩,fun h=>by rw [he] at h;cases h⟩
 intro k
 have k' :=of_decide_eq_false k
 obtain ⟨j,rfl⟩:=Int.eq_ofNat_of_zero_le (show 0≤n by omega)
 have hj:j≤31:=by omega
 have hp:=pow_le j hj
 have he:shE a (j:Int)=ofE [a] a.s:=by unfold shE;rw [if_neg (by omega)]
 refine Aq<|Aa<|Cw.out<|Ae<|Ab<|Lw.val (Aj (ag_3 _) O (by assumption) O) O ?_
 refine Lw.val (Ex.shlI (j:=j) O O (by omega) (by omega)) O<|Lw.val (Ex.shrI (j:=1) O O (by decide)) O<|Bl (Xw.new it_2) O ?_
 rintro _ w4 ⟨rfl,h4,hw4,s4⟩
 refine Ay (Co (sz_2 _) O O O h4 (by simp)) ?_
 rintro w5 ⟨h5,hg5,s5⟩
 have hw5:Below w3.heap.size w3 w5:=hw4.grown hg5 (below_size hw4) (by rintro _ ⟨⟩;exact Nat.le_refl _)
 have hB5:=bt hB3 hw5
 have h1:=h1.bs hw5
 have h2:=h2.bs hw5
 have h3:=h3.bs hw5
 refine Af<|Aa<|Cw.out<|Ae<|Ab<|Lw.val (C7 (vs:=[]) O O) O<|Lw.val (Bn (vs:=[(0, .func (.func 208) #[] #[.pointer (some ⟨w3.heap.size,0,none⟩), .pointer (some ⟨w1.heap.size,0,none⟩)])]) (cs:=[.func (.func 208) #[] #[.pointer (some ⟨w3.heap.size,0,none⟩), .pointer (some ⟨w1.heap.size,0,none⟩)]]) O O) O<|Lw.val (Bw (ag_33 _) (sz_33 _) O O (by assumption)) O ?_
 refine Bl (Xw.litA (vs:=[(0,a.v)]) (cs:=cellsOf [a]) st_26 it_33 O (by decide) (by decide) (by decide) (by kernel_rfl) O) O ?_
 rintro v w6 ⟨ho6, -,hw6,s6⟩
 have hB6:=bt hB5 hw6
 refine Al O O (of64_c [a] v a 208 [.pointer (some ⟨w3.heap.size,0,none⟩), .pointer (some ⟨w1.heap.size,0,none⟩)] (shG j) w6 O (by simp) (own_sl ho6) (fun t ht=>by simp at ht;subst ht;exact ha.bs hB6) (fun w u xs hB hu hl=>shift1_c u xs j _ _ w hj hu (by obtain ⟨i,rfl⟩:=hl;rfl) (by obtain ⟨i,rfl⟩:=hl;have:=(a.l.getD i default).isLt;have:=BitVec.toInt_lt (x:=a.l.getD i default);have:=BitVec.le_toInt (a.l.getD i default);simp at*;omega) ((h5.bs hw6).bs hB) ((h2.bs hw6).bs hB))) ?_
 rintro _ w7 ⟨hw7,x,y,rfl,q1,q2⟩
 have hB7:=bt hB6 hw7
 have h7:=(h3.bs hw6).bs hw7
 refine Lw.val (Ax (i:=0) O O) O<|Lw.val (Ax (i:=1) O O) O<|Ay (Bp (cs:=[x,y]) O O O O (ans_one q1 q2) h7 O) ?_
 rintro w8 ⟨h8,hg8, -⟩
 have z2:=hB2.size
 have z5:=hw5.size
 have hB8:Below W.heap.size W w8:=hB7.grown hg8 (below_size hB7) (by rintro _ ⟨⟩;exact z2)
 refine Lw.val (Ac O) O<|Af<|Aa<|Cw.out<|An<|Bf O O O (by assumption) (Tryz.underlying33) O O O ?_
 rw [Int.toNat_natCast,he]
 exact ⟨hB8,x,y,rfl,q1,fun h=>(q2 h).out hg8 (by omega) (by omega)⟩
end Go.Proofs.YtmipoeanpnnjoaaGreatDoor

/-! Twin.., Left.., Same.. of the statements' helpers: each once. Printed by a program of ours. -/
namespace Go.Proofs.YtmipoeanpnnjoaaGreatDoor
open Go Go.Dd Go.RowKit
set_option maxRecDepth 100000




theorem twinInts_c (v:Value) (l:List (Int)) (w:World) (hv:SlT (Value.int .i64) w v l) (hl:l.length≤4194304):
  Fnc Tryz.prog 31 [v] w (fun r w' =>Twn w' w.heap.size 3 (Value.int .i64) (Value.int .i64 (77)) r l∧Below w.heap.size w w'):=by
 refine Ap (n:=28) Tryz.func31 (by kernel_rfl) O O O<|Ae<|Ab<|Lw.val (Ac O) O<|Af<|Aa<|Cw.out<|Ae<|Ab<|Lw.val (Ad O) O<|Lw.val (Av st_23 O (by assumption)) O ?_
 refine Lw.val (Bc O O (by omega)) O<|Bl (C2 (l:=0) (c:=l.length+1) st_23 it_3 O O O (by omega) (by omega) (by omega)) O ?_
 rintro v1 w1 ⟨ho1, -,hB1,hs1⟩
 refine Lw.val (Ac O) O<|Af<|Aa<|Cw.out<|Ae<|Ae<|Ab<|Lw.val (Ac O) O<|Af<|Aa<|Cw.out<|Cw.block ?_
 refine Bj (S:=(Nat×Value)) (fun s=>[(0,v),(3,s.2),(4, .int .i64 (s.1:Int))]) (fun s w' =>s.1≤l.length∧w'.ownsRow w.heap.size 3 1 s.2 s.1 ((l.take s.1).map (Value.int .i64))∧Below w.heap.size w w') (fun s=>l.length - s.1) ((0,v1)) ⟨rfl,rfl,rfl,trivial⟩ ?_ ?_
 ·exact ⟨by omega,by simpa using ho1,hB1⟩
 clear ho1 hB1 hs1 v1 w1
 rintro ⟨k,v1⟩ w1 ⟨hk,ho1,hB1⟩
 simp only at hk ho1
 have hv1:=hv.bs hB1
 have hs1:=hB1.size
 refine Ae<|Ae<|Ab<|Lw.val (Ad O) O<|Lw.val (Ad O) O<|Lw.val (Av st_23 O (by assumption)) O ?_
 refine Lw.val (Bh O O) O<|Af<|Aa<|Cw.out<|Au O ?_ ?_
 ·intro h
  have hk' :k<l.length:=by simp at h;omega
  refine Aq<|Aa<|Cw.out<|Ae<|Cw.block<|Ab<|Lw.val (Ad O) O<|Lw.val (Ad O) O<|Lw.val (Ad O) O<|Lw.val (Ba st_23 O O (by assumption) _ O (by omega)) O ?_
  refine Lw.val (Bg (ag_3 _) O (by assumption) (by omega)) O ?_
  refine Bl (Cp (vs:=[Value.int .i64 (l.getD k default)]) st_23 it_3 O O O O O) O ?_
  rintro v2 w2 ⟨ho2, -,hB2,hs2⟩
  refine Bl (Cq (base:=w.heap.size) st_23 it_3 O (by decide) O O (own_bs ho1 hB2) (own_sl ho2) O (by omega) (by omega) (by omega)) O ?_
  rintro v3 w3 ⟨ho3,hB3,_⟩
  refine Lw.val (Ac O) O<|Af<|Bo<|Aa<|Cw.out<|Ab<|Lw.val (Ad O) O<|Lw.val (Bc O O (by omega)) O<|Lw.val (Ac O) O<|Af ?_
  have e:(l.take k).map (Value.int .i64)++[Value.int .i64 (l.getD k default)]=(l.take (k+1)).map (Value.int .i64):=by
   rw [List.take_succ_eq_append_getElem hk',List.map_append];simp [hk']
  rw [e] at ho3
  exact Aa (Bq ((k+1,v3)) ⟨rfl,rfl,rfl,trivial⟩ (⟨hk',ho3,(bt hB1 hB2).trans hB3⟩) (by simp only;omega))
 ·intro h
  have hk' :k=l.length:=by simp at h;omega
  subst hk'
  refine Bi<|Am<|Am<|Az<|Aa<|Cw.out<|Ae<|Ab<|Lw.val (Ad O) O<|Bl (Cp (vs:=[Value.int .i64 (77)]) st_23 it_3 O O O O O) O ?_
  rintro v2 w2 ⟨ho2, -,hB2,hs2⟩
  refine Bl (Cq (base:=w.heap.size) st_23 it_3 O (by decide) O O (own_bs ho1 hB2) (own_sl ho2) O (by omega) (by omega) (by omega)) O ?_
  rintro v3 w3 ⟨ho3,hB3,_⟩
  have hB3' :=(bt hB1 hB2).trans hB3
  have hv3:=hv.bs hB3'
  rcases ho3.2 with ⟨_,h0⟩|⟨g,cap,cur,rfl,hg,hgg,hnc,hcm,hcs,htake⟩
  ·omega
  refine Lw.val (Ad O) O<|Lw.val (Av st_23 O (by assumption)) O ?_
  refine Lw.val (Ex.extH st_23 O O (by omega)) O<|Lw.val (Ac O) O<|Af<|Aa<|Cw.out<|An<|Bb O O ?_
  exact ⟨⟨g,cap,rfl,by simpa using ho3⟩,hB3'⟩

theorem leftInts_c (t v:Value) (l:List (Int)) (base:Nat) (w:World) (ht:Twn w base 3 (Value.int .i64) (Value.int .i64 (77)) t l) (hv:SlT (Value.int .i64) w v l):
  Fnc Tryz.prog 48 [t,v] w (fun r w' =>r= .bool true∧Below w.heap.size w w'):=by
 have hts:=ht.sl
 have hle:=hv.le
 obtain ⟨b,cap,rfl,ho⟩:=ht
 have hcap:l.length+1≤cap∧cap≤9223372036854775807:=by
  obtain ⟨_,ao,cap',he,h1,h2,_⟩:=own_sl ho
  cases he;unfold maxLen at h2;exact ⟨h1,by omega⟩
 refine Ap (n:=45) Tryz.func48 (by kernel_rfl) O O O<|Ae<|Ab<|Lw.val (Ac O) O<|Af<|Aa<|Cw.out<|Ae<|Ae<|Ab<|Lw.val (Ad O) O<|Lw.val (Av st_23 O (by assumption)) O ?_
 refine Lw.val (Ad O) O<|Lw.val (Av st_23 O (by assumption)) O ?_
 refine Lw.val (B7 O O) O<|Lw.val (Ad O) O<|Cd 12 (v' := .bool false) O (congrArg Value.bool ((by simp)))<|Lw.take (dj:=12) O O<|Lw.val (Ad O) O<|Lw.take (dj:=12) O O<|Lw.val (Ex.capS st_23 O) O<|Lw.take (dj:=12) O O<|Lw.val (Ad O) O<|Lw.take (dj:=12) O O<|Lw.val (Av st_23 O (by assumption)) O ?_
 refine Lw.take (dj:=12) O O<|Lw.val (C8 O O) O<|Lw.val (Bd O O) O<|Af<|Aa<|Cw.out<|Bs O false ((by simp;omega))<|Aq<|Aa<|Cw.out<|Ae<|Ae<|Ab<|Lw.val (Ac O) O<|Af<|Aa<|Cw.out<|Cw.block ?_
 refine Bj (S:=Nat) (fun k=>[(0, .slice (some ⟨b,0,none⟩) l.length cap),(1,v),(5, .int .i64 (k:Int))]) (fun k w' =>k≤l.length∧Below w.heap.size w w') (fun k=>l.length - k) (0) ⟨rfl,rfl,rfl,trivial⟩ ?_ ?_
 ·exact ⟨by omega,Below.refl _ _⟩
 rintro k w1 ⟨hk,hB1⟩
 have hv1:=hv.bs hB1
 have hts1:=hts.bs hB1
 refine Ae<|Ae<|Ab<|Lw.val (Ad O) O<|Lw.val (Ad O) O<|Lw.val (Av st_23 O (by assumption)) O ?_
 refine Lw.val (Bh O O) O<|Af<|Aa<|Cw.out<|Au O ?_ ?_
 ·intro h
  have hk' :k<l.length:=by simp at h;omega
  refine Aq<|Aa<|Cw.out<|Ae<|Cw.block<|Ae<|B5 mixed (by kernel_rfl)<|Qw.val (fun w1 hq=>Ad O) O<|Qw.val (fun w1 hq=>Ad O) O<|Qw.val (fun w1 hq=>Ba st_23 O O (Sl.bs (by assumption) hq) _ O (by omega)) O ?_
  refine Qw.val (fun w1 hq=>Bg (ag_3 _) O (Sl.bs (by assumption) hq) (by omega)) O ?_
  refine Qw.val (fun w1 hq=>Ad O) O<|Qw.val (fun w1 hq=>Ad O) O<|Qw.val (fun w1 hq=>Ba st_23 O O (Sl.bs (by assumption) hq) _ O (by omega)) O ?_
  refine Qw.val (fun w1 hq=>Bg (ag_3 _) O (Sl.bs (by assumption) hq) (by omega)) O ?_
  refine Qw.val (fun w1 hq=>B7 O O) O ?_
  refine B3 (fun w2 hq=> ?_)
  refine Aa<|Cw.out ?_
  have hB2:=bt hB1 hq
  refine Bs O false ((by simp))<|Aq<|Bo<|Aa<|Cw.out<|Ab<|Lw.val (Ad O) O<|Lw.val (Bc O O (by omega)) O<|Lw.val (Ac O) O<|Af ?_
  exact Aa (Bq (k+1) ⟨rfl,rfl,rfl,trivial⟩ (⟨by omega,hB2⟩) (by omega))
 ·intro h
  have hk' :k=l.length:=by simp at h;omega
  subst hk'
  have hfull:=own_sl (own_bs ho hB1)
  refine Bi<|Am<|Am<|Az<|Aa<|Cw.out<|Ae<|Ab<|Lw.val (Ad O) O<|Lw.val (Ad O) O<|Lw.val (Av st_23 O (by assumption)) O ?_
  refine Lw.val (Bc O O (by omega)) O<|Lw.val (Ex.extH (j:=l.length+1) st_23 O O (by omega)) O<|Lw.val (Ad O) O<|Lw.val (Av st_23 O (by assumption)) O ?_
  refine Lw.val (Bz st_23 O O hfull l.length O (by omega)) O<|Lw.val (C6 (u:=Value.int .i64 (77)) (ag_3 _) O hfull (by simp)) O<|Lw.val (Ac O) O<|Af<|Aa<|Cw.out<|Ae<|Ab<|Lw.val (Ad O) O<|Lw.val (Cn O O) O<|Lw.val (Ac O) O<|Af<|Aa<|Cw.out<|An<|Bb O O ?_
  exact ⟨congrArg Value.bool (by simp),hB1⟩

theorem sameInts_c (u v:Value) (l m:List (Int)) (w:World) (hu:SlT (Value.int .i64) w u l) (hv:SlT (Value.int .i64) w v m):
  Fnc Tryz.prog 46 [u,v] w (fun r w' =>r= .bool (decide (l=m))∧Below w.heap.size w w'):=by
 have hle:=hu.le
 refine Ap (n:=26) Tryz.func46 (by kernel_rfl) O O O<|Ae<|Ab<|Lw.val (Ac O) O<|Af<|Aa<|Cw.out<|Ae<|Ae<|Ab<|Lw.val (Ad O) O<|Lw.val (Av st_23 O (by assumption)) O ?_
 refine Lw.val (Ad O) O<|Lw.val (Av st_23 O (by assumption)) O ?_
 refine Lw.val (B7 O O) O<|Af<|Aa<|Cw.out<|Au O ?_ ?_
 ·intro h
  have hne:l≠m:=fun e=>by subst e;simp at h
  refine Ae<|Ab<|Lw.val (Ac O) O<|Af<|Aa<|Cw.out<|An<|Ak<|Bb O O ?_
  exact ⟨by rw [decide_eq_false hne],Below.refl _ _⟩
 ·intro h
  have hlen:l.length=m.length:=by simp at h;omega
  refine Aq<|Aa<|Cw.out<|Ae<|Ae<|Ab<|Lw.val (Ac O) O<|Af<|Aa<|Cw.out<|Cw.block ?_
  refine Bj (S:=Nat) (fun k=>[(0,u),(1,v),(5, .int .i64 (k:Int))]) (fun k w' =>k≤l.length∧l.take k=m.take k∧Below w.heap.size w w') (fun k=>l.length - k) (0) ⟨rfl,rfl,rfl,trivial⟩ ?_ ?_
  ·exact ⟨by omega,by simp,Below.refl _ _⟩
  rintro k w1 ⟨hk,he,hB1⟩
  have hu1:=hu.bs hB1
  have hv1:=hv.bs hB1
  refine Ae<|Ae<|Ab<|Lw.val (Ad O) O<|Lw.val (Ad O) O<|Lw.val (Av st_23 O (by assumption)) O ?_
  refine Lw.val (Bh O O) O<|Af<|Aa<|Cw.out<|Au O ?_ ?_
  ·intro h
   have hk' :k<l.length:=by simp at h;omega
   have hkm:k<m.length:=by omega
   refine Aq<|Aa<|Cw.out<|Ae<|Cw.block<|Ae<|B5 mixed (by kernel_rfl)<|Qw.val (fun w1 hq=>Ad O) O<|Qw.val (fun w1 hq=>Ad O) O<|Qw.val (fun w1 hq=>Ba st_23 O O (Sl.bs (by assumption) hq) _ O (by omega)) O ?_
   refine Qw.val (fun w1 hq=>Bg (ag_3 _) O (Sl.bs (by assumption) hq) (by omega)) O ?_
   refine Qw.val (fun w1 hq=>Ad O) O<|Qw.val (fun w1 hq=>Ad O) O<|Qw.val (fun w1 hq=>Ba st_23 O O (Sl.bs (by assumption) hq) _ O (by omega)) O ?_
   refine Qw.val (fun w1 hq=>Bg (ag_3 _) O (Sl.bs (by assumption) hq) (by omega)) O ?_
   refine Qw.val (fun w1 hq=>B7 O O) O ?_
   refine B3 (fun w2 hq=> ?_)
   refine Aa<|Cw.out ?_
   have hB2:=bt hB1 hq
   refine Au O ?_ ?_
   ·intro h
    have hne:l≠m:=fun e=>by subst e;simp at h
    refine Ae<|Ab<|Lw.val (Ac O) O<|Af<|Aa<|Cw.out<|An<|Bk<|Ak<|Ak<|Bk<|Ak<|Bb O O ?_
    exact ⟨by rw [decide_eq_false hne],hB2⟩
   ·intro h
    refine Aq<|Bo<|Aa<|Cw.out<|Ab<|Lw.val (Ad O) O<|Lw.val (Bc O O (by omega)) O<|Lw.val (Ac O) O<|Af ?_
    have he2:l.take (k+1)=m.take (k+1):=by
     rw [List.take_succ_eq_append_getElem hk',List.take_succ_eq_append_getElem hkm,he]
     simp [hk',hkm] at h
     rw [h]
    exact Aa (Bq (k+1) ⟨rfl,rfl,rfl,trivial⟩ (⟨by omega,he2,hB2⟩) (by omega))
  ·intro h
   have hk' :k=l.length:=by simp at h;omega
   subst hk'
   rw [List.take_length,hlen,List.take_length] at he
   refine Bi<|Am<|Am<|Az<|Aa<|Cw.out<|Ae<|Ab<|Lw.val (Ac O) O<|Af<|Aa<|Cw.out<|An<|Bb O O ?_
   exact ⟨by rw [decide_eq_true he],hB1⟩

theorem twinNumbers_c (v:Value) (l:List (BitVec 32)) (w:World) (hv:SlT (i32) w v l) (hl:l.length≤4194304):
  Fnc Tryz.prog 101 [v] w (fun r w' =>Twn w' w.heap.size 21 (i32) (i32 (77#32)) r l∧Below w.heap.size w w'):=by
 refine Ap (n:=28) Tryz.func101 (by kernel_rfl) O O O<|Ae<|Ab<|Lw.val (Ac O) O<|Af<|Aa<|Cw.out<|Ae<|Ab<|Lw.val (Ad O) O<|Lw.val (Av st_31 O (by assumption)) O ?_
 refine Lw.val (Bc O O (by omega)) O<|Bl (C2 (l:=0) (c:=l.length+1) st_31 it_21 O O O (by omega) (by omega) (by omega)) O ?_
 rintro v1 w1 ⟨ho1, -,hB1,hs1⟩
 refine Lw.val (Ac O) O<|Af<|Aa<|Cw.out<|Ae<|Ae<|Ab<|Lw.val (Ac O) O<|Af<|Aa<|Cw.out<|Cw.block ?_
 refine Bj (S:=(Nat×Value)) (fun s=>[(0,v),(3,s.2),(4, .int .i64 (s.1:Int))]) (fun s w' =>s.1≤l.length∧w'.ownsRow w.heap.size 21 1 s.2 s.1 ((l.take s.1).map (i32))∧Below w.heap.size w w') (fun s=>l.length - s.1) ((0,v1)) ⟨rfl,rfl,rfl,trivial⟩ ?_ ?_
 ·exact ⟨by omega,by simpa using ho1,hB1⟩
 clear ho1 hB1 hs1 v1 w1
 rintro ⟨k,v1⟩ w1 ⟨hk,ho1,hB1⟩
 simp only at hk ho1
 have hv1:=hv.bs hB1
 have hs1:=hB1.size
 refine Ae<|Ae<|Ab<|Lw.val (Ad O) O<|Lw.val (Ad O) O<|Lw.val (Av st_31 O (by assumption)) O ?_
 refine Lw.val (Bh O O) O<|Af<|Aa<|Cw.out<|Au O ?_ ?_
 ·intro h
  have hk' :k<l.length:=by simp at h;omega
  refine Aq<|Aa<|Cw.out<|Ae<|Cw.block<|Ab<|Lw.val (Ad O) O<|Lw.val (Ad O) O<|Lw.val (Ad O) O<|Lw.val (Ba st_31 O O (by assumption) _ O (by omega)) O ?_
  refine Lw.val (Bg (ag_21 _) O (by assumption) (by omega)) O ?_
  refine Bl (Cp (vs:=[i32 (l.getD k default)]) st_31 it_21 O O O O O) O ?_
  rintro v2 w2 ⟨ho2, -,hB2,hs2⟩
  refine Bl (Cq (base:=w.heap.size) st_31 it_21 O (by decide) O O (own_bs ho1 hB2) (own_sl ho2) O (by omega) (by omega) (by omega)) O ?_
  rintro v3 w3 ⟨ho3,hB3,_⟩
  refine Lw.val (Ac O) O<|Af<|Bo<|Aa<|Cw.out<|Ab<|Lw.val (Ad O) O<|Lw.val (Bc O O (by omega)) O<|Lw.val (Ac O) O<|Af ?_
  have e:(l.take k).map (i32)++[i32 (l.getD k default)]=(l.take (k+1)).map (i32):=by
   rw [List.take_succ_eq_append_getElem hk',List.map_append];simp [hk']
  rw [e] at ho3
  exact Aa (Bq ((k+1,v3)) ⟨rfl,rfl,rfl,trivial⟩ (⟨hk',ho3,(bt hB1 hB2).trans hB3⟩) (by simp only;omega))
 ·intro h
  have hk' :k=l.length:=by simp at h;omega
  subst hk'
  refine Bi<|Am<|Am<|Az<|Aa<|Cw.out<|Ae<|Ab<|Lw.val (Ad O) O<|Bl (Cp (vs:=[i32 (77#32)]) st_31 it_21 O O O O O) O ?_
  rintro v2 w2 ⟨ho2, -,hB2,hs2⟩
  refine Bl (Cq (base:=w.heap.size) st_31 it_21 O (by decide) O O (own_bs ho1 hB2) (own_sl ho2) O (by omega) (by omega) (by omega)) O ?_
  rintro v3 w3 ⟨ho3,hB3,_⟩
  have hB3' :=(bt hB1 hB2).trans hB3
  have hv3:=hv.bs hB3'
  rcases ho3.2 with ⟨_,h0⟩|⟨g,cap,cur,rfl,hg,hgg,hnc,hcm,hcs,htake⟩
  ·omega
  refine Lw.val (Ad O) O<|Lw.val (Av st_31 O (by assumption)) O ?_
  refine Lw.val (Ex.extH st_31 O O (by omega)) O<|Lw.val (Ac O) O<|Af<|Aa<|Cw.out<|An<|Bb O O ?_
  exact ⟨⟨g,cap,rfl,by simpa using ho3⟩,hB3'⟩

theorem leftNumbers_c (t v:Value) (l:List (BitVec 32)) (base:Nat) (w:World) (ht:Twn w base 21 (i32) (i32 (77#32)) t l) (hv:SlT (i32) w v l):
  Fnc Tryz.prog 109 [t,v] w (fun r w' =>r= .bool true∧Below w.heap.size w w'):=by
 have hts:=ht.sl
 have hle:=hv.le
 obtain ⟨b,cap,rfl,ho⟩:=ht
 have hcap:l.length+1≤cap∧cap≤9223372036854775807:=by
  obtain ⟨_,ao,cap',he,h1,h2,_⟩:=own_sl ho
  cases he;unfold maxLen at h2;exact ⟨h1,by omega⟩
 refine Ap (n:=45) Tryz.func109 (by kernel_rfl) O O O<|Ae<|Ab<|Lw.val (Ac O) O<|Af<|Aa<|Cw.out<|Ae<|Ae<|Ab<|Lw.val (Ad O) O<|Lw.val (Av st_31 O (by assumption)) O ?_
 refine Lw.val (Ad O) O<|Lw.val (Av st_31 O (by assumption)) O ?_
 refine Lw.val (B7 O O) O<|Lw.val (Ad O) O<|Cd 12 (v' := .bool false) O (congrArg Value.bool ((by simp)))<|Lw.take (dj:=12) O O<|Lw.val (Ad O) O<|Lw.take (dj:=12) O O<|Lw.val (Ex.capS st_31 O) O<|Lw.take (dj:=12) O O<|Lw.val (Ad O) O<|Lw.take (dj:=12) O O<|Lw.val (Av st_31 O (by assumption)) O ?_
 refine Lw.take (dj:=12) O O<|Lw.val (C8 O O) O<|Lw.val (Bd O O) O<|Af<|Aa<|Cw.out<|Bs O false ((by simp;omega))<|Aq<|Aa<|Cw.out<|Ae<|Ae<|Ab<|Lw.val (Ac O) O<|Af<|Aa<|Cw.out<|Cw.block ?_
 refine Bj (S:=Nat) (fun k=>[(0, .slice (some ⟨b,0,none⟩) l.length cap),(1,v),(5, .int .i64 (k:Int))]) (fun k w' =>k≤l.length∧Below w.heap.size w w') (fun k=>l.length - k) (0) ⟨rfl,rfl,rfl,trivial⟩ ?_ ?_
 ·exact ⟨by omega,Below.refl _ _⟩
 rintro k w1 ⟨hk,hB1⟩
 have hv1:=hv.bs hB1
 have hts1:=hts.bs hB1
 refine Ae<|Ae<|Ab<|Lw.val (Ad O) O<|Lw.val (Ad O) O<|Lw.val (Av st_31 O (by assumption)) O ?_
 refine Lw.val (Bh O O) O<|Af<|Aa<|Cw.out<|Au O ?_ ?_
 ·intro h
  have hk' :k<l.length:=by simp at h;omega
  refine Aq<|Aa<|Cw.out<|Ae<|Cw.block<|Ae<|B5 mixed (by kernel_rfl)<|Qw.val (fun w1 hq=>Ad O) O<|Qw.val (fun w1 hq=>Ad O) O<|Qw.val (fun w1 hq=>Ba st_31 O O (Sl.bs (by assumption) hq) _ O (by omega)) O ?_
  refine Qw.val (fun w1 hq=>Bg (ag_21 _) O (Sl.bs (by assumption) hq) (by omega)) O ?_
  refine Qw.val (fun w1 hq=>Ad O) O<|Qw.val (fun w1 hq=>Ad O) O<|Qw.val (fun w1 hq=>Ba st_31 O O (Sl.bs (by assumption) hq) _ O (by omega)) O ?_
  refine Qw.val (fun w1 hq=>Bg (ag_21 _) O (Sl.bs (by assumption) hq) (by omega)) O ?_
  refine Qw.val (fun w1 hq=>Ex.neqi32 O O) O ?_
  refine B3 (fun w2 hq=> ?_)
  refine Aa<|Cw.out ?_
  have hB2:=bt hB1 hq
  refine Bs O false ((by simp))<|Aq<|Bo<|Aa<|Cw.out<|Ab<|Lw.val (Ad O) O<|Lw.val (Bc O O (by omega)) O<|Lw.val (Ac O) O<|Af ?_
  exact Aa (Bq (k+1) ⟨rfl,rfl,rfl,trivial⟩ (⟨by omega,hB2⟩) (by omega))
 ·intro h
  have hk' :k=l.length:=by simp at h;omega
  subst hk'
  have hfull:=own_sl (own_bs ho hB1)
  refine Bi<|Am<|Am<|Az<|Aa<|Cw.out<|Ae<|Ab<|Lw.val (Ad O) O<|Lw.val (Ad O) O<|Lw.val (Av st_31 O (by assumption)) O ?_
  refine Lw.val (Bc O O (by omega)) O<|Lw.val (Ex.extH (j:=l.length+1) st_31 O O (by omega)) O<|Lw.val (Ad O) O<|Lw.val (Av st_31 O (by assumption)) O ?_
  refine Lw.val (Bz st_31 O O hfull l.length O (by omega)) O<|Lw.val (C6 (u:=i32 (77#32)) (ag_21 _) O hfull (by simp)) O<|Lw.val (Ac O) O<|Af<|Aa<|Cw.out<|Ae<|Ab<|Lw.val (Ad O) O<|Lw.val (Ex.eqli32 O (show _=some (i32 (77#32)) from rfl)) O<|Lw.val (Ac O) O<|Af<|Aa<|Cw.out<|An<|Bb O O ?_
  exact ⟨congrArg Value.bool (by simp),hB1⟩

theorem sameNumbers_c (u v:Value) (l m:List (BitVec 32)) (w:World) (hu:SlT (i32) w u l) (hv:SlT (i32) w v m):
  Fnc Tryz.prog 47 [u,v] w (fun r w' =>r= .bool (decide (l=m))∧Below w.heap.size w w'):=by
 have hle:=hu.le
 refine Ap (n:=26) Tryz.func47 (by kernel_rfl) O O O<|Ae<|Ab<|Lw.val (Ac O) O<|Af<|Aa<|Cw.out<|Ae<|Ae<|Ab<|Lw.val (Ad O) O<|Lw.val (Av st_31 O (by assumption)) O ?_
 refine Lw.val (Ad O) O<|Lw.val (Av st_31 O (by assumption)) O ?_
 refine Lw.val (B7 O O) O<|Af<|Aa<|Cw.out<|Au O ?_ ?_
 ·intro h
  have hne:l≠m:=fun e=>by subst e;simp at h
  refine Ae<|Ab<|Lw.val (Ac O) O<|Af<|Aa<|Cw.out<|An<|Ak<|Bb O O ?_
  exact ⟨by rw [decide_eq_false hne],Below.refl _ _⟩
 ·intro h
  have hlen:l.length=m.length:=by simp at h;omega
  refine Aq<|Aa<|Cw.out<|Ae<|Ae<|Ab<|Lw.val (Ac O) O<|Af<|Aa<|Cw.out<|Cw.block ?_
  refine Bj (S:=Nat) (fun k=>[(0,u),(1,v),(5, .int .i64 (k:Int))]) (fun k w' =>k≤l.length∧l.take k=m.take k∧Below w.heap.size w w') (fun k=>l.length - k) (0) ⟨rfl,rfl,rfl,trivial⟩ ?_ ?_
  ·exact ⟨by omega,by simp,Below.refl _ _⟩
  rintro k w1 ⟨hk,he,hB1⟩
  have hu1:=hu.bs hB1
  have hv1:=hv.bs hB1
  refine Ae<|Ae<|Ab<|Lw.val (Ad O) O<|Lw.val (Ad O) O<|Lw.val (Av st_31 O (by assumption)) O ?_
  refine Lw.val (Bh O O) O<|Af<|Aa<|Cw.out<|Au O ?_ ?_
  ·intro h
   have hk' :k<l.length:=by simp at h;omega
   have hkm:k<m.length:=by omega
   refine Aq<|Aa<|Cw.out<|Ae<|Cw.block<|Ae<|B5 mixed (by kernel_rfl)<|Qw.val (fun w1 hq=>Ad O) O<|Qw.val (fun w1 hq=>Ad O) O<|Qw.val (fun w1 hq=>Ba st_31 O O (Sl.bs (by assumption) hq) _ O (by omega)) O ?_
   refine Qw.val (fun w1 hq=>Bg (ag_21 _) O (Sl.bs (by assumption) hq) (by omega)) O ?_
   refine Qw.val (fun w1 hq=>Ad O) O<|Qw.val (fun w1 hq=>Ad O) O<|Qw.val (fun w1 hq=>Ba st_31 O O (Sl.bs (by assumption) hq) _ O (by omega)) O ?_
   refine Qw.val (fun w1 hq=>Bg (ag_21 _) O (Sl.bs (by assumption) hq) (by omega)) O ?_
   refine Qw.val (fun w1 hq=>Ex.neqi32 O O) O ?_
   refine B3 (fun w2 hq=> ?_)
   refine Aa<|Cw.out ?_
   have hB2:=bt hB1 hq
   refine Au O ?_ ?_
   ·intro h
    have hne:l≠m:=fun e=>by subst e;simp at h
    refine Ae<|Ab<|Lw.val (Ac O) O<|Af<|Aa<|Cw.out<|An<|Bk<|Ak<|Ak<|Bk<|Ak<|Bb O O ?_
    exact ⟨by rw [decide_eq_false hne],hB2⟩
   ·intro h
    refine Aq<|Bo<|Aa<|Cw.out<|Ab<|Lw.val (Ad O) O<|Lw.val (Bc O O (by omega)) O<|Lw.val (Ac O) O<|Af ?_
    have he2:l.take (k+1)=m.take (k+1):=by
     rw [List.take_succ_eq_append_getElem hk',List.take_succ_eq_append_getElem hkm,he]
     simp [hk',hkm] at h
     rw [h]
    exact Aa (Bq (k+1) ⟨rfl,rfl,rfl,trivial⟩ (⟨by omega,he2,hB2⟩) (by omega))
  ·intro h
   have hk' :k=l.length:=by simp at h;omega
   subst hk'
   rw [List.take_length,hlen,List.take_length] at he
   refine Bi<|Am<|Am<|Az<|Aa<|Cw.out<|Ae<|Ab<|Lw.val (Ac O) O<|Af<|Aa<|Cw.out<|An<|Bb O O ?_
   exact ⟨by rw [decide_eq_true he],hB1⟩



end Go.Proofs.YtmipoeanpnnjoaaGreatDoor

/-! Contracts: what the statements on tensors use besides. -/
namespace Go.Proofs.YtmipoeanpnnjoaaGreatDoor
open Go Go.Dd Go.RowKit
set_option maxRecDepth 100000

theorem nilT (w:World):(T4.mk (.slice none 0 0) (.slice none 0 0) [] []).at w:=⟨Sl.nil w 1,Sl.nil w 1⟩
theorem Made1.at {W w:World} {x y:Value} {s:List Int} {l:List (BitVec 32)} (h:Made1 W w x y s l):(T4.mk x y s l).at w:=⟨h.sh,own_sl h.own⟩
theorem getD_rep {c:BitVec 32} {n i:Nat} (h:i<n):(List.replicate n c).getD i default=c:=by simp [h]
theorem tok_ok {s:List Int} {l:List (BitVec 32)} (h:tok s l=true):Shapes.ok s=true∧l.length=(Shapes.size s).toNat:=by
 simp only [tok,Bool.and_eq_true,decide_eq_true_eq] at h
 exact ⟨h.1,by omega⟩
/-- A contract's answer: a tensor of one's own, or none. -/
def Gets (W w:World) (r:Value) (e:Int) (s:List Int) (l:List (BitVec 32)):Prop:=
 ∃c:T4,r= .tuple #[c.v, .int .i64 e]∧c.at w∧(e≠0→c.s=[]∧c.l=[]∧c.x= .slice none 0 0∧c.y= .slice none 0 0)∧(e=0→c.s=s∧c.l=l∧Made1 W w c.x c.y s l)
/-! How great an argument is. -/
def tsz (s:List Int) (l:List (BitVec 32)):Int:=if 1+(s.length:Int)≤1048576 then 1+(s.length:Int)+(l.length:Int) else 1+(s.length:Int)
theorem intsSize_c (u:Value) (l:List Int) (w:World) (hu:SlT (Value.int .i64) w u l):Fnc Tryz.prog 29 [u] w (fun r w' =>r= .int .i64 (l.length:Int)∧Below w.heap.size w w'):=by
 refine Ap (n:=5) Tryz.func29 (by kernel_rfl) O O O<|Ae<|Ab<|Lw.val (Ac O) O<|Af<|Aa<|Cw.out<|Ae<|Ab<|Lw.val (Ad O) O<|Lw.val (Av st_23 O (by assumption)) O ?_
 refine Lw.val (Ac O) O<|Af<|Aa<|Cw.out<|An<|Bb O O ?_
 exact ⟨rfl,Below.refl _ _⟩
theorem numsSize_c (u:Value) (l:List (BitVec 32)) (w:World) (hu:SlT i32 w u l):Fnc Tryz.prog 111 [u] w (fun r w' =>r= .int .i64 (l.length:Int)∧Below w.heap.size w w'):=by
 refine Ap (n:=5) Tryz.func111 (by kernel_rfl) O O O<|Ae<|Ab<|Lw.val (Ac O) O<|Af<|Aa<|Cw.out<|Ae<|Ab<|Lw.val (Ad O) O<|Lw.val (Av st_31 O (by assumption)) O ?_
 refine Lw.val (Ac O) O<|Af<|Aa<|Cw.out<|An<|Bb O O ?_
 exact ⟨rfl,Below.refl _ _⟩

theorem tsize_c (a:T4) (w:World) (ha:a.at w) (hs:a.s.length≤1125899906842624) (hl:a.l.length≤1125899906842624):Fnc Tryz.prog 30 [a.v] w (fun r w' =>r= .int .i64 (tsz a.s a.l)∧Below w.heap.size w w'):=by
 have hB:=Below.refl w.heap.size w
 refine Ap (n:=19) Tryz.func30 (by kernel_rfl) O O O<|Ae<|Ab<|Bl (Xw.box (cs:=[a.x,a.y]) O O) O ?_
 rintro _ w1 ⟨rfl,b,hn, -⟩
 replace hB:=hB.bs hn
 replace ha:=ha.bs hn
 have hx:=ha.1
 refine Lw.val (Ac O) O<|Af<|Aa<|Cw.out<|Ae<|Ab<|Lw.val (Ac O) O<|Af<|Aa<|Cw.out<|Ae<|Ae<|Ab<|Lw.val (Ad O) O<|Lw.val (C8 O O) O<|Af<|Aa<|Cw.out<|Bs O true (by decide)<|Ab<|Lw.val (Ad O) O<|Lw.val (Ag (q:=0) Tryz.underlying33 O (sz_23 _) O) O<|Lw.val (Aj (ag_23 _) O (by assumption) O) O ?_
 refine Al O O (intsSize_c a.x a.s w1 ha.1) ?_
 rintro _ w2 ⟨rfl,hn⟩
 replace hB:=hB.bs hn
 replace ha:=ha.bs hn
 replace b:=b.bs hn
 refine Lw.val (Bc O O (by omega)) O<|Lw.val (Ac O) O<|Af<|Aa<|Cw.out<|Ae<|Ae<|Ab<|Lw.val (Ad O) O<|Lw.val (C8 O O) O<|Af<|Aa<|Cw.out<|Au O ?_ ?_
 ·intro g
  have g' :=of_decide_eq_true g
  refine Ab<|Lw.val (Ad O) O<|Lw.val (Ag (q:=0) Tryz.underlying33 O (sz_31 _) O) O<|Lw.val (Aj (ag_31 _) O (by assumption) O) O ?_
  refine Al O O (numsSize_c a.y a.l w2 ha.2) ?_
  rintro _ w3 ⟨rfl,hn⟩
  replace hB:=hB.bs hn
  replace ha:=ha.bs hn
  replace b:=b.bs hn
  refine Lw.val (Bc O O (by omega)) O<|Lw.val (Ac O) O<|Af<|Aa<|Cw.out<|Ae<|Ab<|Lw.val (Ad O) O<|Lw.val (Ac O) O<|Af<|Aa<|Cw.out<|An<|Bb O O ?_
  exact ⟨by rw [tsz,if_pos g'],hB⟩
 ·intro g
  have g' :=of_decide_eq_false g
  refine Aq<|Aa<|Cw.out<|Ae<|Ab<|Lw.val (Ad O) O<|Lw.val (Ac O) O<|Af<|Aa<|Cw.out<|An<|Bb O O ?_
  exact ⟨by rw [tsz,if_neg g'],hB⟩

end Go.Proofs.YtmipoeanpnnjoaaGreatDoor

/-! Contracts: what the statements on tensors use besides. -/
namespace Go.Proofs.YtmipoeanpnnjoaaGreatDoor
open Go Go.Dd Go.RowKit
set_option maxRecDepth 100000

/-- An answer, as a tensor. -/
theorem Ans.get {W w:World} {r:Value} {e:Int} {s:List Int} {l:List (BitVec 32)} (h:Ans W w r e s l):∃a:T4,r= .tuple #[a.v, .int .i64 e]∧a.at w∧(e≠0→a.s=[]∧a.l=[]∧a.x= .slice none 0 0∧a.y= .slice none 0 0)∧(e=0→a.s=s∧a.l=l∧Made1 W w a.x a.y s l):=by
 obtain ⟨x,y,rfl,q1,q2⟩:=h
 by_cases he:e=0
 ·exact ⟨⟨x,y,s,l⟩,rfl,(q2 he).at,fun h=>absurd he h,fun _=>⟨rfl,rfl,q2 he⟩⟩
 ·obtain ⟨rfl,rfl⟩:=q1 he
  exact ⟨⟨_,_,[],[]⟩,rfl,nilT w,fun _=>⟨rfl,rfl,rfl,rfl⟩,fun h=>absurd h he⟩

/-! What is reckoned, without memory. -/
def e2 (s:List Int) (l:List (BitVec 32)) (t:List Int) (m:List (BitVec 32)):Int:=if tok s l && tok t m then (if t=s then 0 else 10) else 1
def e1 (s:List Int) (l:List (BitVec 32)):Int:=if tok s l then 0 else 1
def z2 (f:BitVec 32→BitVec 32→BitVec 32) (s:List Int) (l m:List (BitVec 32)):List (BitVec 32):=(List.range (Shapes.size s).toNat).map fun i=>f (l.getD i default) (m.getD i default)
def z1 (f:BitVec 32→BitVec 32) (s:List Int) (l:List (BitVec 32)):List (BitVec 32):=(List.range (Shapes.size s).toNat).map fun i=>f (l.getD i default)
theorem ofE_two (a b:T4):ofE [a,b] a.s=e2 a.s a.l b.s b.l:=by
 simp only [ofE,e2,List.all_cons,List.all_nil,T4.ok,Bool.and_true,decide_true,Bool.true_and,decide_eq_true_eq]
theorem ofE_one (a:T4):ofE [a] a.s=e1 a.s a.l:=by
 simp [ofE,e1,T4.ok]

theorem Ans.gets {W w:World} {r:Value} {e:Int} {s:List Int} {l:List (BitVec 32)} (h:Ans W w r e s l):Gets W w r e s l:=by
 obtain ⟨a,h1,h2,h3,h4⟩:=h.get
 exact ⟨a,h1,h2,h3,h4⟩
theorem add_p (a b:T4) (W:World) (ha:a.at W) (hb:b.at W):Fnc Tryz.prog 113 [a.v,b.v] W (fun r w' =>Below W.heap.size W w' ∧Gets W w' r (e2 a.s a.l b.s b.l) a.s (z2 (·+·) a.s a.l b.l)):=
 (add_c a b W ha hb).mono fun r w' ⟨h1,h2⟩=>⟨h1,by rw [ofE_two] at h2;exact h2.gets⟩
theorem mul_p (a b:T4) (W:World) (ha:a.at W) (hb:b.at W):Fnc Tryz.prog 114 [a.v,b.v] W (fun r w' =>Below W.heap.size W w' ∧Gets W w' r (e2 a.s a.l b.s b.l) a.s (z2 (·*·) a.s a.l b.l)):=
 (mul_c a b W ha hb).mono fun r w' ⟨h1,h2⟩=>⟨h1,by rw [ofE_two] at h2;exact h2.gets⟩
theorem relu_p (a:T4) (W:World) (ha:a.at W):Fnc Tryz.prog 118 [a.v] W (fun r w' =>Below W.heap.size W w' ∧Gets W w' r (e1 a.s a.l) a.s (z1 reluB a.s a.l)):=
 (relu_c a W ha).mono fun r w' ⟨h1,h2⟩=>⟨h1,by rw [ofE_one] at h2;exact h2.gets⟩
def shB (j:Nat) (x:BitVec 32):BitVec 32:=BitVec.ofInt 32 (shI j x.toInt)
def eSh (s:List Int) (l:List (BitVec 32)) (n:Int):Int:=if n<0∨31<n then 1 else e1 s l
theorem shift_p (a:T4) (n:Int) (W:World) (ha:a.at W):Fnc Tryz.prog 120 [a.v, .int .i64 n] W (fun r w' =>Below W.heap.size W w' ∧Gets W w' r (eSh a.s a.l n) a.s (z1 (shB n.toNat) a.s a.l)):=
 (shift_c a n W ha).mono fun r w' ⟨h1,h2⟩=>⟨h1,by unfold shE at h2;rw [ofE_one] at h2;exact h2.gets⟩




end Go.Proofs.YtmipoeanpnnjoaaGreatDoor

/-! Contracts: the document's answers on shapes. -/
namespace Go.Proofs.YtmipoeanpnnjoaaGreatDoor
open Go Go.Dd Go.RowKit
set_option maxRecDepth 100000

theorem prod_take {s:List Int} {i:Nat} (h:i<s.length):Shapes.prod (s.take (i+1))=Shapes.prod (s.take i)*s.getD i default:=by
 rw [List.take_succ_eq_append_getElem h,Shapes.prod_append]
 simp [Shapes.prod,h]
theorem good_take {s:List Int} {i:Nat} (h:i<s.length) (h1:Shapes.good (s.take i)) (h2:1≤s.getD i default∧s.getD i default≤64):Shapes.good (s.take (i+1)):=by
 rw [List.take_succ_eq_append_getElem h,Shapes.good_append]
 refine ⟨h1,fun x hx=> ?_⟩
 have:x=s.getD i default:=by simpa [h] using hx
 rw [this];exact h2
theorem prod_four:∀{s:List Int},Shapes.good s→s.length≤4→1≤Shapes.prod s∧Shapes.prod s≤16777216
 |s,hg,hl=>by
  have key:∀(s:List Int),Shapes.good s→Shapes.prod s≤64 ^ s.length:=by
   intro s
   induction s with
   |nil=>intro _;simp [Shapes.prod]
   |cons x s ih=>
    intro h
    have h1:=(Shapes.good_cons.1 h).1
    have h2:=ih (Shapes.good_cons.1 h).2
    have h3:=Shapes.prod_pos (Shapes.good_cons.1 h).2
    have:=Int.mul_le_mul h1.2 h2 (by omega) (by omega)
    rw [List.length_cons,Int.pow_succ,Int.mul_comm ((64:Int) ^ s.length)]
    exact this
  refine ⟨Shapes.prod_pos hg,Int.le_trans (key s hg) ?_⟩
  have:s.length=0∨s.length=1∨s.length=2∨s.length=3∨s.length=4:=by omega
  rcases this with h|h|h|h|h<;>rw [h]<;>decide

theorem rcheck_c (u:Value) (s:List Int) (w:World) (hu:SlT (Value.int .i64) w u s):Fnc Tryz.prog 137 [u] w (fun r w' =>r= .bool (Shapes.ok s)∧Below w.heap.size w w'):=by
 have no1:(s.length<1∨4<s.length)→Shapes.ok s=false:=fun h=>by
  cases hk:Shapes.ok s with
  |false=>rfl
  |true=>have:=(Shapes.ok_iff s).1 hk;omega
 refine Ap (n:=39) Tryz.func137 (by kernel_rfl) O O O<|Ae<|Ab<|Lw.val (Ac O) O<|Af<|Aa<|Cw.out<|Ae<|Ae<|Ab<|Lw.val (Ad O) O<|Lw.val (Av st_23 O (by assumption)) O ?_
 refine Lw.val (Bh O O) O<|Lw.val (Ad O) O ?_
 refine Bt 8 O ?_ ?_
 ·intro g
  refine Ai (dj:=8) O O O O<|Ai (dj:=8) O O O O<|Ai (dj:=8) O O O O<|Lw.val (As O O) O<|Af<|Aa<|Cw.out<|Br O<|Ae<|Ab<|Lw.val (Ac O) O<|Af<|Aa<|Cw.out<|An<|Ak<|Bb O O ?_
  exact ⟨by rw [no1 (.inl (by have:=of_decide_eq_true g;omega))],Below.refl _ _⟩
 intro g
 have g1:=of_decide_eq_false g
 refine Lw.take (dj:=8) O O<|Lw.val (Ad O) O<|Lw.take (dj:=8) O O<|Lw.val (Av st_23 O (by assumption)) O ?_
 refine Lw.take (dj:=8) O O<|Lw.val (Cr O O) O<|Lw.val (Bd O O) O<|Af<|Aa<|Cw.out<|Au O ?_ ?_
 ·intro g
  refine Ae<|Ab<|Lw.val (Ac O) O<|Af<|Aa<|Cw.out<|An<|Ak<|Bb O O ?_
  exact ⟨by rw [no1 (.inr (by have:=of_decide_eq_true g;omega))],Below.refl _ _⟩
 intro g
 have g2:=of_decide_eq_false g
 have hl:1≤s.length∧s.length≤4:=by omega
 refine Aq<|Aa<|Cw.out<|Ae<|Ab<|Lw.val (Ac O) O<|Af<|Aa<|Cw.out<|Ae<|Ae<|Ab<|Lw.val (Ac O) O<|Af<|Aa<|Cw.out<|Cw.block ?_
 refine Bj (S:=Nat) (fun i=>[(0,u),(2, .bool false),(3, .int .i64 (Shapes.prod (s.take i))),(4, .int .i64 (i:Int))]) (fun i w' =>i≤s.length∧Shapes.good (s.take i)∧w' =w) (fun i=>s.length - i) (0) ⟨rfl,rfl,rfl,rfl,trivial⟩ ?_ ?_
 ·exact ⟨by omega,by simp [Shapes.good],rfl⟩
 rintro i w1 ⟨hi,hg,rfl⟩
 have hp:=prod_four hg (by rw [List.length_take];omega)
 refine Ae<|Ae<|Ab<|Lw.val (Ad O) O<|Lw.val (Ad O) O<|Lw.val (Av st_23 O (by assumption)) O ?_
 refine Lw.val (Bh O O) O<|Af<|Aa<|Cw.out<|Au O ?_ ?_
 ·intro h
  have hi' :i<s.length:=by simp at h;omega
  have bad:(s.getD i default<1∨64<s.getD i default)→Shapes.ok s=false:=fun h=>by
   cases hk:Shapes.ok s with
   |false=>rfl
   |true=>
    have:=((Shapes.ok_iff s).1 hk).2.1 s[i] (List.getElem_mem hi')
    simp [hi'] at h
    omega
  refine Aq<|Aa<|Cw.out<|Ae<|Cw.block<|Ae<|Ae<|Ab<|Lw.val (Ad O) O<|Lw.val (Ad O) O<|Lw.val (Ba st_23 O O (by assumption) _ O (by omega)) O ?_
  refine Lw.val (Bg (ag_3 _) O (by assumption) (by omega)) O ?_
  refine Lw.val (Bh O O) O<|Lw.val (Ad O) O ?_
  refine Bt 24 O ?_ ?_
  ·intro g
   refine Ai (dj:=24) O O O O<|Ai (dj:=24) O O O O<|Ai (dj:=24) O O O O<|Ai (dj:=24) O O O O<|Ai (dj:=24) O O O O<|Lw.val (As O O) O<|Af<|Aa<|Cw.out<|Br O<|Ae<|Ab<|Lw.val (Ac O) O<|Af<|Aa<|Cw.out<|An<|Ak<|Bk<|Ak<|Ak<|Bk<|Ak<|Bb O O ?_
   exact ⟨by rw [bad (.inl (of_decide_eq_true g))],Below.refl _ _⟩
  intro g
  have g3:=of_decide_eq_false g
  refine Lw.take (dj:=24) O O<|Lw.val (Ad O) O<|Lw.take (dj:=24) O O<|Lw.val (Ad O) O<|Lw.take (dj:=24) O O<|Lw.val (Ba st_23 O O (by assumption) _ O (by omega)) O ?_
  refine Lw.take (dj:=24) O O<|Lw.val (Bg (ag_3 _) O (by assumption) (by omega)) O ?_
  refine Lw.take (dj:=24) O O<|Lw.val (Cr O O) O<|Lw.val (Bd O O) O<|Af<|Aa<|Cw.out<|Au O ?_ ?_
  ·intro g
   refine Ae<|Ab<|Lw.val (Ac O) O<|Af<|Aa<|Cw.out<|An<|Ak<|Bk<|Ak<|Ak<|Bk<|Ak<|Bb O O ?_
   exact ⟨by rw [bad (.inr (of_decide_eq_true g))],Below.refl _ _⟩
  intro g
  have g4:=of_decide_eq_false g
  have hx:1≤s.getD i default∧s.getD i default≤64:=by omega
  have hg' :=good_take hi' hg hx
  have hp' :=prod_four hg' (by rw [List.length_take];omega)
  rw [prod_take hi'] at hp'
  refine Aq<|Aa<|Cw.out<|Ab<|Lw.val (Ad O) O<|Lw.val (Ad O) O<|Lw.val (Ad O) O<|Lw.val (Ba st_23 O O (by assumption) _ O (by omega)) O ?_
  refine Lw.val (Bg (ag_3 _) O (by assumption) (by omega)) O ?_
  refine Lw.val (Ca O O (by omega)) O<|Lw.val (Ac O) O<|Af<|Bo<|Aa<|Cw.out<|Ab<|Lw.val (Ad O) O<|Lw.val (Bc O O (by omega)) O<|Lw.val (Ac O) O<|Af ?_
  exact Aa (Bq (i+1) ⟨rfl,rfl,(by rw [prod_take hi'];rfl),rfl,trivial⟩ (⟨hi',hg',rfl⟩) (by omega))
 intro h
 have hi' :i=s.length:=by simp at h;omega
 subst hi'
 rw [List.take_length] at hg hp
 have e:decide (Shapes.prod (s.take s.length)≤4096)=Shapes.ok s:=by
  rw [List.take_length]
  cases hk:Shapes.ok s with
  |true=>exact decide_eq_true ((Shapes.ok_iff s).1 hk).2.2
  |false=>
   refine decide_eq_false fun h=> ?_
   have:=(Shapes.ok_iff s).2 ⟨hl,hg,h⟩
   rw [hk] at this;cases this
 refine Bi<|Am<|Am<|Az<|Aa<|Cw.out<|Ae<|Ab<|Lw.val (Ad O) O<|Lw.val (C8 O O) O<|Lw.val (Ac O) O<|Af<|Aa<|Cw.out<|An<|Bb O O ?_
 exact ⟨by rw [← e],Below.refl _ _⟩

theorem rsize_c (u:Value) (s:List Int) (w:World) (hu:SlT (Value.int .i64) w u s):Fnc Tryz.prog 147 [u] w (fun r w' =>r= .int .i64 (Shapes.size s)∧Below w.heap.size w w'):=by
 refine Ap (n:=21) Tryz.func147 (by kernel_rfl) O O O<|Ae<|Ab<|Lw.val (Ac O) O<|Af<|Aa<|Cw.out<|Ae<|Ae<|Ab<|Lw.val (Ad O) O<|Al O O (rcheck_c u s w hu) ?_
 rintro _ w1 ⟨rfl,hn⟩
 have hu:=hu.bs hn
 refine Lw.val (Bx O) O<|Af<|Aa<|Cw.out<|Au O ?_ ?_
 ·intro g
  refine Ae<|Ab<|Lw.val (Ac O) O<|Af<|Aa<|Cw.out<|An<|Ak<|Bb O O ?_
  exact ⟨by rw [Shapes.size_no (by simpa using g)],hn⟩
 intro g
 have hk:Shapes.ok s=true:=by simpa using g
 have h3:=(Shapes.ok_iff s).1 hk
 refine Aq<|Aa<|Cw.out<|Ae<|Ab<|Lw.val (Ac O) O<|Af<|Aa<|Cw.out<|Ae<|Ae<|Ab<|Lw.val (Ac O) O<|Af<|Aa<|Cw.out<|Cw.block ?_
 refine Bj (S:=Nat) (fun i=>[(0,u),(3, .int .i64 (Shapes.prod (s.take i))),(4, .int .i64 (i:Int))]) (fun i w' =>i≤s.length∧w' =w1) (fun i=>s.length - i) (0) ⟨rfl,rfl,rfl,trivial⟩ ?_ ?_
 ·exact ⟨by omega,rfl⟩
 rintro i w2 ⟨hi,rfl⟩
 refine Ae<|Ae<|Ab<|Lw.val (Ad O) O<|Lw.val (Ad O) O<|Lw.val (Av st_23 O (by assumption)) O ?_
 refine Lw.val (Bh O O) O<|Af<|Aa<|Cw.out<|Au O ?_ ?_
 ·intro h
  have hi' :i<s.length:=by simp at h;omega
  have hp' :=prod_four (s:=s.take (i+1)) (fun x hx=>h3.2.1 x (List.mem_of_mem_take hx)) (by rw [List.length_take];omega)
  rw [prod_take hi'] at hp'
  refine Aq<|Aa<|Cw.out<|Ae<|Cw.block<|Ab<|Lw.val (Ad O) O<|Lw.val (Ad O) O<|Lw.val (Ad O) O<|Lw.val (Ba st_23 O O (by assumption) _ O (by omega)) O ?_
  refine Lw.val (Bg (ag_3 _) O (by assumption) (by omega)) O ?_
  refine Lw.val (Ca O O (by omega)) O<|Lw.val (Ac O) O<|Af<|Bo<|Aa<|Cw.out<|Ab<|Lw.val (Ad O) O<|Lw.val (Bc O O (by omega)) O<|Lw.val (Ac O) O<|Af ?_
  exact Aa (Bq (i+1) ⟨rfl,(by rw [prod_take hi'];rfl),rfl,trivial⟩ (⟨hi',rfl⟩) (by omega))
 intro h
 have hi' :i=s.length:=by simp at h;omega
 subst hi'
 refine Bi<|Am<|Am<|Az<|Aa<|Cw.out<|Ae<|Ab<|Lw.val (Ad O) O<|Lw.val (Ac O) O<|Af<|Aa<|Cw.out<|An<|Bb O O ?_
 exact ⟨by rw [List.take_length,Shapes.size_ok hk],hn⟩

theorem rsame4_c (u v:Value) (a b:List Int) (w:World) (hu:SlT (Value.int .i64) w u a) (hv:SlT (Value.int .i64) w v b):Fnc Tryz.prog 229 [u,v] w (fun r w' =>r= .bool (decide (a=b))∧Below w.heap.size w w'):=by
 have hle:=hu.le
 refine Ap (n:=26) Tryz.func229 (by kernel_rfl) O O O<|Ae<|Ab<|Lw.val (Ac O) O<|Af<|Aa<|Cw.out<|Ae<|Ae<|Ab<|Lw.val (Ad O) O<|Lw.val (Av st_23 O (by assumption)) O ?_
 refine Lw.val (Ad O) O<|Lw.val (Av st_23 O (by assumption)) O ?_
 refine Lw.val (B7 O O) O<|Af<|Aa<|Cw.out<|Au O ?_ ?_
 ·intro h
  have hne:a≠b:=fun e=>by subst e;simp at h
  refine Ae<|Ab<|Lw.val (Ac O) O<|Af<|Aa<|Cw.out<|An<|Ak<|Bb O O ?_
  exact ⟨by rw [decide_eq_false hne],Below.refl _ _⟩
 intro h
 have hl:a.length=b.length:=by simp at h;omega
 refine Aq<|Aa<|Cw.out<|Ae<|Ae<|Ab<|Lw.val (Ac O) O<|Af<|Aa<|Cw.out<|Cw.block ?_
 refine Bj (S:=Nat) (fun i=>[(0,u),(1,v),(4, .bool false),(5, .int .i64 (i:Int))]) (fun i w' =>i≤a.length∧a.take i=b.take i∧Below w.heap.size w w') (fun i=>a.length - i) (0) ⟨rfl,rfl,rfl,rfl,trivial⟩ ?_ ?_
 ·exact ⟨by omega,by simp,Below.refl _ _⟩
 rintro i w1 ⟨hi,ht,hB1⟩
 have hu1:=hu.bs hB1
 have hv1:=hv.bs hB1
 refine Ae<|Ae<|Ab<|Lw.val (Ad O) O<|Lw.val (Ad O) O<|Lw.val (Av st_23 O (by assumption)) O ?_
 refine Lw.val (Bh O O) O<|Af<|Aa<|Cw.out<|Au O ?_ ?_
 ·intro h
  have hi' :i<a.length:=by simp at h;omega
  have hib:i<b.length:=by omega
  refine Aq<|Aa<|Cw.out<|Ae<|Cw.block<|Ae<|B5 mixed (by kernel_rfl)<|Qw.val (fun w1 hq=>Ad O) O<|Qw.val (fun w1 hq=>Ad O) O<|Qw.val (fun w1 hq=>Ba st_23 O O (Sl.bs (by assumption) hq) _ O (by omega)) O ?_
  refine Qw.val (fun w1 hq=>Bg (ag_3 _) O (Sl.bs (by assumption) hq) (by omega)) O ?_
  refine Qw.val (fun w1 hq=>Ad O) O<|Qw.val (fun w1 hq=>Ad O) O<|Qw.val (fun w1 hq=>Ba st_23 O O (Sl.bs (by assumption) hq) _ O (by omega)) O ?_
  refine Qw.val (fun w1 hq=>Bg (ag_3 _) O (Sl.bs (by assumption) hq) (by omega)) O ?_
  refine Qw.val (fun w1 hq=>B7 O O) O ?_
  refine B3 (fun w2 hq=> ?_)
  refine Aa<|Cw.out ?_
  have hB2:=bt hB1 hq
  refine Au O ?_ ?_
  ·intro g
   have g' :a.getD i default≠b.getD i default:=by simpa using g
   refine Ae<|Ab<|Lw.val (Ac O) O<|Af<|Aa<|Cw.out<|An<|Bk<|Ak<|Ak<|Bk<|Ak<|Bb O O ?_
   exact ⟨by rw [decide_eq_false (fun e=>g' (by rw [e]))],hB2⟩
  ·intro g
   have g' :a.getD i default=b.getD i default:=by simpa using g
   have gg:a[i]=b[i]:=by simpa [hi',hib] using g'
   refine Aq<|Bo<|Aa<|Cw.out<|Ab<|Lw.val (Ad O) O<|Lw.val (Bc O O (by omega)) O<|Lw.val (Ac O) O<|Af ?_
   exact Aa (Bq (i+1) ⟨rfl,rfl,rfl,rfl,trivial⟩ (⟨hi',by rw [List.take_succ_eq_append_getElem hi',List.take_succ_eq_append_getElem hib,ht,gg],hB2⟩) (by omega))
 ·intro h
  have hi' :i=a.length:=by simp at h;omega
  subst hi'
  refine Bi<|Am<|Am<|Az<|Aa<|Cw.out<|Ae<|Ab<|Lw.val (Ac O) O<|Af<|Aa<|Cw.out<|An<|Bb O O ?_
  exact ⟨by rw [decide_eq_true (by rw [List.take_length,hl,List.take_length] at ht;exact ht)],hB1⟩

theorem index_no {s t:List Int} (h:Shapes.ok s=false∨Shapes.inn s t=false):Shapes.index s t=(0,1):=by
 unfold Shapes.index
 rw [if_neg]
 rcases h with h|h<;>simp [h]
theorem index_yes {s t:List Int} (h1:Shapes.ok s=true) (h2:Shapes.inn s t=true):Shapes.index s t=(Shapes.idx s t,0):=by
 unfold Shapes.index
 rw [h1,h2]
 rfl
/-- One direction more. -/
theorem hor {s t:List Int} {n:Int} {i:Nat} (h1:i<s.length) (h2:t.length=s.length) (h:n*Shapes.prod (s.drop i)+Shapes.idx (s.drop i) (t.drop i)=Shapes.idx s t):
  (n*s.getD i default+t.getD i default)*Shapes.prod (s.drop (i+1))+Shapes.idx (s.drop (i+1)) (t.drop (i+1))=Shapes.idx s t:=by
 rw [Shapes.prod_drop h1,Shapes.idx_drop h1 h2] at h
 rw [← h,Int.add_mul,Int.mul_assoc,Int.add_assoc]
theorem hor_lt {s:List Int} {n a:Int} {i:Nat} (h1:i<s.length) (hn:0≤n∧n<Shapes.prod (s.take i)) (ha:0≤a∧a<s.getD i default):0≤n*s.getD i default∧0≤n*s.getD i default+a∧n*s.getD i default+a<Shapes.prod (s.take (i+1)):=by
 have h2:=Int.mul_nonneg hn.1 (show 0≤s.getD i default by omega)
 have h3:=Int.mul_le_mul_of_nonneg_right (show n+1≤Shapes.prod (s.take i) by omega) (show 0≤s.getD i default by omega)
 rw [Int.add_mul] at h3
 rw [prod_take h1]
 omega
theorem rindex_c (s t:List Int) (u v:Value) (W:World) (hu:SlT (Value.int .i64) W u s) (hv:SlT (Value.int .i64) W v t):
  Fnc Tryz.prog 150 [u,v] W (fun r w' =>r= .tuple #[.int .i64 (Shapes.index s t).1, .int .i64 (Shapes.index s t).2]∧Below W.heap.size W w'):=by
 have hB:=Below.refl W.heap.size W
 refine Ap (n:=52) Tryz.func150 (by kernel_rfl) O O O<|Ae<|Ab<|Lw.val (Ac O) O<|Lw.val (Ac O) O<|Af<|Aa<|Cw.out<|Ae<|Ae<|Ab<|Lw.val (Ad O) O<|Al O O (rcheck_c u s _ hu) ?_
 rintro _ w ⟨rfl,hn⟩
 replace hB:=hB.bs hn
 replace hu:=hu.bs hn
 replace hv:=hv.bs hn
 clear hn
 refine Lw.val (Bx O) O<|Lw.val (Ad O) O ?_
 refine Bt 11 O ?_ ?_
 ·intro g
  have e:=index_no (s:=s) (t:=t) (.inl (by simpa using g))
  refine Ai (dj:=11) O O O O<|Ai (dj:=11) O O O O<|Ai (dj:=11) O O O O<|Ai (dj:=11) O O O O<|Ai (dj:=11) O O O O<|Lw.val (As O O) O<|Af<|Aa<|Cw.out<|Br O<|Ae<|Ab<|Lw.val (Ac O) O<|Lw.val (Ac O) O<|Af<|Aa<|Cw.out<|An<|Ak<|Bu O O O ?_
  exact ⟨by rw [e],hB⟩
 intro g
 have ks:Shapes.ok s=true:=by simpa using g
 refine Lw.take (dj:=11) O O<|Lw.val (Ad O) O<|Lw.take (dj:=11) O O<|Lw.val (Av st_23 O (by assumption)) O ?_
 refine Lw.take (dj:=11) O O<|Lw.val (Ad O) O<|Lw.take (dj:=11) O O<|Lw.val (Av st_23 O (by assumption)) O ?_
 refine Lw.take (dj:=11) O O<|Lw.val (B7 O O) O<|Lw.val (Bd O O) O<|Af<|Aa<|Cw.out<|Au O ?_ ?_
 ·intro g
  have e:=index_no (s:=s) (t:=t) (.inr (by
   cases h:Shapes.inn s t with
   |false=>rfl
   |true=>have:=Shapes.inn_length h;simp [this] at g))
  refine Ae<|Ab<|Lw.val (Ac O) O<|Lw.val (Ac O) O<|Af<|Aa<|Cw.out<|An<|Ak<|Bu O O O ?_
  exact ⟨by rw [e],hB⟩
 intro g
 have hl:t.length=s.length:=by simp at g;omega
 have hok:=(Shapes.ok_iff s).1 ks
 have hle:=hu.le
 refine Aq<|Aa<|Cw.out<|Ae<|Ab<|Lw.val (Ac O) O<|Af<|Aa<|Cw.out<|Ae<|Ae<|Ab<|Lw.val (Ac O) O<|Af<|Aa<|Cw.out<|Cw.block ?_
 refine Bj (S:=(Nat×Int)) (fun z=>[(0,u),(1,v),(4, .int .i64 0),(5, .int .i64 0),(6, .int .i64 z.2),(7, .int .i64 (z.1:Int))]) (fun z w' =>z.1≤s.length∧(0≤z.2∧z.2<Shapes.prod (s.take z.1))∧z.2*Shapes.prod (s.drop z.1)+Shapes.idx (s.drop z.1) (t.drop z.1)=Shapes.idx s t∧Shapes.inn (s.drop z.1) (t.drop z.1)=Shapes.inn s t∧Below w.heap.size w w') (fun z=>s.length - z.1) ((0,0)) ⟨rfl,rfl,rfl,rfl,rfl,rfl,trivial⟩ ?_ ?_
 ·exact ⟨by simp,by simp [Shapes.prod],by simp,by simp,Below.refl _ _⟩
 rintro ⟨i,n⟩ w1 ⟨hi,hn,hx,hj,hw⟩
 dsimp only at hi hn hx hj ⊢
 have hu1:=hu.bs hw
 have hv1:=hv.bs hw
 refine Ae<|Ae<|Ab<|Lw.val (Ad O) O<|Lw.val (Ad O) O<|Lw.val (Av st_23 O (by assumption)) O ?_
 refine Lw.val (Bh O O) O<|Af<|Aa<|Cw.out<|Au O ?_ ?_
 ·intro h
  have hi' :i<s.length:=by simp at h;omega
  have hit:i<t.length:=by omega
  have hid:=Shapes.inn_drop hi' hl
  rw [hj] at hid
  refine Aq<|Aa<|Cw.out<|Ae<|Cw.block<|Ae<|Ae<|B5 mixed (by kernel_rfl)<|Qw.val (fun w1 hq=>Ad O) O<|Qw.val (fun w1 hq=>Ad O) O<|Qw.val (fun w1 hq=>Ba st_23 O O (Sl.bs (by assumption) hq) _ O (by omega)) O ?_
  refine Qw.val (fun w1 hq=>Bg (ag_3 _) O (Sl.bs (by assumption) hq) (by omega)) O ?_
  refine Qw.val (fun w1 hq=>Bh O O) O<|Qw.val (fun w1 hq=>Ad O) O ?_
  refine Cl 29 O ?_ ?_
  ·intro g
   have g' :=of_decide_eq_true g
   have e:=index_no (s:=s) (t:=t) (.inr (by rw [hid,decide_eq_false (show ¬0≤t.getD i default by omega)];rfl))
   refine Ao (dj:=29) O O O O<|Ao (dj:=29) O O O O<|Ao (dj:=29) O O O O<|Ao (dj:=29) O O O O<|Ao (dj:=29) O O O O<|Ao (dj:=29) O O O O<|Ao (dj:=29) O O O O<|Ao (dj:=29) O O O O<|Ao (dj:=29) O O O O<|Qw.val (fun w1 hq=>As O O) O ?_
   refine B3 (fun w2 hq=> ?_)
   refine Aa<|Cw.out<|Br O<|Ae<|Ab<|Lw.val (Ac O) O<|Lw.val (Ac O) O<|Af<|Aa<|Cw.out<|An<|Ak<|Bk<|Ak<|Ak<|Bk<|Ak<|Bu O O O ?_
   exact ⟨by rw [e],bt hB (bt hw hq)⟩
  intro g
  have g1:=of_decide_eq_false g
  refine Qw.take (dj:=29) O O<|Qw.val (fun w1 hq=>Ad O) O<|Qw.take (dj:=29) O O<|Qw.val (fun w1 hq=>Ad O) O<|Qw.take (dj:=29) O O<|Qw.val (fun w1 hq=>Ba st_23 O O (Sl.bs (by assumption) hq) _ O (by omega)) O ?_
  refine Qw.take (dj:=29) O O<|Qw.val (fun w1 hq=>Bg (ag_3 _) O (Sl.bs (by assumption) hq) (by omega)) O ?_
  refine Qw.take (dj:=29) O O<|Qw.val (fun w1 hq=>Ad O) O<|Qw.take (dj:=29) O O<|Qw.val (fun w1 hq=>Ad O) O<|Qw.take (dj:=29) O O<|Qw.val (fun w1 hq=>Ba st_23 O O (Sl.bs (by assumption) hq) _ O (by omega)) O ?_
  refine Qw.take (dj:=29) O O<|Qw.val (fun w1 hq=>Bg (ag_3 _) O (Sl.bs (by assumption) hq) (by omega)) O ?_
  refine Qw.take (dj:=29) O O<|Qw.val (fun w1 hq=>Cu O O) O<|Qw.val (fun w1 hq=>Bd O O) O ?_
  refine B3 (fun w2 hq=> ?_)
  refine Aa<|Cw.out ?_
  have hw2:=bt hw hq
  refine Au O ?_ ?_
  ·intro g
   have g' :=of_decide_eq_true g
   have e:=index_no (s:=s) (t:=t) (.inr (by rw [hid,decide_eq_false (show ¬t.getD i default<s.getD i default by omega),Bool.and_false];rfl))
   refine Ae<|Ab<|Lw.val (Ac O) O<|Lw.val (Ac O) O<|Af<|Aa<|Cw.out<|An<|Ak<|Bk<|Ak<|Ak<|Bk<|Ak<|Bu O O O ?_
   exact ⟨by rw [e],bt hB hw2⟩
  intro g
  have g2:=of_decide_eq_false g
  have hlt:=hor_lt hi' hn (a:=t.getD i default) (by omega)
  have hp4:=prod_four (s:=s.take (i+1)) (fun x hx=>hok.2.1 x (List.mem_of_mem_take hx)) (by rw [List.length_take];omega)
  have hu2:=hu.bs hw2
  have hv2:=hv.bs hw2
  have hid' :Shapes.inn (s.drop (i+1)) (t.drop (i+1))=Shapes.inn s t:=by
   rw [hid,decide_eq_true (show 0≤t.getD i default by omega),decide_eq_true (show t.getD i default<s.getD i default by omega)];rfl
  clear hq
  refine Aq<|Aa<|Cw.out<|B5 mixed (by kernel_rfl)<|Qw.val (fun w1 hq=>Ad O) O<|Qw.val (fun w1 hq=>Ad O) O<|Qw.val (fun w1 hq=>Ad O) O<|Qw.val (fun w1 hq=>Ba st_23 O O (Sl.bs (by assumption) hq) _ O (by omega)) O ?_
  refine Qw.val (fun w1 hq=>Bg (ag_3 _) O (Sl.bs (by assumption) hq) (by omega)) O ?_
  refine Qw.val (fun w1 hq=>Ca O O (by omega)) O<|Qw.val (fun w1 hq=>Ad O) O<|Qw.val (fun w1 hq=>Ad O) O<|Qw.val (fun w1 hq=>Ba st_23 O O (Sl.bs (by assumption) hq) _ O (by omega)) O ?_
  refine Qw.val (fun w1 hq=>Bg (ag_3 _) O (Sl.bs (by assumption) hq) (by omega)) O ?_
  refine Qw.val (fun w1 hq=>Bc O O (by omega)) O<|Qw.val (fun w1 hq=>Ac O) O ?_
  refine B3 (fun w3 hq=> ?_)
  refine Bo<|Aa<|Cw.out<|Ab<|Lw.val (Ad O) O<|Lw.val (Bc O O (by omega)) O<|Lw.val (Ac O) O<|Af ?_
  exact Aa (Bq ((i+1,n*s.getD i default+t.getD i default)) ⟨rfl,rfl,rfl,rfl,rfl,rfl,trivial⟩ (⟨hi',⟨hlt.2.1,hlt.2.2⟩,hor hi' hl hx,hid',bt hw2 hq⟩) (by simp only;omega))
 intro h
 have hi' :i=s.length:=by simp at h;omega
 subst hi'
 have e:=index_yes ks (by rw [← hj,List.drop_length,← hl,List.drop_length];rfl)
 have e2:n=Shapes.idx s t:=by
  rw [← hx,List.drop_length]
  simp [Shapes.prod,Shapes.idx]
 refine Bi<|Am<|Am<|Az<|Aa<|Cw.out<|Ae<|Ab<|Lw.val (Ad O) O<|Lw.val (Ac O) O<|Lw.val (Ac O) O<|Af<|Aa<|Cw.out<|An<|Bu O O O ?_
 exact ⟨by rw [e,e2],bt hB hw⟩

theorem bk_set {f l:List Int} {m:Nat} (hf:f.length=l.length) (h:m<l.length):(f.take (m+1)++l.drop (m+1)).set m (l.getD m default)=f.take m++l.drop m:=by
 apply List.ext_getElem (by simp;omega)
 intro j h1 h2
 have h3:(f.take m).length=m:=by simp;omega
 have h4:(f.take (m+1)).length=m+1:=by simp;omega
 rw [List.getElem_set]
 split
 ·rename_i e
  subst e
  rw [List.getElem_append_right (by omega)]
  simp [h3,h]
 ·rename_i e
  by_cases h5:j<m
  ·rw [List.getElem_append_left (by omega),List.getElem_append_left (by omega)]
   simp
  ·rw [List.getElem_append_right (by omega),List.getElem_append_right (by omega)]
   simp only [List.getElem_drop,h3,h4]
   congr 1
   omega
theorem rat_o (s:List Int) (u:Value) (i:Int) (W:World) (hu:SlT (Value.int .i64) W u s):
  Fnc Tryz.prog 149 [u, .int .i64 i] W (fun r w' =>Below W.heap.size W w' ∧∃x,r= .tuple #[x, .int .i64 (Shapes.ate s i)]∧w'.ownsRow W.heap.size 3 1 x (Shapes.atl s i).length ((Shapes.atl s i).map (Value.int .i64))):=by
 have hB:=Below.refl W.heap.size W
 have hsz:=Shapes.size_le s
 refine Ap (n:=47) Tryz.func149 (by kernel_rfl) O O O<|Ae<|Ab<|Lw.val (Ac O) O<|Lw.val (Ac O) O<|Af<|Aa<|Cw.out<|Ae<|Ae<|Ab<|Lw.val (Ad O) O<|Al O O (rcheck_c u s _ hu) ?_
 rintro _ w ⟨rfl,hn⟩
 replace hB:=hB.bs hn
 replace hu:=hu.bs hn
 clear hn
 refine Lw.val (Bx O) O<|Lw.val (Ad O) O ?_
 refine Bt 11 O ?_ ?_
 ·intro g
  have e:¬(0≤i∧i<Shapes.size s):=by rw [Shapes.size_no (by simpa using g)];omega
  refine Ai (dj:=11) O O O O<|Ai (dj:=11) O O O O<|Lw.val (As O O) O<|Lw.val (Ad O) O<|Ai (dj:=15) O O O O<|Ai (dj:=15) O O O O<|Ai (dj:=15) O O O O<|Ai (dj:=15) O O O O<|Lw.val (As O O) O<|Af<|Aa<|Cw.out<|Br O<|Ae<|Ab<|Lw.val (Ac O) O<|Lw.val (Ac O) O<|Af<|Aa<|Cw.out<|An<|Ak<|Bu O O O ?_
  exact ⟨hB,_,by rw [Shapes.ate,if_neg e],by rw [Shapes.atl,if_neg e];exact ⟨rfl, .inl ⟨rfl,rfl⟩⟩⟩
 intro g
 have ks:Shapes.ok s=true:=by simpa using g
 refine Lw.take (dj:=11) O O<|Lw.val (Ad O) O<|Lw.take (dj:=11) O O<|Lw.val (Bh O O) O<|Lw.val (Bd O O) O<|Lw.val (Ad O) O ?_
 refine Bt 15 O ?_ ?_
 ·intro g
  have e:¬(0≤i∧i<Shapes.size s):=by have:=of_decide_eq_true g;omega
  refine Ai (dj:=15) O O O O<|Ai (dj:=15) O O O O<|Ai (dj:=15) O O O O<|Ai (dj:=15) O O O O<|Lw.val (As O O) O<|Af<|Aa<|Cw.out<|Br O<|Ae<|Ab<|Lw.val (Ac O) O<|Lw.val (Ac O) O<|Af<|Aa<|Cw.out<|An<|Ak<|Bu O O O ?_
  exact ⟨hB,_,by rw [Shapes.ate,if_neg e],by rw [Shapes.atl,if_neg e];exact ⟨rfl, .inl ⟨rfl,rfl⟩⟩⟩
 intro g
 have g1:=of_decide_eq_false g
 refine Lw.take (dj:=15) O O<|Lw.val (Ad O) O<|Lw.take (dj:=15) O O<|Lw.val (Ad O) O<|Lw.take (dj:=15) O O<|Al O O (rsize_c u s _ hu) ?_
 rintro _ w ⟨rfl,hn⟩
 replace hB:=hB.bs hn
 replace hu:=hu.bs hn
 clear hn
 refine Lw.take (dj:=15) O O<|Lw.val (Cu O O) O<|Lw.val (Bd O O) O<|Af<|Aa<|Cw.out<|Au O ?_ ?_
 ·intro g
  have e:¬(0≤i∧i<Shapes.size s):=by have:=of_decide_eq_true g;omega
  refine Ae<|Ab<|Lw.val (Ac O) O<|Lw.val (Ac O) O<|Af<|Aa<|Cw.out<|An<|Ak<|Bu O O O ?_
  exact ⟨hB,_,by rw [Shapes.ate,if_neg e],by rw [Shapes.atl,if_neg e];exact ⟨rfl, .inl ⟨rfl,rfl⟩⟩⟩
 intro g
 have e:0≤i∧i<Shapes.size s:=by have:=of_decide_eq_false g;omega
 have hok:=(Shapes.ok_iff s).1 ks
 refine Aq<|Aa<|Cw.out<|Ae<|Ab<|Lw.val (Ad O) O<|Lw.val (Av st_23 O (by assumption)) O ?_
 refine Bl (C2 st_23 it_3 O O O (Nat.le_refl _) (by omega) (by omega)) O ?_
 rintro x w1 ⟨ho,hx,hn, -⟩
 obtain ⟨pl,hpl⟩:∃pl,pl=Shapes.place s i:=⟨_,rfl⟩
 obtain ⟨f,hf⟩:∃f,f=List.replicate s.length (0:Int):=⟨_,rfl⟩
 have lp:pl.length=s.length:=by rw [hpl,Shapes.place_length]
 have lf:f.length=pl.length:=by rw [hf,List.length_replicate,lp]
 have hfl:(List.replicate s.length [Value.int .i64 0]).flatten=f.map (Value.int .i64):=by
  rw [hf]
  generalize s.length=k
  induction k with
  |zero=>rfl
  |succ k ih=>simp [List.replicate_succ]
 rw [hfl] at ho
 have e1:i / Shapes.prod (s.drop s.length)=i:=by rw [List.drop_length];simp [Shapes.prod]
 have hu1:=hu.bs hn
 refine Lw.val (Ac O) O<|Af<|Aa<|Cw.out<|Ae<|Ae<|Ab<|Lw.val (Ad O) O<|Lw.val (Av st_23 O (by assumption)) O ?_
 refine Lw.val (Cx O O (by omega)) O<|Lw.val (Ac O) O<|Af<|Aa<|Cw.out<|Cw.block<|C3 1 (v' := .int .i64 (i / Shapes.prod (s.drop s.length))) O (by rw [e1]) ?_
 refine Bj (S:=Nat) (fun m=>[(0,u),(1, .int .i64 (i / Shapes.prod (s.drop m))),(4, .slice none 0 0),(5, .int .i64 0),(6,x),(7, .int .i64 ((m:Int) - 1))]) (fun m w' =>m≤s.length∧w'.ownsRow w.heap.size 3 1 x s.length ((f.take m++pl.drop m).map (Value.int .i64))∧Below w.heap.size w w') (fun m=>m) (s.length) ⟨rfl,rfl,rfl,rfl,rfl,rfl,trivial⟩ ?_ ?_
 ·exact ⟨Nat.le_refl _,by rw [← lp,List.drop_length,List.append_nil,← lf,List.take_length,lf,lp];exact ho,hn⟩
 clear ho
 rintro m w2 ⟨hm,ho2,hw⟩
 have hu2:=hu.bs hw
 have hx2:=own_sl ho2
 refine Ae<|Ae<|Ab<|Lw.val (Ad O) O<|Lw.val (Cu O O) O<|Af<|Aa<|Cw.out<|Au O ?_ ?_
 ·intro h
  obtain ⟨q,rfl⟩:∃q,m=q+1:=⟨m - 1,by simp at h;omega⟩
  have hq' :q<s.length:=by omega
  have hgd:=hok.2.1 s[q] (List.getElem_mem hq')
  have hgq:s.getD q default=s[q]:=by simp [hq']
  have hpr:=Shapes.ok_prod ks (q+1)
  have hdn:=Int.ediv_nonneg e.1 (show 0≤Shapes.prod (s.drop (q+1)) by omega)
  have hdl:=Int.ediv_le_self (Shapes.prod (s.drop (q+1))) e.1
  have hpl2:=Shapes.place_at (i:=i) hq'
  rw [← hpl] at hpl2
  have hset:=bk_set lf (show q<pl.length by omega)
  have hdd:i / Shapes.prod (s.drop (q+1)) / s.getD q default=i / Shapes.prod (s.drop q):=by rw [Shapes.prod_drop hq',Int.ediv_ediv_of_nonneg (by omega),Int.mul_comm]
  refine Aq<|Aa<|Cw.out<|Ae<|Cw.block<|Ae<|Ab<|Lw.val (Ad O) O<|Lw.val (Ad O) O<|Lw.val (Ad O) O<|Lw.val (Ad O) O<|Lw.val (Ad O) O<|Lw.val (Cm st_23 O O hu2.shp q (by omega) hq') O<|Lw.val (Bg (ag_3 _) O (by assumption) (by omega)) O ?_
  refine Lw.val ((Ex.remI O O hdn (by omega)).as (congrArg (Value.int .i64) hpl2.symm)) O<|Lw.val (Cm st_23 O O hx2.shp q (by omega) hq') O<|Ay (Cv (sz_3 _) O O O ho2 (by simp;omega)) ?_
  rintro w3 ⟨ho3,hg3, -⟩
  rw [← List.map_set,hset] at ho3
  have hw3:Below w.heap.size w w3:=hw.grown hg3 (below_size hw) (fun b e=>(own_block ho2 b e).1)
  have hu3:=hu.bs hw3
  refine Af<|Aa<|Cw.out<|Ab<|Lw.val (Ad O) O<|Lw.val (Ad O) O<|Lw.val (Ad O) O<|Lw.val (Cm st_23 O O hu3.shp q (by omega) hq') O<|Lw.val (Bg (ag_3 _) O (by assumption) (by omega)) O ?_
  refine Lw.val ((Ct O O (by omega) (by omega)).as (congrArg (Value.int .i64) hdd)) O<|Lw.val (Ac O) O<|Af<|Bo<|Aa<|Cw.out<|Ab<|Lw.val (Ad O) O<|Lw.val (Cx O O (by omega)) O<|Lw.val (Ac O) O<|Af ?_
  exact Aa (Bq (q) ⟨rfl,rfl,rfl,rfl,rfl,(congrArg (fun z=>some (Value.int .i64 z)) (by omega)),trivial⟩ (⟨by omega,ho3,hw3⟩) (by omega))
 intro h
 have hm' :m=0:=by simp at h;omega
 subst hm'
 rw [List.take_zero,List.nil_append,List.drop_zero,hpl] at ho2
 refine Bi<|Am<|Am<|Az<|Aa<|Cw.out<|Ae<|Ab<|Lw.val (Ad O) O<|Lw.val (Ac O) O<|Lw.val (Ac O) O<|Af<|Aa<|Cw.out<|An<|Bu O O O ?_
 exact ⟨bt hB hw,x,by rw [Shapes.ate,if_pos e],by rw [Shapes.atl,if_pos e];have:=own_mono ho2 (below_size hB);rwa [← Shapes.place_length s i] at this⟩
theorem rat_c (s:List Int) (u:Value) (i:Int) (W:World) (hu:SlT (Value.int .i64) W u s):
  Fnc Tryz.prog 149 [u, .int .i64 i] W (fun r w' =>Below W.heap.size W w' ∧∃x,r= .tuple #[x, .int .i64 (Shapes.ate s i)]∧SlT (Value.int .i64) w' x (Shapes.atl s i)):=
 (rat_o s u i W hu).mono fun _ _ ⟨h1,x,h2,h3⟩=>⟨h1,x,h2,own_slT h3⟩
end Go.Proofs.YtmipoeanpnnjoaaGreatDoor

/-! Contracts: the document's answers on tensors. -/
namespace Go.Proofs.YtmipoeanpnnjoaaGreatDoor
open Go Go.Dd Go.RowKit
set_option maxRecDepth 100000

theorem rep_zero (n:Nat):(List.replicate n [Value.int .i32 0]).flatten=(List.replicate n 0#32).map i32:=by
 induction n with
 |zero=>rfl
 |succ n ih=>simp [List.replicate_succ,i32]
theorem rtcheck_c (x y:Value) (s:List Int) (l:List (BitVec 32)) (w:World) (hx:SlT (Value.int .i64) w x s) (hy:SlT i32 w y l):
  Fnc Tryz.prog 141 [.agg #[x,y]] w (fun r w' =>r= .bool (tok s l)∧Below w.heap.size w w'):=by
 refine Ap (n:=15) Tryz.func141 (by kernel_rfl) O O O<|Ae<|Ab<|Bl (Xw.box (cs:=[x,y]) O O) O ?_
 rintro _ w1 ⟨rfl,hb,hB1,hs1⟩
 have hx1:=hx.bs hB1
 have hy1:=hy.bs hB1
 refine Lw.val (Ac O) O<|Af<|Aa<|Cw.out<|Ae<|B5 mixed (by kernel_rfl)<|Qw.val (fun w1 hq=>Ag (q:=0) Tryz.underlying33 O (sz_23 _) O) O<|Qw.val (fun w1 hq=>Aj (ag_23 _) O (Blk.bs (by assumption) hq) O) O ?_
 refine B9 O O (fun w1 hq=>(rcheck_c x s w1 (hx1.bs hq)).q hq)<|Qw.val (fun w1 hq=>Ad O) O ?_
 refine Cl 6 O ?_ ?_
 ·intro g
  refine Qw.take (dj:=6) O O<|Qw.val (fun w1 hq=>Ag (q:=0) Tryz.underlying33 O (sz_31 _) O) O<|Qw.take (dj:=6) O O<|Qw.val (fun w1 hq=>Aj (ag_31 _) O (Blk.bs (by assumption) hq) O) O ?_
  refine Qw.take (dj:=6) O O<|Qw.val (fun w1 hq=>Av st_31 O (Sl.bs (by assumption) hq)) O ?_
  refine Qw.take (dj:=6) O O<|Qw.val (fun w1 hq=>Ag (q:=0) Tryz.underlying33 O (sz_23 _) O) O<|Qw.take (dj:=6) O O<|Qw.val (fun w1 hq=>Aj (ag_23 _) O (Blk.bs (by assumption) hq) O) O ?_
  refine Qw.take (dj:=6) O O<|B9 O O (fun w1 hq=>(rsize_c x s w1 (hx1.bs hq)).q hq)<|Qw.take (dj:=6) O O<|Qw.val (fun w1 hq=>Cn O O) O<|Qw.val (fun w1 hq=>As O O) O<|Qw.val (fun w1 hq=>Ac O) O ?_
  refine B3 (fun w2 hq=> ?_)
  refine Aa<|Cw.out<|An<|Bb O O ?_
  exact ⟨congrArg Value.bool (by unfold tok;rw [g];rfl),bt hB1 hq⟩
 ·intro g
  refine Ao (dj:=6) O O O O<|Ao (dj:=6) O O O O<|Ao (dj:=6) O O O O<|Ao (dj:=6) O O O O<|Ao (dj:=6) O O O O<|Ao (dj:=6) O O O O<|Ao (dj:=6) O O O O<|Qw.val (fun w1 hq=>Bd O O) O<|Qw.val (fun w1 hq=>Ac O) O ?_
  refine B3 (fun w2 hq=> ?_)
  refine Aa<|Cw.out<|An<|Bb O O ?_
  exact ⟨congrArg Value.bool (by unfold tok;rw [g];rfl),bt hB1 hq⟩

theorem rnew_c (u:Value) (s:List Int) (W:World) (hu:SlT (Value.int .i64) W u s):
  Fnc Tryz.prog 140 [u] W (fun r w' =>Below W.heap.size W w' ∧((Shapes.ok s=true∧∃x y,r= .tuple #[.agg #[x,y], .int .i64 0]∧Made1 W w' x y s (List.replicate (Shapes.size s).toNat 0#32))∨(Shapes.ok s=false∧r= .tuple #[.agg #[.slice none 0 0, .slice none 0 0], .int .i64 1]))):=by
 have hB:=Below.refl W.heap.size W
 have hsz:=Shapes.size_le s
 refine Ap (n:=14) Tryz.func140 (by kernel_rfl) O O O<|Ae<|Ab<|B8 it_33 O ?_
 rintro A_r w eA_r b_r hn -
 replace hB:=hB.bs hn
 replace hu:=hu.bs hn
 clear hn
 refine Lw.val (Ac O) O<|Af<|Aa<|Cw.out<|Ae<|Ae<|Ab<|Lw.val (Ad O) O<|Al O O (rcheck_c u s _ hu) ?_
 rintro _ w ⟨rfl,hn⟩
 replace hB:=hB.bs hn
 replace hu:=hu.bs hn
 replace b_r:=b_r.bs hn
 clear hn
 refine Lw.val (Bx O) O<|Af<|Aa<|Cw.out ?_
 have z:=below_size hB
 refine Au O ?_ ?_
 ·intro h
  have hno:Shapes.ok s=false:=by simpa using h
  refine Ae<|Ab<|Lw.val (Bn (vs:=[]) (cs:=[.slice none 0 0, .slice none 0 0]) O (by kernel_rfl)) O<|Ay (Bp (cs:=[.slice none 0 0, .slice none 0 0]) O O O O O b_r O) ?_
  rintro w3 ⟨b_r,hg, -⟩
  have hB:=hB.grown hg (below_size hB) (by rintro _ ⟨⟩;omega)
  refine Lw.val (Ac O) O<|Af<|Aa<|Cw.out<|An<|Ak<|Bf O O O (by assumption) (Tryz.underlying33) O O O ?_
  exact ⟨hB, .inr ⟨hno,rfl⟩⟩
 intro h
 have hok:Shapes.ok s=true:=by simpa using h
 have hgd:=(Shapes.ok_iff s).1 hok
 refine Aq<|Aa<|Cw.out<|Ae<|Ab<|Lw.val (Ad O) O<|Bl (C4 (base:=w.heap.size) (k:=0) (xs:=[]) st_23 it_3 O (by decide) O O ⟨rfl, .inl ⟨rfl,rfl⟩⟩ hu (one_map (fun _=>rfl) _) (by omega) (by omega) (Nat.le_refl _)) O ?_
 rintro x w2 ⟨hx,hg,hcase⟩
 have hn:Below w.heap.size w w2:=⟨hg.os,hg.tape,hg.output,hg.size,fun k hk=>hg.block k hk (by simp [Value.ownBlock])⟩
 rw [Nat.zero_add,List.nil_append] at hx
 have zA:=blk_lt b_r
 have hxA:∀b,x.ownBlock=some b→A_r<b:=fun b e=>by
  have:=(own_block hx b e).1
  omega
 have hk:=KRow.mono (.inl hx) z
 replace hB:=hB.bs hn
 replace hu:=hu.bs hn
 replace b_r:=b_r.bs hn
 refine Lw.val (Ad O) O<|Al O O (rsize_c u s _ hu) ?_
 rintro _ w ⟨rfl,hn⟩
 replace hB:=hB.bs hn
 replace hu:=hu.bs hn
 replace b_r:=b_r.bs hn
 replace hk:=hk.bs hn
 clear hn
 refine Cd 11 (v' := .int .i64 (((Shapes.size s).toNat:Nat):Int)) O (congrArg (Value.int .i64) (by omega))<|Bl (C2 st_31 it_21 O O O (Nat.le_refl _) (by omega) (by omega)) O ?_
 rintro y w4 ⟨ho6,hy,hn4, -⟩
 have hxlt:=hk.lt
 have zB:=below_size hB
 have hap:Apt y x:=by
  intro b h1 h2
  rw [hy] at h1
  cases h1
  exact absurd (hxlt _ h2).2 (Nat.lt_irrefl _)
 rw [rep_zero] at ho6
 have hx6:=(hk.bs hn4).slT
 refine Lw.val (Bn (vs:=[(0,x),(1,y)]) (cs:=[x,y]) O (bt_ten _ _ hx6.one (own_sl ho6).one)) O ?_
 have zC:=hn4.size
 have zD:=blk_lt b_r
 replace hB:=hB.bs hn4
 replace hu:=hu.bs hn4
 replace b_r:=b_r.bs hn4
 replace hk:=hk.bs hn4
 refine Ay (Bp (cs:=[x,y]) O O O O (by simp [hx6.one',(own_sl ho6).one']) b_r O) ?_
 rintro w7 ⟨hb7,hg7, -⟩
 have hB7:Below W.heap.size W w7:=hB.grown hg7 (below_size hB) (by rintro _ ⟨⟩;omega)
 refine Lw.val (Ac O) O<|Af<|Aa<|Cw.out<|An<|Bf O O O (by assumption) (Tryz.underlying33) O O O ?_
 refine ⟨hB7, .inl ⟨hok,x,y,rfl, ?_, ?_,hap⟩⟩
 ·exact hk.by' hg7 (by
   cases hc:x.ownBlock with
   |none=>exact .inl rfl
   |some b=>exact .inr fun h=>by have:=hxA b hc;cases h;omega)
 ·have:=ho6.kept hg7 (.inr (by rw [hy];simp [Value.ownBlock];omega))
  rw [List.length_replicate]
  exact own_mono this zB
end Go.Proofs.YtmipoeanpnnjoaaGreatDoor

/-! Contracts: the document's answers on maths. -/
namespace Go.Proofs.YtmipoeanpnnjoaaGreatDoor
open Go Go.Dd Go.RowKit
set_option maxRecDepth 100000

theorem e2_a {s t:List Int} {l m:List (BitVec 32)} (h:tok s l=false):e2 s l t m=1:=by unfold e2;rw [h];rfl
theorem e2_b {s t:List Int} {l m:List (BitVec 32)} (h:tok t m=false):e2 s l t m=1:=by unfold e2;rw [h,Bool.and_false];rfl
theorem e2_y {s t:List Int} {l m:List (BitVec 32)} (h:e2 s l t m=0):tok s l=true∧tok t m=true∧t=s:=by
 unfold e2 at h
 split at h
 ·rename_i h1
  simp only [Bool.and_eq_true] at h1
  split at h
  ·rename_i h2;exact ⟨h1.1,h1.2,h2⟩
  ·cases h
 ·cases h
theorem new_yes {W w:World} {r:Value} {s:List Int} (hok:Shapes.ok s=true) (h:(Shapes.ok s=true∧∃x y,r= .tuple #[.agg #[x,y], .int .i64 0]∧Made1 W w x y s (List.replicate (Shapes.size s).toNat 0#32))∨(Shapes.ok s=false∧r= .tuple #[.agg #[.slice none 0 0, .slice none 0 0], .int .i64 1])):
  ∃x y,r= .tuple #[.agg #[x,y], .int .i64 0]∧Made1 W w x y s (List.replicate (Shapes.size s).toNat 0#32):=by
 rcases h with ⟨_,h⟩|⟨h,_⟩
 ·exact h
 ·rw [hok] at h;cases h
theorem z2_lenN (f:BitVec 32→BitVec 32→BitVec 32) (s:List Int) (l m:List (BitVec 32)):(z2 f s l m).length=(Shapes.size s).toNat:=by simp [z2]
theorem z2_at {f:BitVec 32→BitVec 32→BitVec 32} {s:List Int} {l m:List (BitVec 32)} {i:Nat} (h:i<(Shapes.size s).toNat):(z2 f s l m).getD i default=f (l.getD i default) (m.getD i default):=by simp [z2,h]

theorem rboth_c (a b:T4) (W:World) (h_a:a.at W) (h_b:b.at W):Fnc Tryz.prog 139 [a.v,b.v] W (fun r w' =>r= .int .i64 (e2 a.s a.l b.s b.l)∧Below W.heap.size W w'):=by
 have hB:=Below.refl W.heap.size W
 refine Ap (n:=19) Tryz.func139 (by kernel_rfl) O O O<|Ae<|Ab<|Bv (cs:=[a.x,a.y]) O O O ?_
 rintro A_a w eA_a b_a hn -
 replace hB:=hB.bs hn
 replace h_a:=h_a.bs hn
 replace h_b:=h_b.bs hn
 clear hn
 refine Bv (cs:=[b.x,b.y]) O O O ?_
 rintro A_b w eA_b b_b hn -
 replace hB:=hB.bs hn
 replace h_a:=h_a.bs hn
 replace h_b:=h_b.bs hn
 replace b_a:=b_a.bs hn
 clear hn
 refine Lw.val (Ac O) O<|Af<|Aa<|Cw.out<|Ae<|Ae<|Ab<|Lw.val (Bw (ag_33 _) (sz_33 _) O O (by assumption)) O ?_
 refine Al O O (rtcheck_c a.x a.y a.s a.l _ h_a.1 h_a.2) ?_
 rintro _ w ⟨rfl,hn⟩
 replace hB:=hB.bs hn
 replace h_a:=h_a.bs hn
 replace h_b:=h_b.bs hn
 replace b_a:=b_a.bs hn
 replace b_b:=b_b.bs hn
 clear hn
 refine Lw.val (Bx O) O<|Lw.val (Ad O) O ?_
 refine Bt 8 O ?_ ?_
 ·intro g
  have e:e2 a.s a.l b.s b.l=1:=e2_a (by simpa using g)
  refine Ai (dj:=8) O O O O<|Ai (dj:=8) O O O O<|Ai (dj:=8) O O O O<|Lw.val (As O O) O<|Af<|Aa<|Cw.out<|Br O<|Ae<|Ab<|Lw.val (Ac O) O<|Af<|Aa<|Cw.out<|An<|Ak<|Bb O O ?_
  exact ⟨by rw [e],hB⟩
 intro g
 have t_a:tok a.s a.l=true:=by simpa using g
 refine Lw.take (dj:=8) O O<|Lw.val (Bw (ag_33 _) (sz_33 _) O O (by assumption)) O ?_
 refine Lw.take (dj:=8) O O<|Al O O (rtcheck_c b.x b.y b.s b.l _ h_b.1 h_b.2) ?_
 rintro _ w ⟨rfl,hn⟩
 replace hB:=hB.bs hn
 replace h_a:=h_a.bs hn
 replace h_b:=h_b.bs hn
 replace b_a:=b_a.bs hn
 replace b_b:=b_b.bs hn
 clear hn
 refine Lw.take (dj:=8) O O<|Lw.val (Bx O) O<|Lw.val (Bd O O) O<|Af<|Aa<|Cw.out<|Au O ?_ ?_
 ·intro g
  have e:e2 a.s a.l b.s b.l=1:=e2_b (by simpa using g)
  refine Ae<|Ab<|Lw.val (Ac O) O<|Af<|Aa<|Cw.out<|An<|Ak<|Bb O O ?_
  exact ⟨by rw [e],hB⟩
 intro g
 have t_b:tok b.s b.l=true:=by simpa using g
 refine Aq<|Aa<|Cw.out<|Ae<|Ae<|Ab<|Lw.val (Ag (q:=0) Tryz.underlying33 O (sz_23 _) O) O<|Lw.val (Aj (ag_23 _) O (by assumption) O) O ?_
 refine Lw.val (Ag (q:=0) Tryz.underlying33 O (sz_23 _) O) O<|Lw.val (Aj (ag_23 _) O (by assumption) O) O ?_
 refine Al O O (rsame4_c a.x b.x a.s b.s _ h_a.1 h_b.1) ?_
 rintro _ w ⟨rfl,hn⟩
 replace hB:=hB.bs hn
 replace h_a:=h_a.bs hn
 replace h_b:=h_b.bs hn
 replace b_a:=b_a.bs hn
 replace b_b:=b_b.bs hn
 clear hn
 refine Lw.val (Bx O) O<|Af<|Aa<|Cw.out<|Au O ?_ ?_
 ·intro g
  have e:e2 a.s a.l b.s b.l=10:=by
   have:¬b.s=a.s:=fun h=>by rw [h] at g;simp at g
   unfold e2
   rw [t_a,t_b,if_neg this]
   rfl
  refine Ae<|Ab<|Lw.val (Ac O) O<|Af<|Aa<|Cw.out<|An<|Ak<|Bb O O ?_
  exact ⟨by rw [e],hB⟩
 intro g
 have e:e2 a.s a.l b.s b.l=0:=by
  have:b.s=a.s:=by simp at g;exact g.symm
  unfold e2
  rw [t_a,t_b,if_pos this]
  rfl
 refine Aq<|Aa<|Cw.out<|Ae<|Ab<|Lw.val (Ac O) O<|Af<|Aa<|Cw.out<|An<|Bb O O ?_
 exact ⟨by rw [e],hB⟩

theorem radd_c (a b:T4) (W:World) (h_a:a.at W) (h_b:b.at W):Fnc Tryz.prog 35 [a.v,b.v] W (fun r w' =>Below W.heap.size W w' ∧Ans W w' r (e2 a.s a.l b.s b.l) a.s (z2 (·+·) a.s a.l b.l)):=by
 have hB:=Below.refl W.heap.size W
 refine Ap (n:=46) Tryz.func35 (by kernel_rfl) O O O<|Ae<|Ab<|Bv (cs:=[a.x,a.y]) O O O ?_
 rintro A_a w eA_a b_a hn -
 replace hB:=hB.bs hn
 replace h_a:=h_a.bs hn
 replace h_b:=h_b.bs hn
 clear hn
 refine Bv (cs:=[b.x,b.y]) O O O ?_
 rintro A_b w eA_b b_b hn -
 replace hB:=hB.bs hn
 replace h_a:=h_a.bs hn
 replace h_b:=h_b.bs hn
 replace b_a:=b_a.bs hn
 clear hn
 have zr:=below_size hB
 refine B8 it_33 O ?_
 rintro A_r w eA_r b_r hn -
 replace hB:=hB.bs hn
 replace h_a:=h_a.bs hn
 replace h_b:=h_b.bs hn
 replace b_a:=b_a.bs hn
 replace b_b:=b_b.bs hn
 clear hn
 refine Lw.val (Ac O) O<|Af<|Aa<|Cw.out<|Ae<|Ab<|Lw.val (Bw (ag_33 _) (sz_33 _) O O (by assumption)) O ?_
 refine Lw.val (Bw (ag_33 _) (sz_33 _) O O (by assumption)) O ?_
 have z_r:=blk_lt b_r
 have zr:W.heap.size≤A_r:=by omega
 refine Al O O (rboth_c a b _ h_a h_b) ?_
 rintro _ w ⟨rfl,hn⟩
 replace hB:=hB.bs hn
 replace h_a:=h_a.bs hn
 replace h_b:=h_b.bs hn
 replace b_a:=b_a.bs hn
 replace b_b:=b_b.bs hn
 replace b_r:=b_r.bs hn
 clear hn
 refine Lw.val (Ac O) O<|Af<|Aa<|Cw.out<|Ae<|Ae<|Ab<|Lw.val (Ad O) O<|Lw.val (B7 O O) O<|Af<|Aa<|Cw.out<|Au O ?_ ?_
 ·intro g
  have g' :e2 a.s a.l b.s b.l≠0:=by simpa using g
  refine Ae<|Ab<|Lw.val (Bn (vs:=[]) (cs:=[.slice none 0 0, .slice none 0 0]) O (by kernel_rfl)) O<|Lw.val (Ad O) O<|Ay (Bp (cs:=[.slice none 0 0, .slice none 0 0]) O O O O O b_r O) ?_
  rintro w9 ⟨b_r,hg, -⟩
  have hB:=hB.grown hg (below_size hB) (by rintro _ ⟨⟩;omega)
  refine Lw.val (Ac O) O<|Af<|Aa<|Cw.out<|An<|Ak<|Bf O O O (by assumption) (Tryz.underlying33) O O O ?_
  exact ⟨hB,_,_,rfl,fun _=>⟨rfl,rfl⟩,fun h=>absurd h g'⟩
 intro g
 have e0:e2 a.s a.l b.s b.l=0:=by simpa using g
 obtain ⟨t_a,t_b,hs⟩:=e2_y e0
 have ka:=(tok_ok t_a).1
 have hsz:=Shapes.size_le a.s
 have la:=(tok_ok t_a).2
 have lb:=(tok_ok t_b).2
 rw [hs] at lb
 rw [e0]
 refine Aq<|Aa<|Cw.out<|Ae<|Ab<|Lw.val (Ag (q:=0) Tryz.underlying33 O (sz_23 _) O) O<|Lw.val (Aj (ag_23 _) O (by assumption) O) O ?_
 refine Al O O (rnew_c a.x a.s w h_a.1) ?_
 rintro r w3 ⟨hn3,hcase⟩
 obtain ⟨zx,zy,rfl,hz⟩:=new_yes ka hcase
 refine Lw.val (Ad O) O<|Lw.val (Ax (i:=0) O O) O<|Lw.val (Ax (i:=1) O O) O<|Cb (cs:=[zx,zy]) it_33 O O O O (fun _=>rfl) (hz.one) ?_
 rintro A_t w4 eA_t b_t hn4 zhn4
 have M:=mine_new hz eA_t b_t hn4 zhn4 hn3.size
 have hw4:=bt hn3 hn4
 clear hz b_t hcase eA_t hn3 hn4 zhn4
 obtain ⟨N,hN⟩:∃N,N=(Shapes.size a.s).toNat:=⟨_,rfl⟩
 rw [← hN] at M la lb
 have lrep:(List.replicate N 0#32).length=N:=List.length_replicate
 obtain ⟨pl,hpl⟩:∃pl,pl=z2 (·+·) a.s a.l b.l:=⟨_,rfl⟩
 have npl:pl.length=(List.replicate N 0#32).length:=by rw [hpl,z2_lenN,lrep,hN]
 refine Lw.val (Ac O) O<|Af<|Aa<|Cw.out<|Ae<|Ae<|Ab<|Lw.val (Ac O) O<|Af<|Aa<|Cw.out<|Cw.block ?_
 refine Bj (S:=Nat) (fun i=>[(2, .pointer (some ⟨A_a,0,none⟩)),(3, .pointer (some ⟨A_b,0,none⟩)),(4, .pointer (some ⟨A_r,0,none⟩)),(5, .int .i64 0),(7, .pointer (some ⟨A_t,0,none⟩)),(9, .int .i64 (i:Int))]) (fun i w' =>i≤N∧Below w.heap.size w w' ∧MineT w' w.heap.size w4.heap.size A_t zx zy a.s (pl.take i++(List.replicate N 0#32).drop i)) (fun i=>N - i) (0) ⟨rfl,rfl,rfl,rfl,rfl,rfl,trivial⟩ ?_ ?_
 ·exact ⟨by omega,hw4,by rw [td_zero];exact M⟩
 clear M hw4
 have zrw:=blk_lt b_r
 rintro i w5 ⟨hi,hw,M⟩
 have b_t:=M.box
 have y_t:=M.sly
 have b_a5:=b_a.bs hw
 have b_b5:=b_b.bs hw
 have y_a:=(h_a.bs hw).2
 have y_b:=(h_b.bs hw).2
 have lt:(pl.take i++(List.replicate N 0#32).drop i).length=N:=by rw [td_len npl,lrep]
 refine Ae<|Ae<|Ab<|Lw.val (Ad O) O<|Lw.val (Ag (q:=0) Tryz.underlying33 O (sz_31 _) O) O<|Lw.val (Aj (ag_31 _) O (by assumption) O) O ?_
 refine Lw.val (Av st_31 O (by assumption)) O ?_
 refine Lw.val (Bh O O) O<|Af<|Aa<|Cw.out<|Au O ?_ ?_
 ·intro h
  have hi' :i<N:=by rw [lt] at h;simp at h;omega
  have hir:i<(List.replicate N 0#32).length:=by omega
  have hfull:pl.getD i default=a.l.getD i default+b.l.getD i default:=by rw [hpl];exact z2_at (by omega)
  have hlast:(pl.take i++(List.replicate N 0#32).drop i).set i (a.l.getD i default+b.l.getD i default)=pl.take (i+1)++(List.replicate N 0#32).drop (i+1):=by rw [← hfull];exact td_set npl hir
  refine Aq<|Aa<|Cw.out<|Ae<|Cw.block<|Cw.tail 15 mixed (by kernel_rfl)<|Qw.val (fun w1 hq=>Ag (q:=0) Tryz.underlying33 O (sz_31 _) O) O<|Qw.val (fun w1 hq=>Aj (ag_31 _) O (Blk.bs (by assumption) hq) O) O ?_
  refine Qw.val (fun w1 hq=>Ad O) O<|Qw.val (fun w1 hq=>Ag (q:=0) Tryz.underlying33 O (sz_31 _) O) O<|Qw.val (fun w1 hq=>Aj (ag_31 _) O (Blk.bs (by assumption) hq) O) O ?_
  refine Qw.val (fun w1 hq=>Ad O) O<|Qw.val (fun w1 hq=>Ba st_31 O O (Sl.bs (by assumption) hq) _ O (by omega)) O ?_
  refine Qw.val (fun w1 hq=>Bg (ag_21 _) O (Sl.bs (by assumption) hq) (by omega)) O ?_
  refine Qw.val (fun w1 hq=>Ag (q:=0) Tryz.underlying33 O (sz_31 _) O) O<|Qw.val (fun w1 hq=>Aj (ag_31 _) O (Blk.bs (by assumption) hq) O) O ?_
  refine Qw.val (fun w1 hq=>Ad O) O<|Qw.val (fun w1 hq=>Ba st_31 O O (Sl.bs (by assumption) hq) _ O (by omega)) O ?_
  refine Qw.val (fun w1 hq=>Bg (ag_21 _) O (Sl.bs (by assumption) hq) (by omega)) O ?_
  refine Qw.val (fun w1 hq=>Cy O O) O<|Qw.val (fun w1 hq=>Ba st_31 O O (Sl.bs (by assumption) hq) _ O (by omega)) O ?_
  refine Cj (fun w6 hq=> ?_)
  refine Ay ((M.bs hq).st (sz_21 _) O O (by omega)) ?_
  rintro w7 ⟨M7,hg7, -⟩
  rw [hlast] at M7
  refine Af<|Bo<|Aa<|Cw.out<|Ab<|Lw.val (Ad O) O<|Lw.val (Bc O O (by omega)) O<|Lw.val (Ac O) O<|Af ?_
  exact Aa (Bq (i+1) ⟨rfl,rfl,rfl,rfl,rfl,rfl,trivial⟩ (⟨hi',(M.bs hq).below (bt hw hq) (Nat.le_refl _) hg7,M7⟩) (by omega))
 intro h
 have hi' :i=N:=by rw [lt] at h;simp at h;omega
 subst hi'
 have hall:pl.take i++(List.replicate i 0#32).drop i=pl:=by
  have:=td_all npl
  rwa [lrep] at this
 rw [hall] at M
 have b_t6:=M.box
 have b_r6:=b_r.bs hw
 refine Bi<|Am<|Am<|Az<|Aa<|Cw.out<|Ae<|Ab<|Lw.val (Bw (ag_33 _) (sz_33 _) O O (by assumption)) O ?_
 refine Ay (Bp (cs:=[zx,zy]) O O O O (by simp [M.sh.one',M.sly.one']) b_r6 O) ?_
 rintro w9 ⟨b_r9,hg9, -⟩
 have M9:=M.keep hg9 (by rintro _ ⟨⟩;omega)
 have zW:=below_size hB
 have hB9:=(bt hB hw).grown hg9 (below_size (bt hB hw)) (by rintro _ ⟨⟩;omega)
 refine Lw.val (Ac O) O<|Af<|Aa<|Cw.out<|An<|Bf O O O (by assumption) (Tryz.underlying33) O O O ?_
 rw [← hpl]
 exact ⟨hB9,zx,zy,rfl,fun h=>absurd rfl h,fun _=>⟨M9.row.mono zW,own_mono M9.lst.own zW,M9.yx⟩⟩
theorem rmul_c (a b:T4) (W:World) (h_a:a.at W) (h_b:b.at W):Fnc Tryz.prog 36 [a.v,b.v] W (fun r w' =>Below W.heap.size W w' ∧Ans W w' r (e2 a.s a.l b.s b.l) a.s (z2 (·*·) a.s a.l b.l)):=by
 have hB:=Below.refl W.heap.size W
 refine Ap (n:=46) Tryz.func36 (by kernel_rfl) O O O<|Ae<|Ab<|Bv (cs:=[a.x,a.y]) O O O ?_
 rintro A_a w eA_a b_a hn -
 replace hB:=hB.bs hn
 replace h_a:=h_a.bs hn
 replace h_b:=h_b.bs hn
 clear hn
 refine Bv (cs:=[b.x,b.y]) O O O ?_
 rintro A_b w eA_b b_b hn -
 replace hB:=hB.bs hn
 replace h_a:=h_a.bs hn
 replace h_b:=h_b.bs hn
 replace b_a:=b_a.bs hn
 clear hn
 have zr:=below_size hB
 refine B8 it_33 O ?_
 rintro A_r w eA_r b_r hn -
 replace hB:=hB.bs hn
 replace h_a:=h_a.bs hn
 replace h_b:=h_b.bs hn
 replace b_a:=b_a.bs hn
 replace b_b:=b_b.bs hn
 clear hn
 refine Lw.val (Ac O) O<|Af<|Aa<|Cw.out<|Ae<|Ab<|Lw.val (Bw (ag_33 _) (sz_33 _) O O (by assumption)) O ?_
 refine Lw.val (Bw (ag_33 _) (sz_33 _) O O (by assumption)) O ?_
 have z_r:=blk_lt b_r
 have zr:W.heap.size≤A_r:=by omega
 refine Al O O (rboth_c a b _ h_a h_b) ?_
 rintro _ w ⟨rfl,hn⟩
 replace hB:=hB.bs hn
 replace h_a:=h_a.bs hn
 replace h_b:=h_b.bs hn
 replace b_a:=b_a.bs hn
 replace b_b:=b_b.bs hn
 replace b_r:=b_r.bs hn
 clear hn
 refine Lw.val (Ac O) O<|Af<|Aa<|Cw.out<|Ae<|Ae<|Ab<|Lw.val (Ad O) O<|Lw.val (B7 O O) O<|Af<|Aa<|Cw.out<|Au O ?_ ?_
 ·intro g
  have g' :e2 a.s a.l b.s b.l≠0:=by simpa using g
  refine Ae<|Ab<|Lw.val (Bn (vs:=[]) (cs:=[.slice none 0 0, .slice none 0 0]) O (by kernel_rfl)) O<|Lw.val (Ad O) O<|Ay (Bp (cs:=[.slice none 0 0, .slice none 0 0]) O O O O O b_r O) ?_
  rintro w9 ⟨b_r,hg, -⟩
  have hB:=hB.grown hg (below_size hB) (by rintro _ ⟨⟩;omega)
  refine Lw.val (Ac O) O<|Af<|Aa<|Cw.out<|An<|Ak<|Bf O O O (by assumption) (Tryz.underlying33) O O O ?_
  exact ⟨hB,_,_,rfl,fun _=>⟨rfl,rfl⟩,fun h=>absurd h g'⟩
 intro g
 have e0:e2 a.s a.l b.s b.l=0:=by simpa using g
 obtain ⟨t_a,t_b,hs⟩:=e2_y e0
 have ka:=(tok_ok t_a).1
 have hsz:=Shapes.size_le a.s
 have la:=(tok_ok t_a).2
 have lb:=(tok_ok t_b).2
 rw [hs] at lb
 rw [e0]
 refine Aq<|Aa<|Cw.out<|Ae<|Ab<|Lw.val (Ag (q:=0) Tryz.underlying33 O (sz_23 _) O) O<|Lw.val (Aj (ag_23 _) O (by assumption) O) O ?_
 refine Al O O (rnew_c a.x a.s w h_a.1) ?_
 rintro r w3 ⟨hn3,hcase⟩
 obtain ⟨zx,zy,rfl,hz⟩:=new_yes ka hcase
 refine Lw.val (Ad O) O<|Lw.val (Ax (i:=0) O O) O<|Lw.val (Ax (i:=1) O O) O<|Cb (cs:=[zx,zy]) it_33 O O O O (fun _=>rfl) (hz.one) ?_
 rintro A_t w4 eA_t b_t hn4 zhn4
 have M:=mine_new hz eA_t b_t hn4 zhn4 hn3.size
 have hw4:=bt hn3 hn4
 clear hz b_t hcase eA_t hn3 hn4 zhn4
 obtain ⟨N,hN⟩:∃N,N=(Shapes.size a.s).toNat:=⟨_,rfl⟩
 rw [← hN] at M la lb
 have lrep:(List.replicate N 0#32).length=N:=List.length_replicate
 obtain ⟨pl,hpl⟩:∃pl,pl=z2 (·*·) a.s a.l b.l:=⟨_,rfl⟩
 have npl:pl.length=(List.replicate N 0#32).length:=by rw [hpl,z2_lenN,lrep,hN]
 refine Lw.val (Ac O) O<|Af<|Aa<|Cw.out<|Ae<|Ae<|Ab<|Lw.val (Ac O) O<|Af<|Aa<|Cw.out<|Cw.block ?_
 refine Bj (S:=Nat) (fun i=>[(2, .pointer (some ⟨A_a,0,none⟩)),(3, .pointer (some ⟨A_b,0,none⟩)),(4, .pointer (some ⟨A_r,0,none⟩)),(5, .int .i64 0),(7, .pointer (some ⟨A_t,0,none⟩)),(9, .int .i64 (i:Int))]) (fun i w' =>i≤N∧Below w.heap.size w w' ∧MineT w' w.heap.size w4.heap.size A_t zx zy a.s (pl.take i++(List.replicate N 0#32).drop i)) (fun i=>N - i) (0) ⟨rfl,rfl,rfl,rfl,rfl,rfl,trivial⟩ ?_ ?_
 ·exact ⟨by omega,hw4,by rw [td_zero];exact M⟩
 clear M hw4
 have zrw:=blk_lt b_r
 rintro i w5 ⟨hi,hw,M⟩
 have b_t:=M.box
 have y_t:=M.sly
 have b_a5:=b_a.bs hw
 have b_b5:=b_b.bs hw
 have y_a:=(h_a.bs hw).2
 have y_b:=(h_b.bs hw).2
 have lt:(pl.take i++(List.replicate N 0#32).drop i).length=N:=by rw [td_len npl,lrep]
 refine Ae<|Ae<|Ab<|Lw.val (Ad O) O<|Lw.val (Ag (q:=0) Tryz.underlying33 O (sz_31 _) O) O<|Lw.val (Aj (ag_31 _) O (by assumption) O) O ?_
 refine Lw.val (Av st_31 O (by assumption)) O ?_
 refine Lw.val (Bh O O) O<|Af<|Aa<|Cw.out<|Au O ?_ ?_
 ·intro h
  have hi' :i<N:=by rw [lt] at h;simp at h;omega
  have hir:i<(List.replicate N 0#32).length:=by omega
  have hfull:pl.getD i default=a.l.getD i default*b.l.getD i default:=by rw [hpl];exact z2_at (by omega)
  have hlast:(pl.take i++(List.replicate N 0#32).drop i).set i (a.l.getD i default*b.l.getD i default)=pl.take (i+1)++(List.replicate N 0#32).drop (i+1):=by rw [← hfull];exact td_set npl hir
  refine Aq<|Aa<|Cw.out<|Ae<|Cw.block<|Cw.tail 15 mixed (by kernel_rfl)<|Qw.val (fun w1 hq=>Ag (q:=0) Tryz.underlying33 O (sz_31 _) O) O<|Qw.val (fun w1 hq=>Aj (ag_31 _) O (Blk.bs (by assumption) hq) O) O ?_
  refine Qw.val (fun w1 hq=>Ad O) O<|Qw.val (fun w1 hq=>Ag (q:=0) Tryz.underlying33 O (sz_31 _) O) O<|Qw.val (fun w1 hq=>Aj (ag_31 _) O (Blk.bs (by assumption) hq) O) O ?_
  refine Qw.val (fun w1 hq=>Ad O) O<|Qw.val (fun w1 hq=>Ba st_31 O O (Sl.bs (by assumption) hq) _ O (by omega)) O ?_
  refine Qw.val (fun w1 hq=>Bg (ag_21 _) O (Sl.bs (by assumption) hq) (by omega)) O ?_
  refine Qw.val (fun w1 hq=>Ag (q:=0) Tryz.underlying33 O (sz_31 _) O) O<|Qw.val (fun w1 hq=>Aj (ag_31 _) O (Blk.bs (by assumption) hq) O) O ?_
  refine Qw.val (fun w1 hq=>Ad O) O<|Qw.val (fun w1 hq=>Ba st_31 O O (Sl.bs (by assumption) hq) _ O (by omega)) O ?_
  refine Qw.val (fun w1 hq=>Bg (ag_21 _) O (Sl.bs (by assumption) hq) (by omega)) O ?_
  refine Qw.val (fun w1 hq=>Ex.muli32 O O) O<|Qw.val (fun w1 hq=>Ba st_31 O O (Sl.bs (by assumption) hq) _ O (by omega)) O ?_
  refine Cj (fun w6 hq=> ?_)
  refine Ay ((M.bs hq).st (sz_21 _) O O (by omega)) ?_
  rintro w7 ⟨M7,hg7, -⟩
  rw [hlast] at M7
  refine Af<|Bo<|Aa<|Cw.out<|Ab<|Lw.val (Ad O) O<|Lw.val (Bc O O (by omega)) O<|Lw.val (Ac O) O<|Af ?_
  exact Aa (Bq (i+1) ⟨rfl,rfl,rfl,rfl,rfl,rfl,trivial⟩ (⟨hi',(M.bs hq).below (bt hw hq) (Nat.le_refl _) hg7,M7⟩) (by omega))
 intro h
 have hi' :i=N:=by rw [lt] at h;simp at h;omega
 subst hi'
 have hall:pl.take i++(List.replicate i 0#32).drop i=pl:=by
  have:=td_all npl
  rwa [lrep] at this
 rw [hall] at M
 have b_t6:=M.box
 have b_r6:=b_r.bs hw
 refine Bi<|Am<|Am<|Az<|Aa<|Cw.out<|Ae<|Ab<|Lw.val (Bw (ag_33 _) (sz_33 _) O O (by assumption)) O ?_
 refine Ay (Bp (cs:=[zx,zy]) O O O O (by simp [M.sh.one',M.sly.one']) b_r6 O) ?_
 rintro w9 ⟨b_r9,hg9, -⟩
 have M9:=M.keep hg9 (by rintro _ ⟨⟩;omega)
 have zW:=below_size hB
 have hB9:=(bt hB hw).grown hg9 (below_size (bt hB hw)) (by rintro _ ⟨⟩;omega)
 refine Lw.val (Ac O) O<|Af<|Aa<|Cw.out<|An<|Bf O O O (by assumption) (Tryz.underlying33) O O O ?_
 rw [← hpl]
 exact ⟨hB9,zx,zy,rfl,fun h=>absurd rfl h,fun _=>⟨M9.row.mono zW,own_mono M9.lst.own zW,M9.yx⟩⟩

theorem toInt_bd (x:BitVec 32): -2147483648≤x.toInt∧x.toInt<2147483648:=by
 have x1:=BitVec.toInt_lt (x:=x)
 have x2:=BitVec.le_toInt x
 simp at x1 x2
 omega
theorem z1_lenN (f:BitVec 32→BitVec 32) (s:List Int) (l:List (BitVec 32)):(z1 f s l).length=(Shapes.size s).toNat:=by simp [z1]
theorem z1_at {f:BitVec 32→BitVec 32} {s:List Int} {l:List (BitVec 32)} {i:Nat} (h:i<(Shapes.size s).toNat):(z1 f s l).getD i default=f (l.getD i default):=by simp [z1,h]
theorem down_eq (x b:Int) (h:1≤b):(if x.tmod b<0 then x.tdiv b - 1 else x.tdiv b)=x / b:=by
 rw [Int.tdiv_eq_ediv,Int.tmod_eq_emod]
 have h1:=Int.emod_nonneg x (show b≠0 by omega)
 have h2:=Int.emod_lt_of_pos x (show 0<b by omega)
 have hs:b.sign=1:=Int.sign_eq_one_of_pos (by omega)
 by_cases hc:0≤x∨b ∣ x
 ·rw [if_pos hc,if_pos hc];simp;omega
 ·rw [if_neg hc,if_neg hc,hs]
  have:x % b - b.natAbs<0:=by omega
  rw [if_pos (by omega)];omega
theorem tdiv_bd (x b:Int): -(x.natAbs:Int)≤x.tdiv b∧x.tdiv b≤x.natAbs:=by
 have:=Int.natAbs_tdiv_le_natAbs x b
 omega
section
variable {P : Program} {n : Nat} {E : Env} {w : World} {x y : Operand} {t s ty : TypeId} {m q : Int}
theorem Ex.quoT (hx:ev E x=some (.int .i64 m)) (hy:ev E y=some (.int .i64 q)) (h0: -9223372036854775807≤m∧m≤9223372036854775807) (h1:1≤q):Ex P n E (.binOp .quo t x y s) ty w (.int .i64 (m.tdiv q)):=C5 hx hy (by
 have:¬q=0:=by omega
 have hb:=tdiv_bd m q
 simp [go_sem,Op.intDiv,this,IntWalk.i64_in (m.tdiv q) (by omega)])
theorem Ex.remT (hx:ev E x=some (.int .i64 m)) (hy:ev E y=some (.int .i64 q)) (h1:1≤q):Ex P n E (.binOp .rem t x y s) ty w (.int .i64 (m.tmod q)):=C5 hx hy (by
 have:¬q=0:=by omega
 simp [go_sem,Op.intDiv,this])
end

theorem rrelu_c (a:T4) (W:World) (h_a:a.at W):Fnc Tryz.prog 37 [a.v] W (fun r w' =>Below W.heap.size W w' ∧Ans W w' r (e1 a.s a.l) a.s (z1 reluB a.s a.l)):=by
 have hB:=Below.refl W.heap.size W
 refine Ap (n:=35) Tryz.func37 (by kernel_rfl) O O O<|Ae<|Ab<|Bv (cs:=[a.x,a.y]) O O O ?_
 rintro A_a w eA_a b_a hn -
 replace hB:=hB.bs hn
 replace h_a:=h_a.bs hn
 clear hn
 have zr:=below_size hB
 refine B8 it_33 O ?_
 rintro A_r w eA_r b_r hn -
 replace hB:=hB.bs hn
 replace h_a:=h_a.bs hn
 replace b_a:=b_a.bs hn
 clear hn
 refine Lw.val (Ac O) O<|Af<|Aa<|Cw.out<|Ae<|Ae<|Ab<|Lw.val (Bw (ag_33 _) (sz_33 _) O O (by assumption)) O ?_
 have z_r:=blk_lt b_r
 have zr:W.heap.size≤A_r:=by omega
 refine Al O O (rtcheck_c a.x a.y a.s a.l _ h_a.1 h_a.2) ?_
 rintro _ w ⟨rfl,hn⟩
 replace hB:=hB.bs hn
 replace h_a:=h_a.bs hn
 replace b_a:=b_a.bs hn
 replace b_r:=b_r.bs hn
 clear hn
 refine Lw.val (Bx O) O<|Af<|Aa<|Cw.out<|Au O ?_ ?_
 ·intro g
  have e:e1 a.s a.l=1:=by unfold e1;rw [if_neg];simp at g;simp [g]
  refine Ae<|Ab<|Lw.val (Bn (vs:=[]) (cs:=[.slice none 0 0, .slice none 0 0]) O (by kernel_rfl)) O<|Ay (Bp (cs:=[.slice none 0 0, .slice none 0 0]) O O O O O b_r O) ?_
  rintro w9 ⟨b_r,hg, -⟩
  have hB:=hB.grown hg (below_size hB) (by rintro _ ⟨⟩;omega)
  refine Lw.val (Ac O) O<|Af<|Aa<|Cw.out<|An<|Ak<|Bf O O O (by assumption) (Tryz.underlying33) O O O ?_
  exact ⟨hB,_,_,by rw [e],fun _=>⟨rfl,rfl⟩,fun h=>by rw [e] at h;cases h⟩
 intro g
 have t_a:tok a.s a.l=true:=by simpa using g
 have e0:e1 a.s a.l=0:=by unfold e1;rw [if_pos t_a]
 rw [e0]
 refine Aq<|Aa<|Cw.out<|Ae<|Ab<|Lw.val (Ag (q:=0) Tryz.underlying33 O (sz_23 _) O) O<|Lw.val (Aj (ag_23 _) O (by assumption) O) O ?_
 have ka:=(tok_ok t_a).1
 have hsz:=Shapes.size_le a.s
 have la:=(tok_ok t_a).2
 have zr:=below_size hB
 refine Al O O (rnew_c a.x a.s w h_a.1) ?_
 rintro r w3 ⟨hn3,hcase⟩
 obtain ⟨zx,zy,rfl,hz⟩:=new_yes ka hcase
 refine Lw.val (Ad O) O<|Lw.val (Ax (i:=0) O O) O<|Lw.val (Ax (i:=1) O O) O<|Cb (cs:=[zx,zy]) it_33 O O O O (fun _=>rfl) (hz.one) ?_
 rintro A_t w4 eA_t b_t hn4 zhn4
 have M:=mine_new hz eA_t b_t hn4 zhn4 hn3.size
 have hw4:=bt hn3 hn4
 clear hz b_t hcase eA_t hn3 hn4 zhn4
 obtain ⟨N,hN⟩:∃N,N=(Shapes.size a.s).toNat:=⟨_,rfl⟩
 rw [← hN] at M la
 have lrep:(List.replicate N 0#32).length=N:=List.length_replicate
 obtain ⟨pl,hpl⟩:∃pl,pl=z1 reluB a.s a.l:=⟨_,rfl⟩
 have npl:pl.length=(List.replicate N 0#32).length:=by rw [hpl,z1_lenN,lrep,hN]
 refine Lw.val (Ac O) O<|Af<|Aa<|Cw.out<|Ae<|Ae<|Ab<|Lw.val (Ac O) O<|Af<|Aa<|Cw.out<|Cw.block ?_
 refine Bj (S:=Nat) (fun i=>[(1, .pointer (some ⟨A_a,0,none⟩)),(2, .pointer (some ⟨A_r,0,none⟩)),(3, .int .i64 0),(4, .pointer (some ⟨A_t,0,none⟩)),(6, .int .i64 (i:Int))]) (fun i w' =>i≤N∧Below w.heap.size w w' ∧MineT w' w.heap.size w4.heap.size A_t zx zy a.s (pl.take i++(List.replicate N 0#32).drop i)) (fun i=>N - i) (0) ⟨rfl,rfl,rfl,rfl,rfl,trivial⟩ ?_ ?_
 ·exact ⟨by omega,hw4,by rw [td_zero];exact M⟩
 clear M hw4
 have zrw:=blk_lt b_r
 rintro i w5 ⟨hi,hw,M⟩
 have b_t:=M.box
 have y_t:=M.sly
 have b_a5:=b_a.bs hw
 have y_a:=(h_a.bs hw).2
 have lt:(pl.take i++(List.replicate N 0#32).drop i).length=N:=by rw [td_len npl,lrep]
 refine Ae<|Ae<|Ab<|Lw.val (Ad O) O<|Lw.val (Ag (q:=0) Tryz.underlying33 O (sz_31 _) O) O<|Lw.val (Aj (ag_31 _) O (by assumption) O) O ?_
 refine Lw.val (Av st_31 O (by assumption)) O ?_
 refine Lw.val (Bh O O) O<|Af<|Aa<|Cw.out<|Au O ?_ ?_
 ·intro h
  have hi' :i<N:=by rw [lt] at h;simp at h;omega
  have hir:i<(List.replicate N 0#32).length:=by omega
  have hfull:pl.getD i default=reluB (a.l.getD i default):=by rw [hpl];exact z1_at (by omega)
  have hlast:(pl.take i++(List.replicate N 0#32).drop i).set i (reluB (a.l.getD i default))=pl.take (i+1)++(List.replicate N 0#32).drop (i+1):=by rw [← hfull];exact td_set npl hir
  refine Aq<|Aa<|Cw.out<|Ae<|Cw.block<|Cw.tail 10 mixed (by kernel_rfl)<|Qw.val (fun w1 hq=>Ag (q:=0) Tryz.underlying33 O (sz_31 _) O) O<|Qw.val (fun w1 hq=>Aj (ag_31 _) O (Blk.bs (by assumption) hq) O) O ?_
  refine Qw.val (fun w1 hq=>Ad O) O<|Qw.val (fun w1 hq=>Ag (q:=0) Tryz.underlying33 O (sz_31 _) O) O<|Qw.val (fun w1 hq=>Aj (ag_31 _) O (Blk.bs (by assumption) hq) O) O ?_
  refine Qw.val (fun w1 hq=>Ad O) O<|Qw.val (fun w1 hq=>Ba st_31 O O (Sl.bs (by assumption) hq) _ O (by omega)) O ?_
  refine Qw.val (fun w1 hq=>Bg (ag_21 _) O (Sl.bs (by assumption) hq) (by omega)) O ?_
  refine Qw.val (fun w1 hq=>Ex.as (Ex.max2 (m:=0) (q:=(a.l.getD i default).toInt) O O) (relu_eq _)) O<|Qw.val (fun w1 hq=>Ba st_31 O O (Sl.bs (by assumption) hq) _ O (by omega)) O ?_
  refine Cj (fun w6 hq=> ?_)
  refine Ay ((M.bs hq).st (sz_21 _) O O (by omega)) ?_
  rintro w7 ⟨M7,hg7, -⟩
  rw [hlast] at M7
  refine Af<|Bo<|Aa<|Cw.out<|Ab<|Lw.val (Ad O) O<|Lw.val (Bc O O (by omega)) O<|Lw.val (Ac O) O<|Af ?_
  exact Aa (Bq (i+1) ⟨rfl,rfl,rfl,rfl,rfl,trivial⟩ (⟨hi',(M.bs hq).below (bt hw hq) (Nat.le_refl _) hg7,M7⟩) (by omega))
 intro h
 have hi' :i=N:=by rw [lt] at h;simp at h;omega
 subst hi'
 have hall:pl.take i++(List.replicate i 0#32).drop i=pl:=by
  have:=td_all npl
  rwa [lrep] at this
 rw [hall] at M
 have b_t6:=M.box
 have b_r6:=b_r.bs hw
 refine Bi<|Am<|Am<|Az<|Aa<|Cw.out<|Ae<|Ab<|Lw.val (Bw (ag_33 _) (sz_33 _) O O (by assumption)) O ?_
 refine Ay (Bp (cs:=[zx,zy]) O O O O (by simp [M.sh.one',M.sly.one']) b_r6 O) ?_
 rintro w9 ⟨b_r9,hg9, -⟩
 have M9:=M.keep hg9 (by rintro _ ⟨⟩;omega)
 have zW:=below_size hB
 have hB9:=(bt hB hw).grown hg9 (below_size (bt hB hw)) (by rintro _ ⟨⟩;omega)
 refine Lw.val (Ac O) O<|Af<|Aa<|Cw.out<|An<|Bf O O O (by assumption) (Tryz.underlying33) O O O ?_
 rw [← hpl]
 exact ⟨hB9,zx,zy,rfl,fun h=>absurd rfl h,fun _=>⟨M9.row.mono zW,own_mono M9.lst.own zW,M9.yx⟩⟩
theorem rdown_c (x b:Int) (w:World) (hx: -9223372036854775806≤x∧x≤9223372036854775806) (hb:1≤b):Fnc Tryz.prog 142 [.int .i64 x, .int .i64 b] w (fun r w' =>r= .int .i64 (x / b)∧Below w.heap.size w w'):=by
 have hq:=tdiv_bd x b
 refine Ap (n:=16) Tryz.func142 (by kernel_rfl) O O O<|Ae<|Ab<|Lw.val (Ac O) O<|Af<|Aa<|Cw.out<|Ae<|Ab<|Lw.val (Ad O) O<|Lw.val (Ad O) O<|Lw.val (Ex.quoT O O (by omega) hb) O<|Lw.val (Ac O) O<|Af<|Aa<|Cw.out<|Ae<|Ae<|Ab<|Lw.val (Ad O) O<|Lw.val (Ad O) O<|Lw.val (Ex.remT O O hb) O<|Lw.val (Bh O O) O<|Af<|Aa<|Cw.out<|Au O ?_ ?_
 ·intro g
  have g' :=of_decide_eq_true g
  refine Ab<|Lw.val (Ad O) O<|Lw.val (Cx O O (by omega)) O<|Lw.val (Ac O) O<|Af<|Aa<|Cw.out<|Ae<|Ab<|Lw.val (Ad O) O<|Lw.val (Ac O) O<|Af<|Aa<|Cw.out<|An<|Bb O O ?_
  exact ⟨by rw [← down_eq x b hb,if_pos g'],Below.refl _ _⟩
 ·intro g
  have g' :=of_decide_eq_false g
  refine Aq<|Aa<|Cw.out<|Ae<|Ab<|Lw.val (Ad O) O<|Lw.val (Ac O) O<|Af<|Aa<|Cw.out<|An<|Bb O O ?_
  exact ⟨by rw [← down_eq x b hb,if_neg g'],Below.refl _ _⟩
theorem shB_eq (j:Nat) (x:BitVec 32) (v:Int) (hv:v=(x.toInt+2 ^ j / 2) / 2 ^ j):i32 (BitVec.ofInt 32 (if (if (-128:Int)<v then v else -128)<127 then (if (-128:Int)<v then v else -128) else 127))=i32 (shB j x):=by
 unfold shB shI clampI
 subst hv
 congr 2
 rw [Int.one_mul,Int.pow_one]
 generalize (x.toInt+2 ^ j / 2) / 2 ^ j=z
 split<;>split<;>split<;>omega
theorem rshift_c (a:T4) (n:Int) (W:World) (h_a:a.at W):Fnc Tryz.prog 38 [a.v, .int .i64 n] W (fun r w' =>Below W.heap.size W w' ∧Ans W w' r (eSh a.s a.l n) a.s (z1 (shB n.toNat) a.s a.l)):=by
 have hB:=Below.refl W.heap.size W
 refine Ap (n:=62) Tryz.func38 (by kernel_rfl) O O O<|Ae<|Ab<|Bv (cs:=[a.x,a.y]) O O O ?_
 rintro A_a w eA_a b_a hn -
 replace hB:=hB.bs hn
 replace h_a:=h_a.bs hn
 clear hn
 have zr:=below_size hB
 refine B8 it_33 O ?_
 rintro A_r w eA_r b_r hn -
 replace hB:=hB.bs hn
 replace h_a:=h_a.bs hn
 replace b_a:=b_a.bs hn
 clear hn
 refine Lw.val (Ac O) O<|Af<|Aa<|Cw.out<|Ae<|Ae<|Ab<|Lw.val (Bw (ag_33 _) (sz_33 _) O O (by assumption)) O ?_
 have z_r:=blk_lt b_r
 have zr:W.heap.size≤A_r:=by omega
 refine Al O O (rtcheck_c a.x a.y a.s a.l _ h_a.1 h_a.2) ?_
 rintro _ w ⟨rfl,hn⟩
 replace hB:=hB.bs hn
 replace h_a:=h_a.bs hn
 replace b_a:=b_a.bs hn
 replace b_r:=b_r.bs hn
 clear hn
 refine Lw.val (Bx O) O<|Lw.val (Ad O) O ?_
 refine Bt 14 O ?_ ?_
 ·intro g
  have e:eSh a.s a.l n=1:=by unfold eSh e1;split;rfl;rw [if_neg];simp at g;simp [g]
  refine Ai (dj:=14) O O O O<|Ai (dj:=14) O O O O<|Lw.val (As O O) O<|Lw.val (Ad O) O<|Ai (dj:=18) O O O O<|Ai (dj:=18) O O O O<|Lw.val (As O O) O<|Af<|Aa<|Cw.out<|Br O<|Ae<|Ab<|Lw.val (Bn (vs:=[]) (cs:=[.slice none 0 0, .slice none 0 0]) O (by kernel_rfl)) O<|Ay (Bp (cs:=[.slice none 0 0, .slice none 0 0]) O O O O O b_r O) ?_
  rintro w9 ⟨b_r,hg, -⟩
  have hB:=hB.grown hg (below_size hB) (by rintro _ ⟨⟩;omega)
  refine Lw.val (Ac O) O<|Af<|Aa<|Cw.out<|An<|Ak<|Bf O O O (by assumption) (Tryz.underlying33) O O O ?_
  exact ⟨hB,_,_,by rw [e],fun _=>⟨rfl,rfl⟩,fun h=>by rw [e] at h;cases h⟩
 intro g
 have t_a:tok a.s a.l=true:=by simpa using g
 refine Lw.take (dj:=14) O O<|Lw.val (Ad O) O<|Lw.take (dj:=14) O O<|Lw.val (Bh O O) O<|Lw.val (Bd O O) O<|Lw.val (Ad O) O ?_
 refine Bt 18 O ?_ ?_
 ·intro g
  have g' :=of_decide_eq_true g
  have e:eSh a.s a.l n=1:=by unfold eSh;rw [if_pos (.inl g')]
  refine Ai (dj:=18) O O O O<|Ai (dj:=18) O O O O<|Lw.val (As O O) O<|Af<|Aa<|Cw.out<|Br O<|Ae<|Ab<|Lw.val (Bn (vs:=[]) (cs:=[.slice none 0 0, .slice none 0 0]) O (by kernel_rfl)) O<|Ay (Bp (cs:=[.slice none 0 0, .slice none 0 0]) O O O O O b_r O) ?_
  rintro w9 ⟨b_r,hg, -⟩
  have hB:=hB.grown hg (below_size hB) (by rintro _ ⟨⟩;omega)
  refine Lw.val (Ac O) O<|Af<|Aa<|Cw.out<|An<|Ak<|Bf O O O (by assumption) (Tryz.underlying33) O O O ?_
  exact ⟨hB,_,_,by rw [e],fun _=>⟨rfl,rfl⟩,fun h=>by rw [e] at h;cases h⟩
 intro g
 have g1:=of_decide_eq_false g
 refine Lw.take (dj:=18) O O<|Lw.val (Ad O) O<|Lw.take (dj:=18) O O<|Lw.val (Cr O O) O<|Lw.val (Bd O O) O<|Af<|Aa<|Cw.out<|Au O ?_ ?_
 ·intro g
  have g' :=of_decide_eq_true g
  have e:eSh a.s a.l n=1:=by unfold eSh;rw [if_pos (.inr (by omega))]
  refine Ae<|Ab<|Lw.val (Bn (vs:=[]) (cs:=[.slice none 0 0, .slice none 0 0]) O (by kernel_rfl)) O<|Ay (Bp (cs:=[.slice none 0 0, .slice none 0 0]) O O O O O b_r O) ?_
  rintro w9 ⟨b_r,hg, -⟩
  have hB:=hB.grown hg (below_size hB) (by rintro _ ⟨⟩;omega)
  refine Lw.val (Ac O) O<|Af<|Aa<|Cw.out<|An<|Ak<|Bf O O O (by assumption) (Tryz.underlying33) O O O ?_
  exact ⟨hB,_,_,by rw [e],fun _=>⟨rfl,rfl⟩,fun h=>by rw [e] at h;cases h⟩
 intro g
 have g2:=of_decide_eq_false g
 have e0:eSh a.s a.l n=0:=by unfold eSh e1;rw [if_neg (by omega),if_pos t_a]
 rw [e0]
 obtain ⟨j,rfl⟩:=Int.eq_ofNat_of_zero_le (show 0≤n by omega)
 have hj:j≤31:=by omega
 have hp:=pow_le j hj
 rw [Int.toNat_natCast]
 refine Aq<|Aa<|Cw.out<|Ae<|Ab<|Lw.val (Ac O) O<|Af<|Aa<|Cw.out<|Ae<|Ae<|Ab<|Lw.val (Ac O) O<|Af<|Aa<|Cw.out<|Cw.block ?_
 refine Bj (S:=Nat) (fun i=>[(1, .int .i64 (j:Int)),(2, .pointer (some ⟨A_a,0,none⟩)),(4, .pointer (some ⟨A_r,0,none⟩)),(5, .int .i64 0),(6, .int .i64 (2 ^ i)),(7, .int .i64 (i:Int))]) (fun i w' =>i≤j∧w=w') (fun i=>j - i) (0) ⟨rfl,rfl,rfl,rfl,rfl,rfl,trivial⟩ ?_ ?_
 ·exact ⟨by omega,rfl⟩
 rintro i w2 ⟨hi,rfl⟩
 refine Ae<|Ae<|Ab<|Lw.val (Ad O) O<|Lw.val (Ad O) O<|Lw.val (Bh O O) O<|Af<|Aa<|Cw.out<|Au O ?_ ?_
 ·intro h
  have hi' :i<j:=by simp at h;omega
  have hpi:=pow_le i (by omega)
  refine Aq<|Aa<|Cw.out<|Ae<|Cw.block<|Ab<|Lw.val (Ad O) O<|Lw.val (Ca O O (by omega)) O<|Lw.val (Ac O) O<|Af<|Bo<|Aa<|Cw.out<|Ab<|Lw.val (Ad O) O<|Lw.val (Bc O O (by omega)) O<|Lw.val (Ac O) O<|Af ?_
  exact Aa (Bq (i+1) ⟨rfl,rfl,rfl,rfl,(by rw [Int.pow_succ,Int.mul_comm];rfl),rfl,trivial⟩ (⟨hi',rfl⟩) (by omega))
 intro h
 have hi' :j=i:=by simp at h;omega
 subst hi'
 clear hi h
 refine Bi<|Am<|Am<|Az<|Aa<|Cw.out<|Ae<|Ab<|Lw.val (Ag (q:=0) Tryz.underlying33 O (sz_23 _) O) O<|Lw.val (Aj (ag_23 _) O (by assumption) O) O ?_
 have ka:=(tok_ok t_a).1
 have hsz:=Shapes.size_le a.s
 have la:=(tok_ok t_a).2
 have zr:=below_size hB
 refine Al O O (rnew_c a.x a.s w h_a.1) ?_
 rintro r w3 ⟨hn3,hcase⟩
 obtain ⟨zx,zy,rfl,hz⟩:=new_yes ka hcase
 refine Lw.val (Ad O) O<|Lw.val (Ax (i:=0) O O) O<|Lw.val (Ax (i:=1) O O) O<|Cb (cs:=[zx,zy]) it_33 O O O O (fun _=>rfl) (hz.one) ?_
 rintro A_t w4 eA_t b_t hn4 zhn4
 have M:=mine_new hz eA_t b_t hn4 zhn4 hn3.size
 have hw4:=bt hn3 hn4
 clear hz b_t hcase eA_t hn3 hn4 zhn4
 obtain ⟨N,hN⟩:∃N,N=(Shapes.size a.s).toNat:=⟨_,rfl⟩
 rw [← hN] at M la
 have lrep:(List.replicate N 0#32).length=N:=List.length_replicate
 obtain ⟨pl,hpl⟩:∃pl,pl=z1 (shB j) a.s a.l:=⟨_,rfl⟩
 have npl:pl.length=(List.replicate N 0#32).length:=by rw [hpl,z1_lenN,lrep,hN]
 refine Lw.val (Ac O) O<|Af<|Aa<|Cw.out<|Ae<|Ae<|Ab<|Lw.val (Ac O) O<|Af<|Aa<|Cw.out<|Cw.block ?_
 refine Bj (S:=Nat) (fun i=>[(1, .int .i64 (j:Int)),(2, .pointer (some ⟨A_a,0,none⟩)),(4, .pointer (some ⟨A_r,0,none⟩)),(5, .int .i64 0),(6, .int .i64 (2 ^ j)),(8, .pointer (some ⟨A_t,0,none⟩)),(10, .int .i64 (i:Int))]) (fun i w' =>i≤N∧Below w.heap.size w w' ∧MineT w' w.heap.size w4.heap.size A_t zx zy a.s (pl.take i++(List.replicate N 0#32).drop i)) (fun i=>N - i) (0) ⟨rfl,rfl,rfl,rfl,rfl,rfl,rfl,trivial⟩ ?_ ?_
 ·exact ⟨by omega,hw4,by rw [td_zero];exact M⟩
 clear M hw4
 have zrw:=blk_lt b_r
 rintro i w5 ⟨hi,hw,M⟩
 have b_t:=M.box
 have y_t:=M.sly
 have b_a5:=b_a.bs hw
 have y_a:=(h_a.bs hw).2
 have lt:(pl.take i++(List.replicate N 0#32).drop i).length=N:=by rw [td_len npl,lrep]
 refine Ae<|Ae<|Ab<|Lw.val (Ad O) O<|Lw.val (Ag (q:=0) Tryz.underlying33 O (sz_31 _) O) O<|Lw.val (Aj (ag_31 _) O (by assumption) O) O ?_
 refine Lw.val (Av st_31 O (by assumption)) O ?_
 refine Lw.val (Bh O O) O<|Af<|Aa<|Cw.out<|Au O ?_ ?_
 ·intro h
  have hi' :i<N:=by rw [lt] at h;simp at h;omega
  have hir:i<(List.replicate N 0#32).length:=by omega
  have hfull:pl.getD i default=shB j (a.l.getD i default):=by rw [hpl];exact z1_at (by omega)
  have hlast:(pl.take i++(List.replicate N 0#32).drop i).set i (shB j (a.l.getD i default))=pl.take (i+1)++(List.replicate N 0#32).drop (i+1):=by rw [← hfull];exact td_set npl hir
  have x3:0≤(2:Int) ^ j / 2∧(2:Int) ^ j / 2≤2147483648:=by omega
  have x4:=toInt_bd (a.l.getD i default)
  refine Aq<|Aa<|Cw.out<|Ae<|Cw.block<|Cw.tail 18 mixed (by kernel_rfl)<|Qw.val (fun w1 hq=>Ag (q:=0) Tryz.underlying33 O (sz_31 _) O) O<|Qw.val (fun w1 hq=>Aj (ag_31 _) O (Blk.bs (by assumption) hq) O) O ?_
  refine Qw.val (fun w1 hq=>Ad O) O<|Qw.val (fun w1 hq=>Ag (q:=0) Tryz.underlying33 O (sz_31 _) O) O<|Qw.val (fun w1 hq=>Aj (ag_31 _) O (Blk.bs (by assumption) hq) O) O ?_
  refine Qw.val (fun w1 hq=>Ad O) O<|Qw.val (fun w1 hq=>Ba st_31 O O (Sl.bs (by assumption) hq) _ O (by omega)) O ?_
  refine Qw.val (fun w1 hq=>Bg (ag_21 _) O (Sl.bs (by assumption) hq) (by omega)) O ?_
  refine Qw.val (fun w1 hq=>Ex.convi32_I us_21 un_2 O) O<|Qw.val (fun w1 hq=>Ad O) O<|Qw.val (fun w1 hq=>Ct O O (by omega) (by decide)) O<|Qw.val (fun w1 hq=>Bc O O (by omega)) O<|Qw.val (fun w1 hq=>Ad O) O<|B9 O O (fun w1 hq=>(rdown_c _ _ w1 (by omega) (by omega)).q hq)<|Qw.val (fun w1 hq=>Ex.max2 O O) O<|Qw.val (fun w1 hq=>Ex.min2 O O) O<|Qw.val (fun w1 hq=>(Ex.convi32 us_2 un_21 O).as (shB_eq j _ _ O)) O<|Qw.val (fun w1 hq=>Ba st_31 O O (Sl.bs (by assumption) hq) _ O (by omega)) O ?_
  refine Cj (fun w6 hq=> ?_)
  refine Ay ((M.bs hq).st (sz_21 _) O O (by omega)) ?_
  rintro w7 ⟨M7,hg7, -⟩
  rw [hlast] at M7
  refine Af<|Bo<|Aa<|Cw.out<|Ab<|Lw.val (Ad O) O<|Lw.val (Bc O O (by omega)) O<|Lw.val (Ac O) O<|Af ?_
  exact Aa (Bq (i+1) ⟨rfl,rfl,rfl,rfl,rfl,rfl,rfl,trivial⟩ (⟨hi',(M.bs hq).below (bt hw hq) (Nat.le_refl _) hg7,M7⟩) (by omega))
 intro h
 have hi' :i=N:=by rw [lt] at h;simp at h;omega
 subst hi'
 have hall:pl.take i++(List.replicate i 0#32).drop i=pl:=by
  have:=td_all npl
  rwa [lrep] at this
 rw [hall] at M
 have b_t6:=M.box
 have b_r6:=b_r.bs hw
 refine Bi<|Am<|Am<|Az<|Aa<|Cw.out<|Ae<|Ab<|Lw.val (Bw (ag_33 _) (sz_33 _) O O (by assumption)) O ?_
 refine Ay (Bp (cs:=[zx,zy]) O O O O (by simp [M.sh.one',M.sly.one']) b_r6 O) ?_
 rintro w9 ⟨b_r9,hg9, -⟩
 have M9:=M.keep hg9 (by rintro _ ⟨⟩;omega)
 have zW:=below_size hB
 have hB9:=(bt hB hw).grown hg9 (below_size (bt hB hw)) (by rintro _ ⟨⟩;omega)
 refine Lw.val (Ac O) O<|Af<|Aa<|Cw.out<|An<|Bf O O O (by assumption) (Tryz.underlying33) O O O ?_
 rw [← hpl]
 exact ⟨hB9,zx,zy,rfl,fun h=>absurd rfl h,fun _=>⟨M9.row.mono zW,own_mono M9.lst.own zW,M9.yx⟩⟩
end Go.Proofs.YtmipoeanpnnjoaaGreatDoor

/-! Contracts: rows with columns. -/
namespace Go.Proofs.YtmipoeanpnnjoaaGreatDoor
open Go Go.Dd Go.RowKit
set_option maxRecDepth 100000

def pshE (a b:List Int):Int:=if Shapes.ok a && Shapes.ok b then (if a.length=2∧b.length=2∧a.getD 1 default=b.getD 0 default then 0 else 10) else 1
theorem pshE_no {a b:List Int} (h:Shapes.ok a=false∨Shapes.ok b=false):pshE a b=1:=by
 unfold pshE
 rw [if_neg]
 rcases h with h|h<;>simp [h]
theorem pshE_ten {a b:List Int} (h1:Shapes.ok a=true) (h2:Shapes.ok b=true) (h:¬(a.length=2∧b.length=2∧a.getD 1 default=b.getD 0 default)):pshE a b=10:=by
 unfold pshE
 rw [h1,h2,if_neg h];rfl
theorem pshE_yes {a b:List Int} (h1:Shapes.ok a=true) (h2:Shapes.ok b=true) (h:a.length=2∧b.length=2∧a.getD 1 default=b.getD 0 default):pshE a b=0:=by
 unfold pshE
 rw [h1,h2,if_pos h];rfl

/-- What Shape tells. -/
def PShp (W w:World) (r:Value) (a b:List Int):Prop:=
 ∃x,r= .tuple #[x, .int .i64 (pshE a b)]∧(pshE a b≠0→x= .slice none 0 0)∧(pshE a b=0→w.ownsRow W.heap.size 3 1 x 2 ([a.getD 0 default,b.getD 1 default].map (Value.int .i64)))

theorem pshape_c (u v:Value) (a b:List Int) (W:World) (hu:SlT (Value.int .i64) W u a) (hv:SlT (Value.int .i64) W v b):
  Fnc Tryz.prog 203 [u,v] W (fun r w' =>Below W.heap.size W w' ∧PShp W w' r a b):=by
 have hB:=Below.refl W.heap.size W
 refine Ap (n:=40) Tryz.func203 (by kernel_rfl) O O O<|Ae<|Ab<|Lw.val (Ac O) O<|Lw.val (Ac O) O<|Af<|Aa<|Cw.out<|Ae<|Cw.block<|Ae<|Ab<|Lw.val (Ad O) O<|Al O O (check_c u a _ hu) ?_
 rintro _ w ⟨rfl,hn⟩
 replace hB:=hB.bs hn
 replace hu:=hu.bs hn
 replace hv:=hv.bs hn
 clear hn
 refine Lw.val (Bx O) O<|Lw.val (Ad O) O ?_
 refine Bt 10 O ?_ ?_
 ·intro g
  have e:=pshE_no (a:=a) (b:=b) (.inl (by simpa using g))
  refine Ai (dj:=10) O O O O<|Ai (dj:=10) O O O O<|Ai (dj:=10) O O O O<|Lw.val (As O O) O<|Lw.val (Ac O) O<|Af<|Aa<|Cw.out<|Br O<|Ae<|Ab<|Lw.val (Ac O) O<|Lw.val (Ac O) O<|Af<|Aa<|Cw.out<|An<|Bk<|Ak<|Bu O O O ?_
  exact ⟨hB,_,by rw [e],fun _=>rfl,fun h=>by rw [e] at h;cases h⟩
 intro g
 have ka:Shapes.ok a=true:=by simpa using g
 refine Lw.take (dj:=10) O O<|Lw.val (Ad O) O<|Lw.take (dj:=10) O O<|Al O O (check_c v b _ hv) ?_
 rintro _ w ⟨rfl,hn⟩
 replace hB:=hB.bs hn
 replace hu:=hu.bs hn
 replace hv:=hv.bs hn
 clear hn
 refine Lw.take (dj:=10) O O<|Lw.val (Bx O) O<|Lw.val (Bd O O) O<|Lw.val (Ac O) O<|Af<|Aa<|Cw.out<|Au O ?_ ?_
 ·intro g
  have e:=pshE_no (a:=a) (b:=b) (.inr (by simpa using g))
  refine Ae<|Ab<|Lw.val (Ac O) O<|Lw.val (Ac O) O<|Af<|Aa<|Cw.out<|An<|Bk<|Ak<|Bu O O O ?_
  exact ⟨hB,_,by rw [e],fun _=>rfl,fun h=>by rw [e] at h;cases h⟩
 intro g
 have kb:Shapes.ok b=true:=by simpa using g
 refine Ae<|B5 mixed (by kernel_rfl)<|Qw.val (fun w1 hq=>Ad O) O<|Qw.val (fun w1 hq=>Av st_23 O (Sl.bs (by assumption) hq)) O ?_
 refine Qw.val (fun w1 hq=>B7 O O) O<|Qw.val (fun w1 hq=>Ad O) O ?_
 refine Cl 19 O ?_ ?_
 ·intro g
  have e:pshE a b=10:=pshE_ten ka kb fun h=>by simp [h.1] at g
  refine Ao (dj:=19) O O O O<|Ao (dj:=19) O O O O<|Ao (dj:=19) O O O O<|Qw.val (fun w1 hq=>As O O) O<|Qw.val (fun w1 hq=>Ad O) O<|Ao (dj:=24) O O O O<|Ao (dj:=24) O O O O<|Ao (dj:=24) O O O O<|Ao (dj:=24) O O O O<|Ao (dj:=24) O O O O<|Ao (dj:=24) O O O O<|Ao (dj:=24) O O O O<|Qw.val (fun w1 hq=>As O O) O<|Qw.val (fun w1 hq=>Ac O) O ?_
  refine B3 (fun w2 hq=> ?_)
  refine Aa<|Cw.out<|Br O<|Ae<|Ab<|Lw.val (Ac O) O<|Lw.val (Ac O) O<|Af<|Aa<|Cw.out<|An<|Bk<|Ak<|Bu O O O ?_
  exact ⟨bt hB hq,_,by rw [e],fun _=>rfl,fun h=>by rw [e] at h;cases h⟩
 intro g
 have la:a.length=2:=by simp at g;omega
 refine Qw.take (dj:=19) O O<|Qw.val (fun w1 hq=>Ad O) O<|Qw.take (dj:=19) O O<|Qw.val (fun w1 hq=>Av st_23 O (Sl.bs (by assumption) hq)) O ?_
 refine Qw.take (dj:=19) O O<|Qw.val (fun w1 hq=>B7 O O) O<|Qw.val (fun w1 hq=>Bd O O) O<|Qw.val (fun w1 hq=>Ad O) O ?_
 refine Cl 24 O ?_ ?_
 ·intro g
  have e:pshE a b=10:=pshE_ten ka kb fun h=>by simp [h.2.1] at g
  refine Ao (dj:=24) O O O O<|Ao (dj:=24) O O O O<|Ao (dj:=24) O O O O<|Ao (dj:=24) O O O O<|Ao (dj:=24) O O O O<|Ao (dj:=24) O O O O<|Ao (dj:=24) O O O O<|Qw.val (fun w1 hq=>As O O) O<|Qw.val (fun w1 hq=>Ac O) O ?_
  refine B3 (fun w2 hq=> ?_)
  refine Aa<|Cw.out<|Br O<|Ae<|Ab<|Lw.val (Ac O) O<|Lw.val (Ac O) O<|Af<|Aa<|Cw.out<|An<|Bk<|Ak<|Bu O O O ?_
  exact ⟨bt hB hq,_,by rw [e],fun _=>rfl,fun h=>by rw [e] at h;cases h⟩
 intro g
 have lb:b.length=2:=by simp at g;omega
 refine Qw.take (dj:=24) O O<|Qw.val (fun w1 hq=>Ad O) O<|Qw.take (dj:=24) O O<|Qw.val (fun w1 hq=>Ba st_23 O O (Sl.bs (by assumption) hq) 1 O (by omega)) O ?_
 refine Qw.take (dj:=24) O O<|Qw.val (fun w1 hq=>Bg (ag_3 _) O (Sl.bs (by assumption) hq) (by omega)) O ?_
 refine Qw.take (dj:=24) O O<|Qw.val (fun w1 hq=>Ad O) O<|Qw.take (dj:=24) O O<|Qw.val (fun w1 hq=>Ba st_23 O O (Sl.bs (by assumption) hq) 0 O (by omega)) O ?_
 refine Qw.take (dj:=24) O O<|Qw.val (fun w1 hq=>Bg (ag_3 _) O (Sl.bs (by assumption) hq) (by omega)) O ?_
 refine Qw.take (dj:=24) O O<|Qw.val (fun w1 hq=>B7 O O) O<|Qw.val (fun w1 hq=>Bd O O) O<|Qw.val (fun w1 hq=>Ac O) O ?_
 refine B3 (fun w2 hq=> ?_)
 refine Aa<|Cw.out<|Au O ?_ ?_
 ·intro g
  have e:pshE a b=10:=pshE_ten ka kb fun h=>by simp at g;exact g (by simpa using h.2.2)
  refine Ae<|Ab<|Lw.val (Ac O) O<|Lw.val (Ac O) O<|Af<|Aa<|Cw.out<|An<|Bk<|Ak<|Bu O O O ?_
  exact ⟨bt hB hq,_,by rw [e],fun _=>rfl,fun h=>by rw [e] at h;cases h⟩
 intro g
 have e:pshE a b=0:=pshE_yes ka kb ⟨la,lb,by simpa using g⟩
 replace hB:=hB.bs hq
 replace hu:=hu.bs hq
 replace hv:=hv.bs hq
 clear hq
 refine Aq<|Bo<|Aa<|Cw.out<|Ae<|Cw.tail 6 mixed (by kernel_rfl)<|Qw.val (fun w1 hq=>Ad O) O<|Qw.val (fun w1 hq=>Ba st_23 O O (Sl.bs (by assumption) hq) 0 O (by omega)) O ?_
 refine Qw.val (fun w1 hq=>Bg (ag_3 _) O (Sl.bs (by assumption) hq) (by omega)) O ?_
 refine Qw.val (fun w1 hq=>Ad O) O<|Qw.val (fun w1 hq=>Ba st_23 O O (Sl.bs (by assumption) hq) 1 O (by omega)) O ?_
 refine Qw.val (fun w1 hq=>Bg (ag_3 _) O (Sl.bs (by assumption) hq) (by omega)) O ?_
 refine Cj (fun w3 hq=> ?_)
 replace hB:=hB.bs hq
 replace hu:=hu.bs hq
 replace hv:=hv.bs hq
 clear hq
 refine Bl (Cp (vs:=[a.getD 0 default,b.getD 1 default].map (Value.int .i64)) st_23 it_3 O O O O O) O ?_
 rintro x w4 ⟨ho, -,hn, -⟩
 have z:=hB.size
 replace hB:=hB.bs hn
 replace hu:=hu.bs hn
 replace hv:=hv.bs hn
 refine Lw.val (Ac O) O<|Lw.val (Ac O) O<|Af<|Aa<|Cw.out<|An<|Bu O O O ?_
 exact ⟨hB,x,by rw [e],fun h=>absurd e h,fun _=>own_mono ho z⟩

theorem gathers_c (w:World):Fnc Tryz.prog 205 [] w (fun r w' =>r= .func (.func 239) #[] #[.pointer (some ⟨w.heap.size,0,none⟩)]∧Blk w' w.heap.size 21 [i32 0#32]∧Below w.heap.size w w' ∧w'.heap.size=w.heap.size+1):=by
 refine Ap (n:=3) Tryz.func205 (by kernel_rfl) O O O<|Ae<|Ab<|Lw.val (Ac O) O<|Af<|Aa<|Cw.out<|Ae<|Ab<|Lw.boxed1 (u:=i32 0#32) it_21 sz_21 O (fun _=>rfl) (rfl) ?_
 rintro A_s w1 eA_s b_s hn zhn
 subst eA_s
 refine Af<|Aa<|Cw.out<|Ae<|Ab<|Lw.val (C7 (vs:=[]) (us:=[.pointer (some ⟨w.heap.size,0,none⟩)]) O O) O<|Lw.val (Ac O) O<|Af<|Aa<|Cw.out<|An<|Bb O O ?_
 exact ⟨rfl,b_s,hn,zhn⟩

theorem gather_c (A:Nat) (s x y:BitVec 32) (w:World) (hb:Blk w A 21 [i32 s]):Fnc Tryz.prog 239 [i32 x,i32 y, .pointer (some ⟨A,0,none⟩)] w (fun r w' =>r=i32 (s+x*y)∧Blk w' A 21 [i32 (s+x*y)]∧w.grownBy w' (some A)):=by
 refine Ap (n:=12) Tryz.func239 (by kernel_rfl) O O O<|Ae<|Ab<|Lw.val (Ac (show _=some (i32 (0#32)) from rfl)) O<|Af<|Aa<|Cw.out<|Ae<|Ab<|Lw.val (Aj (ag_21 _) O (by assumption) O) O ?_
 refine Lw.val (Ad O) O<|Lw.val (Ad O) O<|Lw.val (Ex.muli32 O O) O<|Lw.val (Cy O O) O<|Ay (Co (u:=i32 (s+x*y)) (sz_21 _) O O O hb (by simp)) ?_
 rintro w1 ⟨b1,hg, -⟩
 refine Af<|Aa<|Cw.out<|Ae<|Ab<|Lw.val (Aj (ag_21 _) O (by assumption) O) O ?_
 refine Lw.val (Ac O) O<|Af<|Aa<|Cw.out<|An<|Bb O O ?_
 exact ⟨rfl,b1,hg⟩

def prdE (a b:T4):Int:=if tok a.s a.l && tok b.s b.l then pshE a.s b.s else 1
def prdL (a b:T4):List (BitVec 32):=prd (a.s.getD 0 default).toNat (b.s.getD 0 default).toNat (b.s.getD 1 default).toNat a.l b.l

theorem ok_dims {s:List Int} (h:Shapes.ok s=true) {i:Nat} (hi:i<s.length):1≤s.getD i default∧s.getD i default≤64:=by
 have:=((Shapes.ok_iff s).1 h).2.1 s[i] (List.getElem_mem hi)
 simpa [hi] using this
theorem two_ok {m n:Int} (h1:1≤m∧m≤64) (h2:1≤n∧n≤64) (h:m*n≤4096):Shapes.ok [m,n]=true:=by
 rw [Shapes.ok_iff]
 refine ⟨by simp,fun x hx=> ?_,by simp [Shapes.prod];omega⟩
 simp at hx
 rcases hx with rfl|rfl<;>assumption
theorem mul64 {m n:Int} (h1:1≤m∧m≤64) (h2:1≤n∧n≤64):1≤m*n∧m*n≤4096:=by
 have e1:=Int.mul_le_mul h1.1 h2.1 (by omega) (by omega)
 have e2:=Int.mul_le_mul h1.2 h2.2 (by omega) (by omega)
 omega
theorem len_two {α:Type} [Inhabited α] {l:List α} (h:l.length=2):l=[l.getD 0 default,l.getD 1 default]:=by
 match l,h with
 |[a,b],_=>rfl
theorem size_two {s:List Int} (h:Shapes.ok s=true) (hl:s.length=2):Shapes.size s=s.getD 0 default*s.getD 1 default:=by
 rw [Shapes.size_ok h]
 conv=>lhs;rw [len_two hl]
 simp [Shapes.prod]

/-- What comes of it: a tensor of one's own, or none. -/
def Ans0 (W w:World) (r:Value) (e:Int) (s:List Int) (l:List (BitVec 32)):Prop:=
 ∃x y,r= .tuple #[.agg #[x,y], .int .i64 e]∧(e≠0→x= .slice none 0 0∧y= .slice none 0 0)∧(e=0→Made1 W w x y s l)
theorem Ans0.gets {W w:World} {r:Value} {e:Int} {s:List Int} {l:List (BitVec 32)} (h:Ans0 W w r e s l):Gets W w r e s l:=by
 obtain ⟨x,y,rfl,q1,q2⟩:=h
 by_cases he:e=0
 ·exact ⟨⟨x,y,s,l⟩,rfl,(q2 he).at,fun h=>absurd he h,fun _=>⟨rfl,rfl,q2 he⟩⟩
 ·obtain ⟨rfl,rfl⟩:=q1 he
  exact ⟨⟨_,_,[],[]⟩,rfl,nilT w,fun _=>⟨rfl,rfl,rfl,rfl⟩,fun h=>absurd h he⟩
theorem prod0_c (a b:T4) (W:World) (h_a:a.at W) (h_b:b.at W):
  Fnc Tryz.prog 115 [a.v,b.v] W (fun r w' =>Below W.heap.size W w' ∧Ans0 W w' r (prdE a b) [a.s.getD 0 default,b.s.getD 1 default] (prdL a b)):=by
 have hB:=Below.refl W.heap.size W
 refine Ap (n:=94) Tryz.func115 (by kernel_rfl) O O O<|Ae<|Ab<|Bv (cs:=[a.x,a.y]) O O O ?_
 rintro A_a w eA_a b_a hn -
 replace hB:=hB.bs hn
 replace h_a:=h_a.bs hn
 replace h_b:=h_b.bs hn
 clear hn
 refine Bv (cs:=[b.x,b.y]) O O O ?_
 rintro A_b w eA_b b_b hn -
 replace hB:=hB.bs hn
 replace h_a:=h_a.bs hn
 replace h_b:=h_b.bs hn
 replace b_a:=b_a.bs hn
 clear hn
 have z0:=below_size hB
 refine B8 it_33 O ?_
 rintro A_r w eA_r b_r hn -
 replace hB:=hB.bs hn
 replace h_a:=h_a.bs hn
 replace h_b:=h_b.bs hn
 replace b_a:=b_a.bs hn
 replace b_b:=b_b.bs hn
 clear hn
 refine Lw.val (Ac O) O<|Af<|Aa<|Cw.out<|Ae<|Ae<|Ab<|Lw.val (Bw (ag_33 _) (sz_33 _) O O (by assumption)) O ?_
 have z_r:=blk_lt b_r
 have zr:W.heap.size≤A_r:=by omega
 refine Al O O (tcheck_c a.x a.y a.s a.l _ h_a.1 h_a.2) ?_
 rintro _ w ⟨rfl,hn⟩
 replace hB:=hB.bs hn
 replace h_a:=h_a.bs hn
 replace h_b:=h_b.bs hn
 replace b_a:=b_a.bs hn
 replace b_b:=b_b.bs hn
 replace b_r:=b_r.bs hn
 clear hn
 refine Lw.val (Bx O) O<|Lw.val (Ad O) O ?_
 refine Bt 20 O ?_ ?_
 ·intro g
  have e:prdE a b=1:=by unfold prdE;rw [if_neg];simp at g;simp [g]
  refine Ai (dj:=20) O O O O<|Ai (dj:=20) O O O O<|Ai (dj:=20) O O O O<|Lw.val (As O O) O<|Af<|Aa<|Cw.out<|Br O<|Ae<|Ab<|Lw.val (Bn (vs:=[]) (cs:=[.slice none 0 0, .slice none 0 0]) O (by kernel_rfl)) O ?_
  have b_r1:=b_r
  refine Ay (Bp (cs:=[.slice none 0 0, .slice none 0 0]) O O O O O b_r O) ?_
  rintro w9 ⟨b_r,hg, -⟩
  have hB:=hB.grown hg (below_size hB) (by rintro _ ⟨⟩;omega)
  refine Lw.val (Ac O) O<|Af<|Aa<|Cw.out<|An<|Ak<|Bf O O O (by assumption) (Tryz.underlying33) O O O ?_
  exact ⟨hB,_,_,by rw [e],fun _=>⟨rfl,rfl⟩,fun h=>by rw [e] at h;cases h⟩
 intro g
 have t_a:tok a.s a.l=true:=by simpa using g
 refine Lw.take (dj:=20) O O<|Lw.val (Bw (ag_33 _) (sz_33 _) O O (by assumption)) O ?_
 refine Lw.take (dj:=20) O O<|Al O O (tcheck_c b.x b.y b.s b.l _ h_b.1 h_b.2) ?_
 rintro _ w ⟨rfl,hn⟩
 replace hB:=hB.bs hn
 replace h_a:=h_a.bs hn
 replace h_b:=h_b.bs hn
 replace b_a:=b_a.bs hn
 replace b_b:=b_b.bs hn
 replace b_r:=b_r.bs hn
 clear hn
 refine Lw.take (dj:=20) O O<|Lw.val (Bx O) O<|Lw.val (Bd O O) O<|Af<|Aa<|Cw.out<|Au O ?_ ?_
 ·intro g
  have e:prdE a b=1:=by unfold prdE;rw [if_neg];simp at g;simp [g]
  refine Ae<|Ab<|Lw.val (Bn (vs:=[]) (cs:=[.slice none 0 0, .slice none 0 0]) O (by kernel_rfl)) O ?_
  have b_r1:=b_r
  refine Ay (Bp (cs:=[.slice none 0 0, .slice none 0 0]) O O O O O b_r O) ?_
  rintro w9 ⟨b_r,hg, -⟩
  have hB:=hB.grown hg (below_size hB) (by rintro _ ⟨⟩;omega)
  refine Lw.val (Ac O) O<|Af<|Aa<|Cw.out<|An<|Ak<|Bf O O O (by assumption) (Tryz.underlying33) O O O ?_
  exact ⟨hB,_,_,by rw [e],fun _=>⟨rfl,rfl⟩,fun h=>by rw [e] at h;cases h⟩
 intro g
 have t_b:tok b.s b.l=true:=by simpa using g
 have ee:prdE a b=pshE a.s b.s:=by unfold prdE;rw [t_a,t_b];rfl
 refine Aq<|Aa<|Cw.out<|Ae<|Ab<|Lw.val (Ag (q:=0) Tryz.underlying33 O (sz_23 _) O) O<|Lw.val (Aj (ag_23 _) O (by assumption) O) O ?_
 refine Lw.val (Ag (q:=0) Tryz.underlying33 O (sz_23 _) O) O<|Lw.val (Aj (ag_23 _) O (by assumption) O) O ?_
 refine Al O O (pshape_c a.x b.x a.s b.s w h_a.1 h_b.1) ?_
 rintro _ w ⟨hn,sv,rfl,hs1,hs2⟩
 have z2:=below_size hB
 replace hB:=hB.bs hn
 replace h_a:=h_a.bs hn
 replace h_b:=h_b.bs hn
 replace b_a:=b_a.bs hn
 replace b_b:=b_b.bs hn
 replace b_r:=b_r.bs hn
 clear hn
 refine Lw.val (Ad O) O<|Lw.val (Ax (i:=0) O O) O<|Lw.val (Ax (i:=1) O O) O<|Lw.val (Ac O) O<|Lw.val (Ac O) O<|Af<|Aa<|Cw.out<|Ae<|Ae<|Ab<|Lw.val (Ad O) O<|Lw.val (B7 O O) O<|Af<|Aa<|Cw.out<|Au O ?_ ?_
 ·intro g
  have hne:pshE a.s b.s≠0:=by simpa using g
  refine Ae<|Ab<|Lw.val (Bn (vs:=[]) (cs:=[.slice none 0 0, .slice none 0 0]) O (by kernel_rfl)) O<|Lw.val (Ad O) O<|Ay (Bp (cs:=[.slice none 0 0, .slice none 0 0]) O O O O O b_r O) ?_
  rintro w9 ⟨b_r,hg, -⟩
  have hB:=hB.grown hg (below_size hB) (by rintro _ ⟨⟩;omega)
  refine Lw.val (Ac O) O<|Af<|Aa<|Cw.out<|An<|Ak<|Bf O O O (by assumption) (Tryz.underlying33) O O O ?_
  exact ⟨hB,_,_,by rw [ee],fun _=>⟨rfl,rfl⟩,fun h=>absurd (ee ▸ h) hne⟩
 intro g
 have e0:pshE a.s b.s=0:=by simpa using g
 have hsv:=hs2 e0
 have e0' :=ee.trans e0
 obtain ⟨la,lb,hmid⟩:a.s.length=2∧b.s.length=2∧a.s.getD 1 default=b.s.getD 0 default:=by
  have:=e0
  unfold pshE at this
  rw [(tok_ok t_a).1,(tok_ok t_b).1] at this
  simp only [Bool.and_self,if_true] at this
  split at this
  ·assumption
  ·cases this
 have ka:=(tok_ok t_a).1
 have kb:=(tok_ok t_b).1
 have d0:=ok_dims ka (i:=0) (by omega)
 have d1:=ok_dims kb (i:=1) (by omega)
 have d2:=ok_dims kb (i:=0) (by omega)
 obtain ⟨m,hm⟩:∃m:Nat,(m:Int)=a.s.getD 0 default:=⟨(a.s.getD 0 default).toNat,by omega⟩
 obtain ⟨n,hnn⟩:∃n:Nat,(n:Int)=b.s.getD 1 default:=⟨(b.s.getD 1 default).toNat,by omega⟩
 obtain ⟨k,hk⟩:∃k:Nat,(k:Int)=b.s.getD 0 default:=⟨(b.s.getD 0 default).toNat,by omega⟩
 have hL:prdL a b=prd m k n a.l b.l:=by unfold prdL;rw [← hm,← hnn,← hk];rfl
 have hmn:=mul64 d0 d1
 rw [← hm,← hnn] at hmn
 have hok:Shapes.ok [(m:Int),(n:Int)]=true:=by rw [hm,hnn];exact two_ok d0 d1 (by rw [← hm,← hnn];exact hmn.2)
 have hsz:(Shapes.size [(m:Int),(n:Int)]).toNat=m*n:=by
  rw [Shapes.size_ok hok]
  simp [Shapes.prod]
  exact_mod_cast Int.toNat_natCast (m*n)
 have la2:a.l.length=m*k:=by
  have h1:=(tok_ok t_a).2
  rw [size_two ka la,hmid,← hm,← hk] at h1
  rw [h1];exact_mod_cast Int.toNat_natCast (m*k)
 have lb2:b.l.length=k*n:=by
  have h1:=(tok_ok t_b).2
  rw [size_two kb lb,← hnn,← hk] at h1
  rw [h1];exact_mod_cast Int.toNat_natCast (k*n)
 rw [← hm,← hnn] at hsv
 rw [e0']
 have sl_s:=own_slT hsv
 refine Aq<|Aa<|Cw.out<|Ae<|Ab<|Lw.val (Ad O) O<|Al O O (new_c sv [(m:Int),(n:Int)] w sl_s) ?_
 rintro r w3 ⟨hn3,hcase⟩
 obtain ⟨zx,zy,rfl,hz⟩:∃x y,r= .tuple #[.agg #[x,y], .int .i64 0]∧Made1 w w3 x y [(m:Int),(n:Int)] (List.replicate (m*n) 0#32):=by
  rw [hsz] at hcase
  rcases hcase with ⟨_,h⟩|⟨h,_⟩
  ·exact h
  ·rw [hok] at h;cases h
 refine Lw.val (Ad O) O<|Lw.val (Ax (i:=0) O O) O<|Lw.val (Ax (i:=1) O O) O<|Cb (cs:=[zx,zy]) it_33 O O O O (fun _=>rfl) (hz.one) ?_
 rintro A_t w4 eA_t b_t hn4 zhn4
 have M:=mine_new hz eA_t b_t hn4 zhn4 hn3.size
 have hw4:=bt hn3 hn4
 clear hz b_t hcase eA_t
 have b_a4:=b_a.bs hw4
 have b_b4:=b_b.bs hw4
 have s4:=sl_s.bs hw4
 have x4:=(h_b.bs hw4).1
 have hz4:=hw4.size
 refine Lw.val (Ac O) O<|Af<|Aa<|Cw.out<|Ae<|B5 mixed (by kernel_rfl)<|Qw.val (fun w1 hq=>Ag (q:=0) Tryz.underlying33 O (sz_23 _) O) O<|Qw.val (fun w1 hq=>Aj (ag_23 _) O (Blk.bs (by assumption) hq) O) O ?_
 refine Qw.val (fun w1 hq=>Cm st_23 O O x4.shp 0 O (by omega)) O<|Qw.val (fun w1 hq=>(Bg (ag_3 _) O (x4.bs hq) (by omega)).as (congrArg (Value.int .i64) hk.symm)) O<|Qw.val (fun w1 hq=>Ad O) O<|Qw.val (fun w1 hq=>Cm st_23 O O s4.shp 1 O (by simp)) O<|Qw.val (fun w1 hq=>Bg (ag_3 _) O (s4.bs hq) (by simp)) O<|Qw.val (fun w1 hq=>Ac O) O<|Qw.val (fun w1 hq=>Ac O) O ?_
 refine B3 (fun w5 hq=> ?_)
 refine Aa<|Cw.out<|Ae<|Ae ?_
 have hw5:=bt hw4 hq
 have hs5:=hq.size
 have M:=M.bs hq
 have b_t5:=M.box
 have l5:=M.sly
 clear hq b_a4 b_b4 s4 x4 hn3 hn4 zhn4
 have lrep:(List.replicate (m*n) 0#32).length=m*n:=by rw [List.length_replicate]
 refine Ab<|Lw.val (Ag (q:=0) Tryz.underlying33 O (sz_31 _) O) O<|Lw.val (Aj (ag_31 _) O (by assumption) O) O ?_
 refine Lw.val ((Av (sz:=1) st_31 O l5).as (congrArg (fun j:Nat=>Value.int .i64 (j:Int)) lrep)) O<|Lw.val (Ad O) O<|Af<|Aa<|Cw.out<|Cw.block ?_
 obtain ⟨pl,hpl⟩:∃pl,pl=prd m k n a.l b.l:=⟨_,rfl⟩
 have npl:pl.length=(List.replicate (m*n) 0#32).length:=by rw [hpl,prd_length,lrep]
 refine Bj (S:=Nat) (fun i=>[(2, .pointer (some ⟨A_a,0,none⟩)),(3, .pointer (some ⟨A_b,0,none⟩)),(4, .pointer (some ⟨A_r,0,none⟩)),(5, .int .i64 0),(8, .pointer (some ⟨A_t,0,none⟩)),(10, .int .i64 (k:Int)),(11, .int .i64 (n:Int)),(52, .int .i64 ((m*n:Nat):Int)),(53, .int .i64 (i:Int))]) (fun i w' =>i≤m*n∧w4.heap.size≤w'.heap.size∧Below w.heap.size w w' ∧MineT w' w.heap.size w4.heap.size A_t zx zy [(m:Int),(n:Int)] (pl.take i++(List.replicate (m*n) 0#32).drop i)) (fun i=>m*n - i) (0) ⟨rfl,rfl,rfl,rfl,rfl,rfl,rfl,rfl,rfl,trivial⟩ ?_ ?_
 ·exact ⟨by omega,hs5,hw5,by rw [td_zero];exact M⟩
 clear M l5 b_t5 hw5
 have y_a:=h_a.2
 have y_b:=h_b.2
 have zrw:=blk_lt b_r
 rintro i w6 ⟨hi,hs6,hw6,M⟩
 refine Ae<|Ab<|Lw.val (Bh O O) O<|Af<|Aa<|Cw.out<|Ae<|Au O ?_ ?_
 ·intro h
  have hi' :i<m*n:=by simp at h;omega
  obtain ⟨r1,r2,r3⟩:=at_rc hi'
  have hir:i<(List.replicate (m*n) 0#32).length:=by rw [lrep];exact hi'
  refine Aq<|Aa<|Cw.out<|Ae<|Cw.block<|Ae<|Ab<|Lw.val (Ad O) O<|Lw.val (Ac O) O<|Af<|Aa<|Cw.out<|Ae ?_
  refine Cw.any mixed (fun w7 hd _=> ?_)
  have hw7:=bt hw6 hd
  have M7:=M.bs hd
  refine Aw.take (i:=1) (Ah (NoP.blk (Ah (Ah (NoP.blk (Ah Ar)))))) O (by kernel_rfl) (by kernel_rfl) (by kernel_rfl) (fun _=>Ad O) O<|Aw.take (i:=2) (Ah (NoP.blk (Ah (Ah (NoP.blk (Ah Ar)))))) O (by kernel_rfl) (by kernel_rfl) (by kernel_rfl) (fun _=>Ad O) O<|Aw.take (i:=3) (Ah (NoP.blk (Ah (Ah (NoP.blk (Ah Ar)))))) O (by kernel_rfl) (by kernel_rfl) (by kernel_rfl) (fun _=>Ex.quoN O O (by omega) (by omega)) O<|Aw.take (i:=4) (Ah (NoP.blk (Ah (Ah (NoP.blk (Ah Ar)))))) O (by kernel_rfl) (by kernel_rfl) (by kernel_rfl) (fun _=>Ad O) O<|Aw.take (i:=5) (Ah (NoP.blk (Ah (Ah (NoP.blk (Ah Ar)))))) O (by kernel_rfl) (by kernel_rfl) (by kernel_rfl) (fun _=>Ad O) O<|Aw.take (i:=6) (Ah (NoP.blk (Ah (Ah (NoP.blk (Ah Ar)))))) O (by kernel_rfl) (by kernel_rfl) (by kernel_rfl) (fun _=>Ex.remN O O (by omega)) O<|Aw.only (i:=0) (by kernel_rfl) O<|Al O O (gathers_c w7) ?_
  rintro _ w8 ⟨rfl,b_g,hn8,zhn8⟩
  have hw8:=bt hw7 hn8
  have M8:=M7.bs hn8
  have z7:=hd.size
  have z8:=hn8.size
  obtain ⟨G,hG⟩:∃G,G=w7.heap.size:=⟨_,rfl⟩
  rw [← hG] at b_g
  rw [← hG]
  obtain ⟨f,hf⟩:∃f:Nat→BitVec 32,f=fun p=>a.l.getD (i / n*k+p) default*b.l.getD (p*n+i % n) default:=⟨_,rfl⟩
  obtain ⟨c,hc0⟩:∃c,c=pl.take i++(List.replicate (m*n) 0#32).drop i:=⟨_,rfl⟩
  have lc:c.length=m*n:=by rw [hc0,td_len npl,lrep]
  have hfull:pl.getD i default=sm k f:=by
   have:=prd_at (k:=k) a.l b.l r1 r2
   rw [r3] at this
   rw [hpl,hf]
   exact this
  have hzero:c.set i (sm 0 f)=c:=by
   have h1:c.getD i default=0#32:=by rw [hc0,td_get npl hir,getD_rep hi']
   refine set_same ?_ ?_
   ·omega
   ·rw [h1];rfl
  have hlast:c.set i (sm k f)=pl.take (i+1)++(List.replicate (m*n) 0#32).drop (i+1):=by rw [← hfull,hc0];exact td_set npl hir
  rw [← hc0] at M8
  refine Aw.back<|Aw.take (i:=7) (Ah (NoP.blk (Ah (Ah (NoP.blk (Ah Ar)))))) O (by kernel_rfl) (by kernel_rfl) (by kernel_rfl) (fun _=>Ac O) O<|Aw.take (i:=8) (Ah (NoP.blk (Ah (Ah (NoP.blk (Ah Ar)))))) O (by kernel_rfl) (by kernel_rfl) (by kernel_rfl) (fun _=>Ac O) O<|Aw.take (i:=9) (Ah (NoP.blk (Ah (Ah (NoP.blk (Ah Ar)))))) O (by kernel_rfl) (by kernel_rfl) (by kernel_rfl) (fun _=>Ac O) O<|C1 (by kernel_rfl)<|Aa<|Cw.out<|Ae<|Ab<|Lw.val (Ad O) O<|Lw.val (Ad O) O<|Af<|Aa<|Cw.out<|Cw.block ?_
  refine Bj (S:=Nat) (fun p=>[(2, .pointer (some ⟨A_a,0,none⟩)),(3, .pointer (some ⟨A_b,0,none⟩)),(4, .pointer (some ⟨A_r,0,none⟩)),(5, .int .i64 0),(8, .pointer (some ⟨A_t,0,none⟩)),(10, .int .i64 (k:Int)),(11, .int .i64 (n:Int)),(12, .int .i64 (i:Int)),(13, .func (.func 239) #[] #[.pointer (some ⟨G,0,none⟩)]),(14, .int .i64 ((i / n:Nat):Int)),(15, .int .i64 ((i % n:Nat):Int)),(52, .int .i64 ((m*n:Nat):Int)),(53, .int .i64 (i:Int)),(63, .int .i64 (k:Int)),(64, .int .i64 (p:Int))]) (fun p w' =>p≤k∧w4.heap.size≤w'.heap.size∧Below w.heap.size w w' ∧MineT w' w.heap.size w4.heap.size A_t zx zy [(m:Int),(n:Int)] (c.set i (sm p f))∧Blk w' G 21 [i32 (sm p f)]) (fun p=>k - p) (0) ⟨rfl,rfl,rfl,rfl,rfl,rfl,rfl,rfl,rfl,rfl,rfl,rfl,rfl,rfl,rfl,trivial⟩ ?_ ?_
  ·exact ⟨by omega,by omega,hw8,by rw [hzero];exact M8,b_g⟩
  clear M M7 M8 b_g hw7 hw8 hd hn8
  rintro p w9 ⟨hp,hs9,hw9,M,b_g⟩
  refine Ae<|Ab<|Lw.val (Bh O O) O<|Af<|Aa<|Cw.out<|Ae<|Au O ?_ ?_
  ·intro h
   have hp' :p<k:=by simp at h;omega
   have hab:i / n*k+p<a.l.length:=by rw [la2];exact rc_lt r1 hp'
   have hbb:p*n+i % n<b.l.length:=by rw [lb2];exact rc_lt hp' r2
   have hla:=y_a.le
   have hlb:=y_b.le
   refine Aq<|Aa<|Cw.out<|Ae<|Cw.block<|Ae<|Ab<|Lw.val (Ad O) O<|Lw.val (Ac O) O<|Af<|Aa<|Cw.out ?_
   refine Cw.any mixed (fun w10 hd _=> ?_)
   have hw10:=bt hw9 hd
   have M10:=M.bs hd
   have b_g10:=b_g.bs hd
   have z10:=hd.size
   refine Cs (fun w' =>Below w.heap.size w w' ∧Blk w' A_t 33 [zx,zy]) (fun hC=> ?_) (⟨hw10,M10.box⟩)
   refine AwC.take (i:=0) (NoP.blk (Ah (Ah (NoP.blk (NoP.blk (Ah (Ah (NoP.blk (Ah Ar))))))))) O (by kernel_rfl) (by kernel_rfl) (by kernel_rfl) (fun w1 hc=>Ag (q:=0) Tryz.underlying33 O (sz_31 _) O) O<|AwC.take (i:=1) (NoP.blk (Ah (Ah (NoP.blk (NoP.blk (Ah (Ah (NoP.blk (Ah Ar))))))))) O (by kernel_rfl) (by kernel_rfl) (by kernel_rfl) (fun w1 hc=>Aj (ag_31 _) O (by first|exact Blk.bs (by assumption) hc.1|exact hc.2) O) O ?_
   refine AwC.take (i:=2) (NoP.blk (Ah (Ah (NoP.blk (NoP.blk (Ah (Ah (NoP.blk (Ah Ar))))))))) O (by kernel_rfl) (by kernel_rfl) (by kernel_rfl) (fun w1 hc=>Ad O) O<|AwC.take (i:=3) (NoP.blk (Ah (Ah (NoP.blk (NoP.blk (Ah (Ah (NoP.blk (Ah Ar))))))))) O (by kernel_rfl) (by kernel_rfl) (by kernel_rfl) (fun w1 hc=>Ad O) O<|AwC.take (i:=4) (NoP.blk (Ah (Ah (NoP.blk (NoP.blk (Ah (Ah (NoP.blk (Ah Ar))))))))) O (by kernel_rfl) (by kernel_rfl) (by kernel_rfl) (fun w1 hc=>Ag (q:=0) Tryz.underlying33 O (sz_31 _) O) O<|AwC.take (i:=5) (NoP.blk (Ah (Ah (NoP.blk (NoP.blk (Ah (Ah (NoP.blk (Ah Ar))))))))) O (by kernel_rfl) (by kernel_rfl) (by kernel_rfl) (fun w1 hc=>Aj (ag_31 _) O (by first|exact Blk.bs (by assumption) hc.1|exact hc.2) O) O ?_
   refine AwC.take (i:=6) (NoP.blk (Ah (Ah (NoP.blk (NoP.blk (Ah (Ah (NoP.blk (Ah Ar))))))))) O (by kernel_rfl) (by kernel_rfl) (by kernel_rfl) (fun w1 hc=>Ad O) O<|AwC.take (i:=7) (NoP.blk (Ah (Ah (NoP.blk (NoP.blk (Ah (Ah (NoP.blk (Ah Ar))))))))) O (by kernel_rfl) (by kernel_rfl) (by kernel_rfl) (fun w1 hc=>Ad O) O<|AwC.take (i:=8) (NoP.blk (Ah (Ah (NoP.blk (NoP.blk (Ah (Ah (NoP.blk (Ah Ar))))))))) O (by kernel_rfl) (by kernel_rfl) (by kernel_rfl) (fun w1 hc=>Ex.mulN O O (by omega)) O<|AwC.take (i:=9) (NoP.blk (Ah (Ah (NoP.blk (NoP.blk (Ah (Ah (NoP.blk (Ah Ar))))))))) O (by kernel_rfl) (by kernel_rfl) (by kernel_rfl) (fun w1 hc=>Ad O) O<|AwC.take (i:=10) (NoP.blk (Ah (Ah (NoP.blk (NoP.blk (Ah (Ah (NoP.blk (Ah Ar))))))))) O (by kernel_rfl) (by kernel_rfl) (by kernel_rfl) (fun w1 hc=>Ex.addN O O (by omega)) O<|AwC.take (i:=11) (NoP.blk (Ah (Ah (NoP.blk (NoP.blk (Ah (Ah (NoP.blk (Ah Ar))))))))) O (by kernel_rfl) (by kernel_rfl) (by kernel_rfl) (fun w1 hc=>Ba st_31 O O (y_a.bs hc.1) _ O hab) O<|AwC.take (i:=12) (NoP.blk (Ah (Ah (NoP.blk (NoP.blk (Ah (Ah (NoP.blk (Ah Ar))))))))) O (by kernel_rfl) (by kernel_rfl) (by kernel_rfl) (fun w1 hc=>Bg (ag_21 _) O (y_a.bs hc.1) hab) O ?_
   refine AwC.take (i:=13) (NoP.blk (Ah (Ah (NoP.blk (NoP.blk (Ah (Ah (NoP.blk (Ah Ar))))))))) O (by kernel_rfl) (by kernel_rfl) (by kernel_rfl) (fun w1 hc=>Ag (q:=0) Tryz.underlying33 O (sz_31 _) O) O<|AwC.take (i:=14) (NoP.blk (Ah (Ah (NoP.blk (NoP.blk (Ah (Ah (NoP.blk (Ah Ar))))))))) O (by kernel_rfl) (by kernel_rfl) (by kernel_rfl) (fun w1 hc=>Aj (ag_31 _) O (by first|exact Blk.bs (by assumption) hc.1|exact hc.2) O) O ?_
   refine AwC.take (i:=15) (NoP.blk (Ah (Ah (NoP.blk (NoP.blk (Ah (Ah (NoP.blk (Ah Ar))))))))) O (by kernel_rfl) (by kernel_rfl) (by kernel_rfl) (fun w1 hc=>Ad O) O<|AwC.take (i:=16) (NoP.blk (Ah (Ah (NoP.blk (NoP.blk (Ah (Ah (NoP.blk (Ah Ar))))))))) O (by kernel_rfl) (by kernel_rfl) (by kernel_rfl) (fun w1 hc=>Ad O) O<|AwC.take (i:=17) (NoP.blk (Ah (Ah (NoP.blk (NoP.blk (Ah (Ah (NoP.blk (Ah Ar))))))))) O (by kernel_rfl) (by kernel_rfl) (by kernel_rfl) (fun w1 hc=>Ex.mulN O O (by omega)) O<|AwC.take (i:=18) (NoP.blk (Ah (Ah (NoP.blk (NoP.blk (Ah (Ah (NoP.blk (Ah Ar))))))))) O (by kernel_rfl) (by kernel_rfl) (by kernel_rfl) (fun w1 hc=>Ad O) O<|AwC.take (i:=19) (NoP.blk (Ah (Ah (NoP.blk (NoP.blk (Ah (Ah (NoP.blk (Ah Ar))))))))) O (by kernel_rfl) (by kernel_rfl) (by kernel_rfl) (fun w1 hc=>Ex.addN O O (by omega)) O<|AwC.take (i:=20) (NoP.blk (Ah (Ah (NoP.blk (NoP.blk (Ah (Ah (NoP.blk (Ah Ar))))))))) O (by kernel_rfl) (by kernel_rfl) (by kernel_rfl) (fun w1 hc=>Ba st_31 O O (y_b.bs hc.1) _ O hbb) O<|AwC.take (i:=21) (NoP.blk (Ah (Ah (NoP.blk (NoP.blk (Ah (Ah (NoP.blk (Ah Ar))))))))) O (by kernel_rfl) (by kernel_rfl) (by kernel_rfl) (fun w1 hc=>Bg (ag_21 _) O (y_b.bs hc.1) hbb) O ?_
   refine AwC.only (by assumption) (i:=22) (by kernel_rfl) O ?_
   refine Lw.callV (p:=[]) O O O (gather_c G (sm p f) _ _ w10 b_g10) ?_
   rintro _ w11 ⟨rfl,b_g11,hg11⟩
   have M11:=M10.keep hg11 (by rintro _ ⟨⟩;omega)
   have hw11:=hw10.grown hg11 (below_size hw10) (by rintro _ ⟨⟩;have:=below_size hw6;omega)
   have z11:=hg11.size
   have hC11:=And.intro hw11 M11.box
   have hsm:sm p f+a.l.getD (i / n*k+p) default*b.l.getD (p*n+i % n) default=sm (p+1) f:=by rw [sm,hf]
   rw [hsm] at b_g11
   rw [hsm]
   refine AwC.back<|AwC.take (i:=23) (NoP.blk (Ah (Ah (NoP.blk (NoP.blk (Ah (Ah (NoP.blk (Ah Ar))))))))) O (by kernel_rfl) (by kernel_rfl) (by kernel_rfl) (fun w1 hc=>Cm st_31 O O M10.sly.shp i O (by rw [List.length_set];omega)) O<|AwC.only (by assumption) (i:=24) (by kernel_rfl) O ?_
   refine Ay (M11.st (sz_21 _) O O (by rw [List.length_set];omega)) ?_
   rintro w12 ⟨M12,hg12, -⟩
   have hw12:=M11.below hw11 (Nat.le_refl _) hg12
   have b_g12:=b_g11.by hg12 (fun e=>by have:=M11.lst.blk _ e.symm;omega)
   have z12:=hg12.size
   have hC12:=And.intro hw12 M12.box
   rw [List.set_set] at M12
   refine AwC.back<|Ck (by assumption) (by kernel_rfl) ?_
   refine Bo<|Aa<|Cw.out<|Ab<|Lw.val (Bc O O (by omega)) O<|Lw.val (Ad O) O<|Af ?_
   exact Aa (Bq (p+1) ⟨rfl,rfl,rfl,rfl,rfl,rfl,rfl,rfl,rfl,rfl,rfl,rfl,rfl,rfl,rfl,trivial⟩ (⟨hp',by omega,hw12,M12,b_g12⟩) (by omega))
  intro h
  have hp' :p=k:=by simp at h;omega
  subst hp'
  rw [hlast] at M
  refine Bi<|Am<|Am<|Az<|Bo<|Aa<|Cw.out<|Ab<|Lw.val (Bc O O (by omega)) O<|Lw.val (Ad O) O<|Af ?_
  exact Aa (Bq (i+1) ⟨rfl,rfl,rfl,rfl,rfl,rfl,rfl,rfl,rfl,trivial⟩ (⟨hi',hs9,hw9,M⟩) (by omega))
 intro h
 have hi' :i=m*n:=by simp at h;omega
 subst hi'
 have hall:pl.take (m*n)++(List.replicate (m*n) 0#32).drop (m*n)=pl:=by
  have:=td_all npl
  rwa [lrep] at this
 rw [hall] at M
 have b_t6:=M.box
 have b_r6:=b_r.bs hw6
 refine Bi<|Am<|Am<|Az<|Aa<|Cw.out<|Ae<|Ab<|Lw.val (Bw (ag_33 _) (sz_33 _) O O (by assumption)) O ?_
 refine Ay (Bp (cs:=[zx,zy]) O O O O (by simp [M.sh.one',M.sly.one']) b_r6 O) ?_
 rintro w9 ⟨b_r9,hg9, -⟩
 have M9:=M.keep hg9 (by rintro _ ⟨⟩;omega)
 have zW:=below_size hB
 have hB9:=(bt hB hw6).grown hg9 (below_size (bt hB hw6)) (by rintro _ ⟨⟩;omega)
 refine Lw.val (Ac O) O<|Af<|Aa<|Cw.out<|An<|Bf O O O (by assumption) (Tryz.underlying33) O O O ?_
 rw [← hm,← hnn,hL,← hpl]
 exact ⟨hB9,zx,zy,rfl,fun h=>absurd rfl h,fun _=>⟨M9.row.mono zW,own_mono M9.lst.own zW,M9.yx⟩⟩

theorem prod_c (a b:T4) (W:World) (h_a:a.at W) (h_b:b.at W):
  Fnc Tryz.prog 115 [a.v,b.v] W (fun r w' =>Below W.heap.size W w' ∧Gets W w' r (prdE a b) [a.s.getD 0 default,b.s.getD 1 default] (prdL a b)):=
 (prod0_c a b W h_a h_b).mono fun _ _ ⟨h1,h2⟩=>⟨h1,h2.gets⟩
end Go.Proofs.YtmipoeanpnnjoaaGreatDoor

/-! Contracts: the document's rows with columns. -/
namespace Go.Proofs.YtmipoeanpnnjoaaGreatDoor
open Go Go.Dd Go.RowKit
set_option maxRecDepth 100000

theorem rpshape_c (u v:Value) (a b:List Int) (W:World) (hu:SlT (Value.int .i64) W u a) (hv:SlT (Value.int .i64) W v b):
  Fnc Tryz.prog 143 [u,v] W (fun r w' =>Below W.heap.size W w' ∧PShp W w' r a b):=by
 have hB:=Below.refl W.heap.size W
 refine Ap (n:=38) Tryz.func143 (by kernel_rfl) O O O<|Ae<|Ab<|Lw.val (Ac O) O<|Lw.val (Ac O) O<|Af<|Aa<|Cw.out<|Ae<|Ae<|Ab<|Lw.val (Ad O) O<|Al O O (rcheck_c u a _ hu) ?_
 rintro _ w ⟨rfl,hn⟩
 replace hB:=hB.bs hn
 replace hu:=hu.bs hn
 replace hv:=hv.bs hn
 clear hn
 refine Lw.val (Bx O) O<|Lw.val (Ad O) O ?_
 refine Bt 9 O ?_ ?_
 ·intro g
  have e:=pshE_no (a:=a) (b:=b) (.inl (by simpa using g))
  refine Ai (dj:=9) O O O O<|Ai (dj:=9) O O O O<|Ai (dj:=9) O O O O<|Lw.val (As O O) O<|Af<|Aa<|Cw.out<|Br O<|Ae<|Ab<|Lw.val (Ac O) O<|Lw.val (Ac O) O<|Af<|Aa<|Cw.out<|An<|Ak<|Bu O O O ?_
  exact ⟨hB,_,by rw [e],fun _=>rfl,fun h=>by rw [e] at h;cases h⟩
 intro g
 have ka:Shapes.ok a=true:=by simpa using g
 refine Lw.take (dj:=9) O O<|Lw.val (Ad O) O<|Lw.take (dj:=9) O O<|Al O O (rcheck_c v b _ hv) ?_
 rintro _ w ⟨rfl,hn⟩
 replace hB:=hB.bs hn
 replace hu:=hu.bs hn
 replace hv:=hv.bs hn
 clear hn
 refine Lw.take (dj:=9) O O<|Lw.val (Bx O) O<|Lw.val (Bd O O) O<|Af<|Aa<|Cw.out<|Au O ?_ ?_
 ·intro g
  have e:=pshE_no (a:=a) (b:=b) (.inr (by simpa using g))
  refine Ae<|Ab<|Lw.val (Ac O) O<|Lw.val (Ac O) O<|Af<|Aa<|Cw.out<|An<|Ak<|Bu O O O ?_
  exact ⟨hB,_,by rw [e],fun _=>rfl,fun h=>by rw [e] at h;cases h⟩
 intro g
 have kb:Shapes.ok b=true:=by simpa using g
 refine Aq<|Aa<|Cw.out<|Ae<|Ae<|B5 mixed (by kernel_rfl)<|Qw.val (fun w1 hq=>Ad O) O<|Qw.val (fun w1 hq=>Av st_23 O (Sl.bs (by assumption) hq)) O ?_
 refine Qw.val (fun w1 hq=>B7 O O) O<|Qw.val (fun w1 hq=>Ad O) O ?_
 refine Cl 17 O ?_ ?_
 ·intro g
  have e:pshE a b=10:=pshE_ten ka kb fun h=>by simp [h.1] at g
  refine Ao (dj:=17) O O O O<|Ao (dj:=17) O O O O<|Ao (dj:=17) O O O O<|Qw.val (fun w1 hq=>As O O) O<|Qw.val (fun w1 hq=>Ad O) O<|Ao (dj:=22) O O O O<|Ao (dj:=22) O O O O<|Ao (dj:=22) O O O O<|Ao (dj:=22) O O O O<|Ao (dj:=22) O O O O<|Ao (dj:=22) O O O O<|Ao (dj:=22) O O O O<|Qw.val (fun w1 hq=>As O O) O ?_
  refine B3 (fun w2 hq=> ?_)
  refine Aa<|Cw.out<|Br O<|Ae<|Ab<|Lw.val (Ac O) O<|Lw.val (Ac O) O<|Af<|Aa<|Cw.out<|An<|Ak<|Bu O O O ?_
  exact ⟨bt hB hq,_,by rw [e],fun _=>rfl,fun h=>by rw [e] at h;cases h⟩
 intro g
 have la:a.length=2:=by simp at g;omega
 refine Qw.take (dj:=17) O O<|Qw.val (fun w1 hq=>Ad O) O<|Qw.take (dj:=17) O O<|Qw.val (fun w1 hq=>Av st_23 O (Sl.bs (by assumption) hq)) O ?_
 refine Qw.take (dj:=17) O O<|Qw.val (fun w1 hq=>B7 O O) O<|Qw.val (fun w1 hq=>Bd O O) O<|Qw.val (fun w1 hq=>Ad O) O ?_
 refine Cl 22 O ?_ ?_
 ·intro g
  have e:pshE a b=10:=pshE_ten ka kb fun h=>by simp [h.2.1] at g
  refine Ao (dj:=22) O O O O<|Ao (dj:=22) O O O O<|Ao (dj:=22) O O O O<|Ao (dj:=22) O O O O<|Ao (dj:=22) O O O O<|Ao (dj:=22) O O O O<|Ao (dj:=22) O O O O<|Qw.val (fun w1 hq=>As O O) O ?_
  refine B3 (fun w2 hq=> ?_)
  refine Aa<|Cw.out<|Br O<|Ae<|Ab<|Lw.val (Ac O) O<|Lw.val (Ac O) O<|Af<|Aa<|Cw.out<|An<|Ak<|Bu O O O ?_
  exact ⟨bt hB hq,_,by rw [e],fun _=>rfl,fun h=>by rw [e] at h;cases h⟩
 intro g
 have lb:b.length=2:=by simp at g;omega
 refine Qw.take (dj:=22) O O<|Qw.val (fun w1 hq=>Ad O) O<|Qw.take (dj:=22) O O<|Qw.val (fun w1 hq=>Ba st_23 O O (Sl.bs (by assumption) hq) 1 O (by omega)) O ?_
 refine Qw.take (dj:=22) O O<|Qw.val (fun w1 hq=>Bg (ag_3 _) O (Sl.bs (by assumption) hq) (by omega)) O ?_
 refine Qw.take (dj:=22) O O<|Qw.val (fun w1 hq=>Ad O) O<|Qw.take (dj:=22) O O<|Qw.val (fun w1 hq=>Ba st_23 O O (Sl.bs (by assumption) hq) 0 O (by omega)) O ?_
 refine Qw.take (dj:=22) O O<|Qw.val (fun w1 hq=>Bg (ag_3 _) O (Sl.bs (by assumption) hq) (by omega)) O ?_
 refine Qw.take (dj:=22) O O<|Qw.val (fun w1 hq=>B7 O O) O<|Qw.val (fun w1 hq=>Bd O O) O ?_
 refine B3 (fun w2 hq=> ?_)
 refine Aa<|Cw.out<|Au O ?_ ?_
 ·intro g
  have e:pshE a b=10:=pshE_ten ka kb fun h=>by simp at g;exact g (by simpa using h.2.2)
  refine Ae<|Ab<|Lw.val (Ac O) O<|Lw.val (Ac O) O<|Af<|Aa<|Cw.out<|An<|Ak<|Bu O O O ?_
  exact ⟨bt hB hq,_,by rw [e],fun _=>rfl,fun h=>by rw [e] at h;cases h⟩
 intro g
 have e:pshE a b=0:=pshE_yes ka kb ⟨la,lb,by simpa using g⟩
 replace hB:=hB.bs hq
 replace hu:=hu.bs hq
 replace hv:=hv.bs hq
 clear hq
 refine Aq<|Aa<|Cw.out<|Ae<|Cw.tail 6 mixed (by kernel_rfl)<|Qw.val (fun w1 hq=>Ad O) O<|Qw.val (fun w1 hq=>Ba st_23 O O (Sl.bs (by assumption) hq) 0 O (by omega)) O ?_
 refine Qw.val (fun w1 hq=>Bg (ag_3 _) O (Sl.bs (by assumption) hq) (by omega)) O ?_
 refine Qw.val (fun w1 hq=>Ad O) O<|Qw.val (fun w1 hq=>Ba st_23 O O (Sl.bs (by assumption) hq) 1 O (by omega)) O ?_
 refine Qw.val (fun w1 hq=>Bg (ag_3 _) O (Sl.bs (by assumption) hq) (by omega)) O ?_
 refine Cj (fun w3 hq=> ?_)
 replace hB:=hB.bs hq
 replace hu:=hu.bs hq
 replace hv:=hv.bs hq
 clear hq
 refine Bl (Cp (vs:=[a.getD 0 default,b.getD 1 default].map (Value.int .i64)) st_23 it_3 O O O O O) O ?_
 rintro x w4 ⟨ho, -,hn, -⟩
 have z:=hB.size
 replace hB:=hB.bs hn
 replace hu:=hu.bs hn
 replace hv:=hv.bs hn
 refine Lw.val (Ac O) O<|Lw.val (Ac O) O<|Af<|Aa<|Cw.out<|An<|Bu O O O ?_
 exact ⟨hB,x,by rw [e],fun h=>absurd e h,fun _=>own_mono ho z⟩

theorem rprod_c (a b:T4) (W:World) (h_a:a.at W) (h_b:b.at W):
  Fnc Tryz.prog 39 [a.v,b.v] W (fun r w' =>Below W.heap.size W w' ∧Ans0 W w' r (prdE a b) [a.s.getD 0 default,b.s.getD 1 default] (prdL a b)):=by
 have hB:=Below.refl W.heap.size W
 refine Ap (n:=100) Tryz.func39 (by kernel_rfl) O O O<|Ae<|Ab<|Bv (cs:=[a.x,a.y]) O O O ?_
 rintro A_a w eA_a b_a hn -
 replace hB:=hB.bs hn
 replace h_a:=h_a.bs hn
 replace h_b:=h_b.bs hn
 clear hn
 refine Bv (cs:=[b.x,b.y]) O O O ?_
 rintro A_b w eA_b b_b hn -
 replace hB:=hB.bs hn
 replace h_a:=h_a.bs hn
 replace h_b:=h_b.bs hn
 replace b_a:=b_a.bs hn
 clear hn
 have z0:=below_size hB
 refine B8 it_33 O ?_
 rintro A_r w eA_r b_r hn -
 replace hB:=hB.bs hn
 replace h_a:=h_a.bs hn
 replace h_b:=h_b.bs hn
 replace b_a:=b_a.bs hn
 replace b_b:=b_b.bs hn
 clear hn
 refine Lw.val (Ac O) O<|Af<|Aa<|Cw.out<|Ae<|Ae<|Ab<|Lw.val (Bw (ag_33 _) (sz_33 _) O O (by assumption)) O ?_
 have z_r:=blk_lt b_r
 have zr:W.heap.size≤A_r:=by omega
 refine Al O O (rtcheck_c a.x a.y a.s a.l _ h_a.1 h_a.2) ?_
 rintro _ w ⟨rfl,hn⟩
 replace hB:=hB.bs hn
 replace h_a:=h_a.bs hn
 replace h_b:=h_b.bs hn
 replace b_a:=b_a.bs hn
 replace b_b:=b_b.bs hn
 replace b_r:=b_r.bs hn
 clear hn
 refine Lw.val (Bx O) O<|Lw.val (Ad O) O ?_
 refine Bt 17 O ?_ ?_
 ·intro g
  have e:prdE a b=1:=by unfold prdE;rw [if_neg];simp at g;simp [g]
  refine Ai (dj:=17) O O O O<|Ai (dj:=17) O O O O<|Ai (dj:=17) O O O O<|Lw.val (As O O) O<|Af<|Aa<|Cw.out<|Br O<|Ae<|Ab<|Lw.val (Bn (vs:=[]) (cs:=[.slice none 0 0, .slice none 0 0]) O (by kernel_rfl)) O ?_
  have b_r1:=b_r
  refine Ay (Bp (cs:=[.slice none 0 0, .slice none 0 0]) O O O O O b_r O) ?_
  rintro w9 ⟨b_r,hg, -⟩
  have hB:=hB.grown hg (below_size hB) (by rintro _ ⟨⟩;omega)
  refine Lw.val (Ac O) O<|Af<|Aa<|Cw.out<|An<|Ak<|Bf O O O (by assumption) (Tryz.underlying33) O O O ?_
  exact ⟨hB,_,_,by rw [e],fun _=>⟨rfl,rfl⟩,fun h=>by rw [e] at h;cases h⟩
 intro g
 have t_a:tok a.s a.l=true:=by simpa using g
 refine Lw.take (dj:=17) O O<|Lw.val (Bw (ag_33 _) (sz_33 _) O O (by assumption)) O ?_
 refine Lw.take (dj:=17) O O<|Al O O (rtcheck_c b.x b.y b.s b.l _ h_b.1 h_b.2) ?_
 rintro _ w ⟨rfl,hn⟩
 replace hB:=hB.bs hn
 replace h_a:=h_a.bs hn
 replace h_b:=h_b.bs hn
 replace b_a:=b_a.bs hn
 replace b_b:=b_b.bs hn
 replace b_r:=b_r.bs hn
 clear hn
 refine Lw.take (dj:=17) O O<|Lw.val (Bx O) O<|Lw.val (Bd O O) O<|Af<|Aa<|Cw.out<|Au O ?_ ?_
 ·intro g
  have e:prdE a b=1:=by unfold prdE;rw [if_neg];simp at g;simp [g]
  refine Ae<|Ab<|Lw.val (Bn (vs:=[]) (cs:=[.slice none 0 0, .slice none 0 0]) O (by kernel_rfl)) O ?_
  have b_r1:=b_r
  refine Ay (Bp (cs:=[.slice none 0 0, .slice none 0 0]) O O O O O b_r O) ?_
  rintro w9 ⟨b_r,hg, -⟩
  have hB:=hB.grown hg (below_size hB) (by rintro _ ⟨⟩;omega)
  refine Lw.val (Ac O) O<|Af<|Aa<|Cw.out<|An<|Ak<|Bf O O O (by assumption) (Tryz.underlying33) O O O ?_
  exact ⟨hB,_,_,by rw [e],fun _=>⟨rfl,rfl⟩,fun h=>by rw [e] at h;cases h⟩
 intro g
 have t_b:tok b.s b.l=true:=by simpa using g
 have ee:prdE a b=pshE a.s b.s:=by unfold prdE;rw [t_a,t_b];rfl
 refine Aq<|Aa<|Cw.out<|Ae<|Ab<|Lw.val (Ag (q:=0) Tryz.underlying33 O (sz_23 _) O) O<|Lw.val (Aj (ag_23 _) O (by assumption) O) O ?_
 refine Lw.val (Ag (q:=0) Tryz.underlying33 O (sz_23 _) O) O<|Lw.val (Aj (ag_23 _) O (by assumption) O) O ?_
 refine Al O O (rpshape_c a.x b.x a.s b.s w h_a.1 h_b.1) ?_
 rintro _ w ⟨hn,sv,rfl,hs1,hs2⟩
 have z2:=below_size hB
 replace hB:=hB.bs hn
 replace h_a:=h_a.bs hn
 replace h_b:=h_b.bs hn
 replace b_a:=b_a.bs hn
 replace b_b:=b_b.bs hn
 replace b_r:=b_r.bs hn
 clear hn
 refine Lw.val (Ad O) O<|Lw.val (Ax (i:=0) O O) O<|Lw.val (Ax (i:=1) O O) O<|Lw.val (Ac O) O<|Lw.val (Ac O) O<|Af<|Aa<|Cw.out<|Ae<|Ae<|Ab<|Lw.val (Ad O) O<|Lw.val (B7 O O) O<|Af<|Aa<|Cw.out<|Au O ?_ ?_
 ·intro g
  have hne:pshE a.s b.s≠0:=by simpa using g
  refine Ae<|Ab<|Lw.val (Bn (vs:=[]) (cs:=[.slice none 0 0, .slice none 0 0]) O (by kernel_rfl)) O<|Lw.val (Ad O) O<|Ay (Bp (cs:=[.slice none 0 0, .slice none 0 0]) O O O O O b_r O) ?_
  rintro w9 ⟨b_r,hg, -⟩
  have hB:=hB.grown hg (below_size hB) (by rintro _ ⟨⟩;omega)
  refine Lw.val (Ac O) O<|Af<|Aa<|Cw.out<|An<|Ak<|Bf O O O (by assumption) (Tryz.underlying33) O O O ?_
  exact ⟨hB,_,_,by rw [ee],fun _=>⟨rfl,rfl⟩,fun h=>absurd (ee ▸ h) hne⟩
 intro g
 have e0:pshE a.s b.s=0:=by simpa using g
 have hsv:=hs2 e0
 have e0' :=ee.trans e0
 obtain ⟨la,lb,hmid⟩:a.s.length=2∧b.s.length=2∧a.s.getD 1 default=b.s.getD 0 default:=by
  have:=e0
  unfold pshE at this
  rw [(tok_ok t_a).1,(tok_ok t_b).1] at this
  simp only [Bool.and_self,if_true] at this
  split at this
  ·assumption
  ·cases this
 have ka:=(tok_ok t_a).1
 have kb:=(tok_ok t_b).1
 have d0:=ok_dims ka (i:=0) (by omega)
 have d1:=ok_dims kb (i:=1) (by omega)
 have d2:=ok_dims kb (i:=0) (by omega)
 obtain ⟨m,hm⟩:∃m:Nat,(m:Int)=a.s.getD 0 default:=⟨(a.s.getD 0 default).toNat,by omega⟩
 obtain ⟨n,hnn⟩:∃n:Nat,(n:Int)=b.s.getD 1 default:=⟨(b.s.getD 1 default).toNat,by omega⟩
 obtain ⟨k,hk⟩:∃k:Nat,(k:Int)=b.s.getD 0 default:=⟨(b.s.getD 0 default).toNat,by omega⟩
 have hL:prdL a b=prd m k n a.l b.l:=by unfold prdL;rw [← hm,← hnn,← hk];rfl
 have hmn:=mul64 d0 d1
 rw [← hm,← hnn] at hmn
 have hok:Shapes.ok [(m:Int),(n:Int)]=true:=by rw [hm,hnn];exact two_ok d0 d1 (by rw [← hm,← hnn];exact hmn.2)
 have hsz:(Shapes.size [(m:Int),(n:Int)]).toNat=m*n:=by
  rw [Shapes.size_ok hok]
  simp [Shapes.prod]
  exact_mod_cast Int.toNat_natCast (m*n)
 have la2:a.l.length=m*k:=by
  have h1:=(tok_ok t_a).2
  rw [size_two ka la,hmid,← hm,← hk] at h1
  rw [h1];exact_mod_cast Int.toNat_natCast (m*k)
 have lb2:b.l.length=k*n:=by
  have h1:=(tok_ok t_b).2
  rw [size_two kb lb,← hnn,← hk] at h1
  rw [h1];exact_mod_cast Int.toNat_natCast (k*n)
 rw [← hm,← hnn] at hsv
 rw [e0']
 have sl_s:=own_slT hsv
 refine Aq<|Aa<|Cw.out<|Ae<|Ab<|Lw.val (Ad O) O<|Al O O (rnew_c sv [(m:Int),(n:Int)] w sl_s) ?_
 rintro r w3 ⟨hn3,hcase⟩
 obtain ⟨zx,zy,rfl,hz⟩:∃x y,r= .tuple #[.agg #[x,y], .int .i64 0]∧Made1 w w3 x y [(m:Int),(n:Int)] (List.replicate (m*n) 0#32):=by
  rw [hsz] at hcase
  rcases hcase with ⟨_,h⟩|⟨h,_⟩
  ·exact h
  ·rw [hok] at h;cases h
 refine Lw.val (Ad O) O<|Lw.val (Ax (i:=0) O O) O<|Lw.val (Ax (i:=1) O O) O<|Cb (cs:=[zx,zy]) it_33 O O O O (fun _=>rfl) (hz.one) ?_
 rintro A_t w4 eA_t b_t hn4 zhn4
 have M:=mine_new hz eA_t b_t hn4 zhn4 hn3.size
 have hw4:=bt hn3 hn4
 clear hz b_t hcase eA_t hn3 hn4 zhn4
 have lrep:(List.replicate (m*n) 0#32).length=m*n:=by rw [List.length_replicate]
 obtain ⟨pl,hpl⟩:∃pl,pl=prd m k n a.l b.l:=⟨_,rfl⟩
 have npl:pl.length=(List.replicate (m*n) 0#32).length:=by rw [hpl,prd_length,lrep]
 have hmid' :(k:Int)=a.s.getD 1 default:=by rw [hk,hmid]
 have y_a:=h_a.2
 have y_b:=h_b.2
 have x_a:=h_a.1
 have x_b:=h_b.1
 have zrw:=blk_lt b_r
 refine Lw.val (Ac O) O<|Af<|Aa<|Cw.out<|Ae<|Ae<|Ab<|Lw.val (Ac O) O<|Af<|Aa<|Cw.out<|Cw.block ?_
 refine Bj (S:=Nat) (fun i=>[(2, .pointer (some ⟨A_a,0,none⟩)),(3, .pointer (some ⟨A_b,0,none⟩)),(4, .pointer (some ⟨A_r,0,none⟩)),(5, .int .i64 0),(6,sv),(8, .pointer (some ⟨A_t,0,none⟩)),(10, .int .i64 (i:Int))]) (fun i w' =>i≤m∧Below w.heap.size w w' ∧MineT w' w.heap.size w4.heap.size A_t zx zy [(m:Int),(n:Int)] (pl.take (i*n)++(List.replicate (m*n) 0#32).drop (i*n))) (fun i=>m - i) (0) ⟨rfl,rfl,rfl,rfl,rfl,rfl,rfl,trivial⟩ ?_ ?_
 ·exact ⟨by omega,hw4,by rw [Nat.zero_mul,td_zero];exact M⟩
 clear M hw4
 rintro i w6 ⟨hi,hw6,M⟩
 have s6:=sl_s.bs hw6
 refine Ae<|Ae<|Ab<|Lw.val (Ad O) O<|Lw.val (Ad O) O<|Lw.val (Cm st_23 O O s6.shp 0 O (by simp)) O<|Lw.val ((Bg (ag_3 _) O s6 (by simp)).as (u:= .int .i64 (m:Int)) O) O<|Lw.val (Bh O O) O<|Af<|Aa<|Cw.out<|Au O ?_ ?_
 ·intro h
  have hi' :i<m:=by simp at h;omega
  refine Aq<|Aa<|Cw.out<|Ae<|Cw.block<|Ae<|Ab<|Lw.val (Ac O) O<|Af<|Aa<|Cw.out<|Cw.block ?_
  refine Bj (S:=Nat) (fun j=>[(2, .pointer (some ⟨A_a,0,none⟩)),(3, .pointer (some ⟨A_b,0,none⟩)),(4, .pointer (some ⟨A_r,0,none⟩)),(5, .int .i64 0),(6,sv),(8, .pointer (some ⟨A_t,0,none⟩)),(10, .int .i64 (i:Int)),(11, .int .i64 (j:Int))]) (fun j w' =>j≤n∧Below w.heap.size w w' ∧MineT w' w.heap.size w4.heap.size A_t zx zy [(m:Int),(n:Int)] (pl.take (i*n+j)++(List.replicate (m*n) 0#32).drop (i*n+j))) (fun j=>n - j) (0) ⟨rfl,rfl,rfl,rfl,rfl,rfl,rfl,rfl,trivial⟩ ?_ ?_
  ·exact ⟨by omega,hw6,by rw [Nat.add_zero];exact M⟩
  clear M hw6 s6
  rintro j w7 ⟨hj,hw7,M⟩
  have s7:=sl_s.bs hw7
  refine Ae<|Ae<|Ab<|Lw.val (Ad O) O<|Lw.val (Ad O) O<|Lw.val (Cm st_23 O O s7.shp 1 O (by simp)) O<|Lw.val ((Bg (ag_3 _) O s7 (by simp)).as (u:= .int .i64 (n:Int)) O) O<|Lw.val (Bh O O) O<|Af<|Aa<|Cw.out<|Au O ?_ ?_
  ·intro h
   have hj' :j<n:=by simp at h;omega
   obtain ⟨f,hf⟩:∃f:Nat→BitVec 32,f=fun p=>a.l.getD (i*k+p) default*b.l.getD (p*n+j) default:=⟨_,rfl⟩
   refine Aq<|Aa<|Cw.out<|Ae<|Cw.block<|Ae<|Ab<|Lw.val (Ac (show _=some (i32 (0#32)) from rfl)) O<|Af<|Aa<|Cw.out<|Ae<|Ae<|Ab<|Lw.val (Ac O) O<|Af<|Aa<|Cw.out<|Cw.block ?_
   refine Bj (S:=Nat) (fun p=>[(2, .pointer (some ⟨A_a,0,none⟩)),(3, .pointer (some ⟨A_b,0,none⟩)),(4, .pointer (some ⟨A_r,0,none⟩)),(5, .int .i64 0),(6,sv),(8, .pointer (some ⟨A_t,0,none⟩)),(10, .int .i64 (i:Int)),(11, .int .i64 (j:Int)),(12,i32 (sm p f)),(13, .int .i64 (p:Int))]) (fun p w' =>p≤k∧Below w.heap.size w w' ∧MineT w' w.heap.size w4.heap.size A_t zx zy [(m:Int),(n:Int)] (pl.take (i*n+j)++(List.replicate (m*n) 0#32).drop (i*n+j))) (fun p=>k - p) (0) ⟨rfl,rfl,rfl,rfl,rfl,rfl,rfl,rfl,rfl,rfl,trivial⟩ ?_ ?_
   ·exact ⟨by omega,hw7,M⟩
   clear M hw7 s7
   rintro p w8 ⟨hp,hw8,M⟩
   have s8:=sl_s.bs hw8
   have xb8:=x_b.bs hw8
   have xa8:=x_a.bs hw8
   have yb8:=y_b.bs hw8
   have ya8:=y_a.bs hw8
   have ba8:=b_a.bs hw8
   have bb8:=b_b.bs hw8
   refine Ae<|Ae<|Ab<|Lw.val (Ad O) O<|Lw.val (Ag (q:=0) Tryz.underlying33 O (sz_23 _) O) O<|Lw.val (Aj (ag_23 _) O (by assumption) O) O ?_
   refine Lw.val (Cm st_23 O O xb8.shp 0 O (by omega)) O<|Lw.val ((Bg (ag_3 _) O xb8 (by omega)).as (congrArg (Value.int .i64) hk.symm)) O<|Lw.val (Bh O O) O<|Af<|Aa<|Cw.out<|Au O ?_ ?_
   ·intro h
    have hp' :p<k:=by simp at h;omega
    have hab:i*k+p<a.l.length:=by rw [la2];exact rc_lt hi' hp'
    have hbb:p*n+j<b.l.length:=by rw [lb2];exact rc_lt hp' hj'
    have hla:=ya8.le
    have hlb:=yb8.le
    have hsm:sm p f+a.l.getD (i*k+p) default*b.l.getD (p*n+j) default=sm (p+1) f:=by rw [sm,hf]
    refine Aq<|Aa<|Cw.out<|Ae<|Cw.block<|B5 mixed (by kernel_rfl)<|Qw.val (fun w1 hq=>Ad O) O<|Qw.val (fun w1 hq=>Ag (q:=0) Tryz.underlying33 O (sz_31 _) O) O<|Qw.val (fun w1 hq=>Aj (ag_31 _) O (Blk.bs (by assumption) hq) O) O ?_
    refine Qw.val (fun w1 hq=>Ad O) O<|Qw.val (fun w1 hq=>Ag (q:=0) Tryz.underlying33 O (sz_23 _) O) O<|Qw.val (fun w1 hq=>Aj (ag_23 _) O (Blk.bs (by assumption) hq) O) O ?_
    refine Qw.val (fun w1 hq=>Cm st_23 O O xa8.shp 1 O (by omega)) O<|Qw.val (fun w1 hq=>(Bg (ag_3 _) O (xa8.bs hq) (by omega)).as (congrArg (Value.int .i64) hmid'.symm)) O<|Qw.val (fun w1 hq=>Ex.mulN O O (by omega)) O<|Qw.val (fun w1 hq=>Ad O) O<|Qw.val (fun w1 hq=>Ex.addN O O (by omega)) O<|Qw.val (fun w1 hq=>Ba st_31 O O (ya8.bs hq) _ O hab) O<|Qw.val (fun w1 hq=>Bg (ag_21 _) O (ya8.bs hq) hab) O<|Qw.val (fun w1 hq=>Ag (q:=0) Tryz.underlying33 O (sz_31 _) O) O<|Qw.val (fun w1 hq=>Aj (ag_31 _) O (Blk.bs (by assumption) hq) O) O ?_
    refine Qw.val (fun w1 hq=>Ad O) O<|Qw.val (fun w1 hq=>Ad O) O<|Qw.val (fun w1 hq=>Cm st_23 O O s8.shp 1 O (by simp)) O<|Qw.val (fun w1 hq=>(Bg (ag_3 _) O (s8.bs hq) (by simp)).as (u:= .int .i64 (n:Int)) O) O<|Qw.val (fun w1 hq=>Ex.mulN O O (by omega)) O<|Qw.val (fun w1 hq=>Ad O) O<|Qw.val (fun w1 hq=>Ex.addN O O (by omega)) O<|Qw.val (fun w1 hq=>Ba st_31 O O (yb8.bs hq) _ O hbb) O<|Qw.val (fun w1 hq=>Bg (ag_21 _) O (yb8.bs hq) hbb) O<|Qw.val (fun w1 hq=>Ex.muli32 O O) O<|Qw.val (fun w1 hq=>Cy O O) O<|Qw.val (fun w1 hq=>Ac O) O ?_
    refine B3 (fun w9 hq=> ?_)
    refine Bo<|Aa<|Cw.out<|Ab<|Lw.val (Ad O) O<|Lw.val (Bc O O (by omega)) O<|Lw.val (Ac O) O<|Af ?_
    exact Aa (Bq (p+1) ⟨rfl,rfl,rfl,rfl,rfl,rfl,rfl,rfl,(by rw [← hsm];rfl),rfl,trivial⟩ (⟨hp',bt hw8 hq,M.bs hq⟩) (by omega))
   intro h
   have hp' :p=k:=by simp at h;omega
   subst hp'
   have hq0:i*n+j<m*n:=rc_lt hi' hj'
   have hir:i*n+j<(List.replicate (m*n) 0#32).length:=by rw [lrep];exact hq0
   have hfull:pl.getD (i*n+j) default=sm p f:=by rw [hpl,hf];exact prd_at (k:=p) a.l b.l hi' hj'
   have hlast:(pl.take (i*n+j)++(List.replicate (m*n) 0#32).drop (i*n+j)).set (i*n+j) (sm p f)=pl.take (i*n+(j+1))++(List.replicate (m*n) 0#32).drop (i*n+(j+1)):=by rw [← hfull];exact td_set npl hir
   have lt:(pl.take (i*n+j)++(List.replicate (m*n) 0#32).drop (i*n+j)).length=m*n:=by rw [td_len npl,lrep]
   have b_t8:=M.box
   have y_t8:=M.sly
   refine Bi<|Am<|Am<|Az<|Aa<|Cw.out<|Cw.tail 11 mixed (by kernel_rfl)<|Qw.val (fun w1 hq=>Ag (q:=0) Tryz.underlying33 O (sz_31 _) O) O<|Qw.val (fun w1 hq=>Aj (ag_31 _) O (Blk.bs (by assumption) hq) O) O ?_
   refine Qw.val (fun w1 hq=>Ad O) O<|Qw.val (fun w1 hq=>Ad O) O<|Qw.val (fun w1 hq=>Cm st_23 O O s8.shp 1 O (by simp)) O<|Qw.val (fun w1 hq=>(Bg (ag_3 _) O (s8.bs hq) (by simp)).as (u:= .int .i64 (n:Int)) O) O<|Qw.val (fun w1 hq=>Ex.mulN O O (by omega)) O<|Qw.val (fun w1 hq=>Ad O) O<|Qw.val (fun w1 hq=>Ex.addN O O (by omega)) O<|Qw.val (fun w1 hq=>Ad O) O<|Qw.val (fun w1 hq=>Ba st_31 O O (y_t8.bs hq) _ O (by omega)) O ?_
   refine Cj (fun w9 hq=> ?_)
   refine Ay ((M.bs hq).st (sz_21 _) O O (by omega)) ?_
   rintro w10 ⟨M10,hg10, -⟩
   rw [hlast] at M10
   refine Af<|Bo<|Aa<|Cw.out<|Ab<|Lw.val (Ad O) O<|Lw.val (Bc O O (by omega)) O<|Lw.val (Ac O) O<|Af ?_
   exact Aa (Bq (j+1) ⟨rfl,rfl,rfl,rfl,rfl,rfl,rfl,rfl,trivial⟩ (⟨hj',(M.bs hq).below (bt hw8 hq) (Nat.le_refl _) hg10,M10⟩) (by omega))
  intro h
  have hj' :j=n:=by simp at h;omega
  subst hj'
  refine Bi<|Am<|Am<|Az<|Bo<|Aa<|Cw.out<|Ab<|Lw.val (Ad O) O<|Lw.val (Bc O O (by omega)) O<|Lw.val (Ac O) O<|Af ?_
  exact Aa (Bq (i+1) ⟨rfl,rfl,rfl,rfl,rfl,rfl,rfl,trivial⟩ (⟨hi',hw7,by rw [Nat.succ_mul];exact M⟩) (by omega))
 intro h
 have hi' :i=m:=by simp at h;omega
 subst hi'
 have hall:pl.take (i*n)++(List.replicate (i*n) 0#32).drop (i*n)=pl:=by
  have:=td_all npl
  rwa [lrep] at this
 rw [hall] at M
 have b_t6:=M.box
 have b_r6:=b_r.bs hw6
 refine Bi<|Am<|Am<|Az<|Aa<|Cw.out<|Ae<|Ab<|Lw.val (Bw (ag_33 _) (sz_33 _) O O (by assumption)) O ?_
 refine Ay (Bp (cs:=[zx,zy]) O O O O (by simp [M.sh.one',M.sly.one']) b_r6 O) ?_
 rintro w9 ⟨b_r9,hg9, -⟩
 have M9:=M.keep hg9 (by rintro _ ⟨⟩;omega)
 have zW:=below_size hB
 have hB9:=(bt hB hw6).grown hg9 (below_size (bt hB hw6)) (by rintro _ ⟨⟩;omega)
 refine Lw.val (Ac O) O<|Af<|Aa<|Cw.out<|An<|Bf O O O (by assumption) (Tryz.underlying33) O O O ?_
 rw [← hm,← hnn,hL,← hpl]
 exact ⟨hB9,zx,zy,rfl,fun h=>absurd rfl h,fun _=>⟨M9.row.mono zW,own_mono M9.lst.own zW,M9.yx⟩⟩
end Go.Proofs.YtmipoeanpnnjoaaGreatDoor

/-! Contracts: windows' shapes, spots, pictures. -/
namespace Go.Proofs.YtmipoeanpnnjoaaGreatDoor
open Go Go.Dd Go.RowKit
set_option maxRecDepth 100000

theorem slides_c (rows look step:Int) (w:World) (h1:0≤rows∧rows≤1000000) (h2:0≤look∧look≤1000000) (h3:1≤step∧step≤1000000):
  Fnc Tryz.prog 240 [.int .i64 rows, .int .i64 look, .int .i64 step] w (fun r w' =>r= .int .i64 (slid rows look step)∧Below w.heap.size w w'):=by
 refine Ap (n:=16) Tryz.func240 (by kernel_rfl) O O O<|Ae<|Ab<|Lw.val (Ac O) O<|Af<|Aa<|Cw.out<|Ae<|Ae<|Ab<|Lw.val (Ad O) O<|Lw.val (Ad O) O<|Lw.val (Bh O O) O<|Af<|Aa<|Cw.out<|Au O ?_ ?_
 ·intro g
  have g:=of_decide_eq_true g
  refine Ae<|Ab<|Lw.val (Ac O) O<|Af<|Aa<|Cw.out<|An<|Ak<|Bb O O ?_
  exact ⟨by rw [slid,if_pos g],Below.refl _ _⟩
 intro g
 have g:=of_decide_eq_false g
 have h4:=Int.ediv_le_self step (show 0≤rows - look by omega)
 have h5:=Int.ediv_nonneg (show 0≤rows - look by omega) (show 0≤step by omega)
 refine Aq<|Aa<|Cw.out<|Ae<|Ab<|Lw.val (Ad O) O<|Lw.val (Ad O) O<|Lw.val (Cx O O (by omega)) O<|Lw.val (Ad O) O<|Lw.val (Ct O O (by omega) (by omega)) O<|Lw.val (Bc O O (by omega)) O<|Lw.val (Ac O) O<|Af<|Aa<|Cw.out<|An<|Bb O O ?_
 exact ⟨by rw [slid,if_neg g],Below.refl _ _⟩
/-- An answer: whole numbers in memory of their own, or none. -/
def GotI (W w:World) (r:Value) (e:Int) (l:List Int):Prop:=
 ∃(x:Value) (m:List Int),r= .tuple #[x, .int .i64 e]∧w.ownsRow W.heap.size 3 1 x m.length (m.map (Value.int .i64))∧(e≠0→x= .slice none 0 0∧m=[])∧(e=0→m=l)
theorem gotI_no {W w:World} {e:Int} {l:List Int} (h:e≠0):GotI W w (.tuple #[.slice none 0 0, .int .i64 e]) e l:=⟨_,[],rfl,World.ownsRow_nil _ _ _ _,fun _=>⟨rfl,rfl⟩,fun h0=>absurd h0 h⟩
theorem wshB_1 {t s:List Int} (h:¬t.length=3):wshB t s=false:=by simp only [wshB,decide_eq_false h,Bool.false_and]
theorem wshB_2 {t s:List Int} (h:¬s.length=4):wshB t s=false:=by simp only [wshB,decide_eq_false h,Bool.false_and,Bool.and_false]
theorem wshB_3 {t s:List Int} (h:¬t.getD 0 default=s.getD 1 default):wshB t s=false:=by simp only [wshB,decide_eq_false h,Bool.and_false]
theorem wshape_c (t s:List Int) (step pad:Int) (u v:Value) (W:World) (h_u:SlT (Value.int .i64) W u t) (h_v:SlT (Value.int .i64) W v s):
  Fnc Tryz.prog 223 [u,v, .int .i64 step, .int .i64 pad] W (fun r w' =>Below W.heap.size W w' ∧GotI W w' r (wshE t s step pad) (wshS t s step pad)):=by
 have hB:=Below.refl W.heap.size W
 refine Ap (n:=84) Tryz.func223 (by kernel_rfl) O O O<|Ae<|Ab<|Lw.val (Ac O) O<|Lw.val (Ac O) O<|Af<|Aa<|Cw.out<|Ae<|Cw.block<|Ae<|Ab<|Lw.val (Ad O) O<|Al O O (check_c u t _ h_u) ?_
 rintro _ w ⟨rfl,hn⟩
 replace hB:=hB.bs hn
 replace h_u:=h_u.bs hn
 replace h_v:=h_v.bs hn
 clear hn
 refine Lw.val (Bx O) O<|Lw.val (Ad O) O ?_
 refine Bt 15 O ?_ ?_
 ·intro g1
  refine Ai (dj:=15) O O O O<|Ai (dj:=15) O O O O<|Ai (dj:=15) O O O O<|Lw.val (As O O) O<|Lw.val (Ad O) O<|Ai (dj:=20) O O O O<|Ai (dj:=20) O O O O<|Lw.val (As O O) O<|Lw.val (Ad O) O<|Ai (dj:=24) O O O O<|Ai (dj:=24) O O O O<|Lw.val (As O O) O<|Lw.val (Ad O) O<|Ai (dj:=28) O O O O<|Ai (dj:=28) O O O O<|Lw.val (As O O) O<|Lw.val (Ad O) O<|Ai (dj:=32) O O O O<|Ai (dj:=32) O O O O<|Lw.val (As O O) O<|Lw.val (Ac O) O<|Af<|Aa<|Cw.out<|Br O<|Ae<|Ab<|Lw.val (Ac O) O<|Lw.val (Ac O) O<|Af<|Aa<|Cw.out<|An<|Bk<|Ak<|Bu O O O ?_
  rw [show wshE t s step pad=1 by simp [wshE,show wshA t s step pad=true by simp_all [wshA]]]
  exact ⟨hB,gotI_no (by decide)⟩
 intro g1
 refine Lw.take (dj:=15) O O<|Lw.val (Ad O) O<|Lw.take (dj:=15) O O<|Al O O (check_c v s _ h_v) ?_
 rintro _ w ⟨rfl,hn⟩
 replace hB:=hB.bs hn
 replace h_u:=h_u.bs hn
 replace h_v:=h_v.bs hn
 clear hn
 refine Lw.take (dj:=15) O O<|Lw.val (Bx O) O<|Lw.val (Bd O O) O<|Lw.val (Ad O) O ?_
 refine Bt 20 O ?_ ?_
 ·intro g2
  refine Ai (dj:=20) O O O O<|Ai (dj:=20) O O O O<|Lw.val (As O O) O<|Lw.val (Ad O) O<|Ai (dj:=24) O O O O<|Ai (dj:=24) O O O O<|Lw.val (As O O) O<|Lw.val (Ad O) O<|Ai (dj:=28) O O O O<|Ai (dj:=28) O O O O<|Lw.val (As O O) O<|Lw.val (Ad O) O<|Ai (dj:=32) O O O O<|Ai (dj:=32) O O O O<|Lw.val (As O O) O<|Lw.val (Ac O) O<|Af<|Aa<|Cw.out<|Br O<|Ae<|Ab<|Lw.val (Ac O) O<|Lw.val (Ac O) O<|Af<|Aa<|Cw.out<|An<|Bk<|Ak<|Bu O O O ?_
  rw [show wshE t s step pad=1 by simp [wshE,show wshA t s step pad=true by simp_all [wshA]]]
  exact ⟨hB,gotI_no (by decide)⟩
 intro g2
 refine Lw.take (dj:=20) O O<|Lw.val (Ad O) O<|Lw.take (dj:=20) O O<|Lw.val (Bh O O) O<|Lw.val (Bd O O) O<|Lw.val (Ad O) O ?_
 refine Bt 24 O ?_ ?_
 ·intro g3
  refine Ai (dj:=24) O O O O<|Ai (dj:=24) O O O O<|Lw.val (As O O) O<|Lw.val (Ad O) O<|Ai (dj:=28) O O O O<|Ai (dj:=28) O O O O<|Lw.val (As O O) O<|Lw.val (Ad O) O<|Ai (dj:=32) O O O O<|Ai (dj:=32) O O O O<|Lw.val (As O O) O<|Lw.val (Ac O) O<|Af<|Aa<|Cw.out<|Br O<|Ae<|Ab<|Lw.val (Ac O) O<|Lw.val (Ac O) O<|Af<|Aa<|Cw.out<|An<|Bk<|Ak<|Bu O O O ?_
  rw [show wshE t s step pad=1 by simp [wshE,show wshA t s step pad=true by simp_all [wshA]]]
  exact ⟨hB,gotI_no (by decide)⟩
 intro g3
 refine Lw.take (dj:=24) O O<|Lw.val (Ad O) O<|Lw.take (dj:=24) O O<|Lw.val (Cr O O) O<|Lw.val (Bd O O) O<|Lw.val (Ad O) O ?_
 refine Bt 28 O ?_ ?_
 ·intro g4
  refine Ai (dj:=28) O O O O<|Ai (dj:=28) O O O O<|Lw.val (As O O) O<|Lw.val (Ad O) O<|Ai (dj:=32) O O O O<|Ai (dj:=32) O O O O<|Lw.val (As O O) O<|Lw.val (Ac O) O<|Af<|Aa<|Cw.out<|Br O<|Ae<|Ab<|Lw.val (Ac O) O<|Lw.val (Ac O) O<|Af<|Aa<|Cw.out<|An<|Bk<|Ak<|Bu O O O ?_
  rw [show wshE t s step pad=1 by simp [wshE,show wshA t s step pad=true by simp_all [wshA]]]
  exact ⟨hB,gotI_no (by decide)⟩
 intro g4
 refine Lw.take (dj:=28) O O<|Lw.val (Ad O) O<|Lw.take (dj:=28) O O<|Lw.val (Bh O O) O<|Lw.val (Bd O O) O<|Lw.val (Ad O) O ?_
 refine Bt 32 O ?_ ?_
 ·intro g5
  refine Ai (dj:=32) O O O O<|Ai (dj:=32) O O O O<|Lw.val (As O O) O<|Lw.val (Ac O) O<|Af<|Aa<|Cw.out<|Br O<|Ae<|Ab<|Lw.val (Ac O) O<|Lw.val (Ac O) O<|Af<|Aa<|Cw.out<|An<|Bk<|Ak<|Bu O O O ?_
  rw [show wshE t s step pad=1 by simp [wshE,show wshA t s step pad=true by simp_all [wshA]]]
  exact ⟨hB,gotI_no (by decide)⟩
 intro g5
 have gT:Shapes.ok t=true:=by simpa using g1
 have gS:Shapes.ok s=true:=by simpa using g2
 have gst:1≤step:=by simpa using g3
 have gst2:step≤8:=by simpa using g4
 have gp:0≤pad:=by simpa using g5
 refine Lw.take (dj:=32) O O<|Lw.val (Ad O) O<|Lw.take (dj:=32) O O<|Lw.val (Cr O O) O<|Lw.val (Bd O O) O<|Lw.val (Ac O) O<|Af<|Aa<|Cw.out<|Au O ?_ ?_
 ·intro g6
  refine Ae<|Ab<|Lw.val (Ac O) O<|Lw.val (Ac O) O<|Af<|Aa<|Cw.out<|An<|Bk<|Ak<|Bu O O O ?_
  rw [show wshE t s step pad=1 by simp [wshE,show wshA t s step pad=true by simp_all [wshA]]]
  exact ⟨hB,gotI_no (by decide)⟩
 intro g6
 have gp2:pad≤8:=by simpa using g6
 have gA:wshA t s step pad=false:=by simp_all [wshA]
 clear g1 g2 g3 g4 g5 g6
 have hT:=(Shapes.ok_iff t).1 gT
 have hS:=(Shapes.ok_iff s).1 gS
 refine Ae<|B5 mixed (by kernel_rfl)<|Qw.val (fun w1 hq=>Ad O) O<|Qw.val (fun w1 hq=>Av st_23 O (Sl.bs (by assumption) hq)) O ?_
 refine Qw.val (fun w1 hq=>B7 O O) O<|Qw.val (fun w1 hq=>Ad O) O ?_
 refine Cl 40 O ?_ ?_
 ·intro g
  refine Ao (dj:=40) O O O O<|Ao (dj:=40) O O O O<|Ao (dj:=40) O O O O<|Qw.val (fun w1 hq=>As O O) O<|Qw.val (fun w1 hq=>Ad O) O<|Ao (dj:=45) O O O O<|Ao (dj:=45) O O O O<|Ao (dj:=45) O O O O<|Ao (dj:=45) O O O O<|Ao (dj:=45) O O O O<|Ao (dj:=45) O O O O<|Ao (dj:=45) O O O O<|Qw.val (fun w1 hq=>As O O) O<|Qw.val (fun w1 hq=>Ac O) O ?_
  refine B3 (fun w1 hq=> ?_)
  refine Aa<|Cw.out<|Br O<|Ae<|Ab<|Lw.val (Ac O) O<|Lw.val (Ac O) O<|Af<|Aa<|Cw.out<|An<|Bk<|Ak<|Bu O O O ?_
  rw [show wshE t s step pad=10 by rw [wshE,gA,wshB_1 (fun h=>by simp [h] at g)];rfl]
  exact ⟨bt hB hq,gotI_no (by decide)⟩
 intro g7
 have lt:t.length=3:=by have:=g7;simp at this;omega
 refine Qw.take (dj:=40) O O<|Qw.val (fun w1 hq=>Ad O) O<|Qw.take (dj:=40) O O<|Qw.val (fun w1 hq=>Av st_23 O (Sl.bs (by assumption) hq)) O ?_
 refine Qw.take (dj:=40) O O<|Qw.val (fun w1 hq=>B7 O O) O<|Qw.val (fun w1 hq=>Bd O O) O<|Qw.val (fun w1 hq=>Ad O) O ?_
 refine Cl 45 O ?_ ?_
 ·intro g
  refine Ao (dj:=45) O O O O<|Ao (dj:=45) O O O O<|Ao (dj:=45) O O O O<|Ao (dj:=45) O O O O<|Ao (dj:=45) O O O O<|Ao (dj:=45) O O O O<|Ao (dj:=45) O O O O<|Qw.val (fun w1 hq=>As O O) O<|Qw.val (fun w1 hq=>Ac O) O ?_
  refine B3 (fun w1 hq=> ?_)
  refine Aa<|Cw.out<|Br O<|Ae<|Ab<|Lw.val (Ac O) O<|Lw.val (Ac O) O<|Af<|Aa<|Cw.out<|An<|Bk<|Ak<|Bu O O O ?_
  rw [show wshE t s step pad=10 by rw [wshE,gA,wshB_2 (fun h=>by simp [h] at g)];rfl]
  exact ⟨bt hB hq,gotI_no (by decide)⟩
 intro g8
 have ls:s.length=4:=by have:=g8;simp at this;omega
 refine Qw.take (dj:=45) O O<|Qw.val (fun w1 hq=>Ad O) O<|Qw.take (dj:=45) O O<|Qw.val (fun w1 hq=>Ba st_23 O O (Sl.bs (by assumption) hq) 0 O (by omega)) O ?_
 refine Qw.take (dj:=45) O O<|Qw.val (fun w1 hq=>Bg (ag_3 _) O (Sl.bs (by assumption) hq) (by omega)) O ?_
 refine Qw.take (dj:=45) O O<|Qw.val (fun w1 hq=>Ad O) O<|Qw.take (dj:=45) O O<|Qw.val (fun w1 hq=>Ba st_23 O O (Sl.bs (by assumption) hq) 1 O (by omega)) O ?_
 refine Qw.take (dj:=45) O O<|Qw.val (fun w1 hq=>Bg (ag_3 _) O (Sl.bs (by assumption) hq) (by omega)) O ?_
 refine Qw.take (dj:=45) O O<|Qw.val (fun w1 hq=>B7 O O) O<|Qw.val (fun w1 hq=>Bd O O) O<|Qw.val (fun w1 hq=>Ac O) O ?_
 refine B3 (fun w1 hq=> ?_)
 refine Aa<|Cw.out<|Au O ?_ ?_
 ·intro g
  refine Ae<|Ab<|Lw.val (Ac O) O<|Lw.val (Ac O) O<|Af<|Aa<|Cw.out<|An<|Bk<|Ak<|Bu O O O ?_
  rw [show wshE t s step pad=10 by rw [wshE,gA,wshB_3 (fun h=>by rw [decide_eq_true h] at g;cases g)];rfl]
  exact ⟨bt hB hq,gotI_no (by decide)⟩
 intro g9
 have gB:wshB t s=true:=by
  have:t.getD 0 default=s.getD 1 default:=by simpa only [Bool.not_eq_false',decide_eq_true_eq] using g9
  rw [wshB,decide_eq_true lt,decide_eq_true ls,decide_eq_true this];rfl
 replace hB:=hB.bs hq
 replace h_u:=h_u.bs hq
 replace h_v:=h_v.bs hq
 clear hq g7 g8 g9
 have t1:=good_at hT.2.1 (k:=1) (by omega)
 have t2:=good_at hT.2.1 (k:=2) (by omega)
 have s0:=good_at hS.2.1 (k:=0) (by omega)
 have s2:=good_at hS.2.1 (k:=2) (by omega)
 have s3:=good_at hS.2.1 (k:=3) (by omega)
 refine Aq<|Bo<|Aa<|Cw.out<|Ae<|Cw.tail 25 mixed (by kernel_rfl)<|Qw.val (fun w1 hq=>Ad O) O<|Qw.val (fun w1 hq=>Ba st_23 O O (Sl.bs (by assumption) hq) 0 O (by omega)) O ?_
 refine Qw.val (fun w1 hq=>Bg (ag_3 _) O (Sl.bs (by assumption) hq) (by omega)) O ?_
 refine Qw.val (fun w1 hq=>Ad O) O<|Qw.val (fun w1 hq=>Ba st_23 O O (Sl.bs (by assumption) hq) 1 O (by omega)) O ?_
 refine Qw.val (fun w1 hq=>Bg (ag_3 _) O (Sl.bs (by assumption) hq) (by omega)) O ?_
 refine Qw.val (fun w1 hq=>Ad O) O<|Qw.val (fun w1 hq=>Ca O O (by omega)) O<|Qw.val (fun w1 hq=>Bc O O (by omega)) O<|Qw.val (fun w1 hq=>Ad O) O<|Qw.val (fun w1 hq=>Ba st_23 O O (Sl.bs (by assumption) hq) 2 O (by omega)) O ?_
 refine Qw.val (fun w1 hq=>Bg (ag_3 _) O (Sl.bs (by assumption) hq) (by omega)) O ?_
 refine Qw.val (fun w1 hq=>Ad O) O<|B9 O O (fun w1 hq=>(slides_c (t.getD 1 default+2*pad) (s.getD 2 default) step w1 (by omega) (by omega) (by omega)).q hq)<|Qw.val (fun w1 hq=>Ad O) O<|Qw.val (fun w1 hq=>Ba st_23 O O (Sl.bs (by assumption) hq) 2 O (by omega)) O ?_
 refine Qw.val (fun w1 hq=>Bg (ag_3 _) O (Sl.bs (by assumption) hq) (by omega)) O ?_
 refine Qw.val (fun w1 hq=>Ad O) O<|Qw.val (fun w1 hq=>Ca O O (by omega)) O<|Qw.val (fun w1 hq=>Bc O O (by omega)) O<|Qw.val (fun w1 hq=>Ad O) O<|Qw.val (fun w1 hq=>Ba st_23 O O (Sl.bs (by assumption) hq) 3 O (by omega)) O ?_
 refine Qw.val (fun w1 hq=>Bg (ag_3 _) O (Sl.bs (by assumption) hq) (by omega)) O ?_
 refine Qw.val (fun w1 hq=>Ad O) O<|B9 O O (fun w1 hq=>(slides_c (t.getD 2 default+2*pad) (s.getD 3 default) step w1 (by omega) (by omega) (by omega)).q hq) ?_
 refine Cj (fun w2 hq=> ?_)
 replace hB:=hB.bs hq
 replace h_u:=h_u.bs hq
 replace h_v:=h_v.bs hq
 clear hq
 have zw:=below_size hB
 refine Bl (Cp (vs:=(wshS t s step pad).map (Value.int .i64)) st_23 it_3 O O O O O) O ?_
 rintro x w ⟨ho, -,hn, -⟩
 have ho:=own_mono ho zw
 replace hB:=hB.bs hn
 replace h_u:=h_u.bs hn
 replace h_v:=h_v.bs hn
 clear hn
 refine Lw.val (Ac O) O<|Af<|Aa<|Cw.out<|Ae<|Ae<|Ab<|Lw.val (Ad O) O<|Al O O (check_c x (wshS t s step pad) _ (own_slT ho)) ?_
 rintro _ w ⟨rfl,hn⟩
 replace hB:=hB.bs hn
 replace h_u:=h_u.bs hn
 replace h_v:=h_v.bs hn
 replace ho:=ho.bs hn
 clear hn
 refine Lw.val (Bx O) O<|Af<|Aa<|Cw.out<|Au O ?_ ?_
 ·intro g
  refine Ae<|Ab<|Lw.val (Ac O) O<|Lw.val (Ac O) O<|Af<|Aa<|Cw.out<|An<|Ak<|Bu O O O ?_
  rw [show wshE t s step pad=10 by simp_all [wshE]]
  exact ⟨hB,gotI_no (by decide)⟩
 intro g
 refine Aq<|Aa<|Cw.out<|Ae<|Ab<|Lw.val (Ad O) O<|Lw.val (Ac O) O<|Lw.val (Ac O) O<|Af<|Aa<|Cw.out<|An<|Bu O O O ?_
 rw [show wshE t s step pad=0 by simp_all [wshE]]
 exact ⟨hB,x,_,rfl,ho,fun h=>absurd rfl h,fun _=>rfl⟩
theorem wpshape_c (t:List Int) (wide:Int) (u:Value) (W:World) (h_u:SlT (Value.int .i64) W u t):
  Fnc Tryz.prog 211 [u, .int .i64 wide] W (fun r w' =>Below W.heap.size W w' ∧GotI W w' r (poolE t wide) (pshS t wide)):=by
 have hB:=Below.refl W.heap.size W
 refine Ap (n:=47) Tryz.func211 (by kernel_rfl) O O O<|Ae<|Ab<|Lw.val (Ac O) O<|Lw.val (Ac O) O<|Af<|Aa<|Cw.out<|Ae<|Ae<|Ab<|Lw.val (Ad O) O<|Al O O (check_c u t _ h_u) ?_
 rintro _ w ⟨rfl,hn⟩
 replace hB:=hB.bs hn
 replace h_u:=h_u.bs hn
 clear hn
 refine Lw.val (Bx O) O<|Lw.val (Ad O) O ?_
 refine Bt 9 O ?_ ?_
 ·intro g1
  refine Ai (dj:=9) O O O O<|Ai (dj:=9) O O O O<|Lw.val (As O O) O<|Lw.val (Ad O) O<|Ai (dj:=13) O O O O<|Ai (dj:=13) O O O O<|Lw.val (As O O) O<|Af<|Aa<|Cw.out<|Br O<|Ae<|Ab<|Lw.val (Ac O) O<|Lw.val (Ac O) O<|Af<|Aa<|Cw.out<|An<|Ak<|Bu O O O ?_
  rw [show poolE t wide=1 by simp [poolE,show pshA t wide=true by simp_all [pshA]]]
  exact ⟨hB,gotI_no (by decide)⟩
 intro g1
 refine Lw.take (dj:=9) O O<|Lw.val (Ad O) O<|Lw.take (dj:=9) O O<|Lw.val (Bh O O) O<|Lw.val (Bd O O) O<|Lw.val (Ad O) O ?_
 refine Bt 13 O ?_ ?_
 ·intro g2
  refine Ai (dj:=13) O O O O<|Ai (dj:=13) O O O O<|Lw.val (As O O) O<|Af<|Aa<|Cw.out<|Br O<|Ae<|Ab<|Lw.val (Ac O) O<|Lw.val (Ac O) O<|Af<|Aa<|Cw.out<|An<|Ak<|Bu O O O ?_
  rw [show poolE t wide=1 by simp [poolE,show pshA t wide=true by simp_all [pshA]]]
  exact ⟨hB,gotI_no (by decide)⟩
 intro g2
 refine Lw.take (dj:=13) O O<|Lw.val (Ad O) O<|Lw.take (dj:=13) O O<|Lw.val (Cr O O) O<|Lw.val (Bd O O) O<|Af<|Aa<|Cw.out<|Au O ?_ ?_
 ·intro g3
  refine Ae<|Ab<|Lw.val (Ac O) O<|Lw.val (Ac O) O<|Af<|Aa<|Cw.out<|An<|Ak<|Bu O O O ?_
  rw [show poolE t wide=1 by simp [poolE,show pshA t wide=true by simp_all [pshA]]]
  exact ⟨hB,gotI_no (by decide)⟩
 intro g3
 have gA:pshA t wide=false:=by simp_all [pshA]
 have gT:Shapes.ok t=true:=by simpa using g1
 have w1:1≤wide:=by simpa using g2
 have w2:wide≤64:=by simpa using g3
 have hT:=(Shapes.ok_iff t).1 gT
 clear g1 g2 g3
 refine Aq<|Aa<|Cw.out<|Ae<|Ae<|B5 mixed (by kernel_rfl)<|Qw.val (fun w1 hq=>Ad O) O<|Qw.val (fun w1 hq=>Av st_23 O (Sl.bs (by assumption) hq)) O ?_
 refine Qw.val (fun w1 hq=>B7 O O) O<|Qw.val (fun w1 hq=>Ad O) O ?_
 refine Cl 20 O ?_ ?_
 ·intro g
  refine Ao (dj:=20) O O O O<|Ao (dj:=20) O O O O<|Ao (dj:=20) O O O O<|Ao (dj:=20) O O O O<|Ao (dj:=20) O O O O<|Ao (dj:=20) O O O O<|Ao (dj:=20) O O O O<|Ao (dj:=20) O O O O<|Ao (dj:=20) O O O O<|Qw.val (fun w1 hq=>As O O) O ?_
  refine B3 (fun wq hq=> ?_)
  refine Aa<|Cw.out<|Br O<|Ae<|Ab<|Lw.val (Ac O) O<|Lw.val (Ac O) O<|Af<|Aa<|Cw.out<|An<|Ak<|Bu O O O ?_
  rw [show poolE t wide=10 by rw [poolE,gA,pshB,decide_eq_false (show ¬t.length=3 from fun h=>by simp [h] at g)];rfl]
  exact ⟨bt hB hq,gotI_no (by decide)⟩
 intro g4
 have lt:t.length=3:=by have:=g4;simp at this;omega
 have t0:=good_at hT.2.1 (k:=0) (by omega)
 have t1:=good_at hT.2.1 (k:=1) (by omega)
 have t2:=good_at hT.2.1 (k:=2) (by omega)
 refine Qw.take (dj:=20) O O<|Qw.val (fun w1 hq=>Ad O) O<|Qw.take (dj:=20) O O<|Qw.val (fun w1 hq=>Ba st_23 O O (Sl.bs (by assumption) hq) 1 O (by omega)) O ?_
 refine Qw.take (dj:=20) O O<|Qw.val (fun w1 hq=>Bg (ag_3 _) O (Sl.bs (by assumption) hq) (by omega)) O ?_
 refine Qw.take (dj:=20) O O<|Qw.val (fun w1 hq=>Ad O) O<|Qw.take (dj:=20) O O<|Qw.val (fun w1 hq=>Ba st_23 O O (Sl.bs (by assumption) hq) 2 O (by omega)) O ?_
 refine Qw.take (dj:=20) O O<|Qw.val (fun w1 hq=>Bg (ag_3 _) O (Sl.bs (by assumption) hq) (by omega)) O ?_
 refine Qw.take (dj:=20) O O<|Qw.val (fun w1 hq=>Ex.min2 O O) O<|Qw.take (dj:=20) O O<|Qw.val (fun w1 hq=>Ad O) O<|Qw.take (dj:=20) O O<|Qw.val (fun w1 hq=>Bh O O) O<|Qw.val (fun w1 hq=>Bd O O) O ?_
 refine B3 (fun wq hq=> ?_)
 refine Aa<|Cw.out<|Au O ?_ ?_
 ·intro g
  have g:=of_decide_eq_true g
  refine Ae<|Ab<|Lw.val (Ac O) O<|Lw.val (Ac O) O<|Af<|Aa<|Cw.out<|An<|Ak<|Bu O O O ?_
  rw [show poolE t wide=10 by
   have:pshB t wide=false:=by
    unfold pshB
    by_cases h1:wide≤t.getD 1 default
    ·have h2:¬wide≤t.getD 2 default:=fun h2=>by split at g<;>omega
     simp only [decide_eq_false h2,Bool.and_false]
    ·simp only [decide_eq_false h1,Bool.and_false,Bool.false_and]
   simp [poolE,gA,this]]
  exact ⟨bt hB hq,gotI_no (by decide)⟩
 intro g
 have g:=of_decide_eq_false g
 have gB:pshB t wide=true:=by
  have h1:wide≤t.getD 1 default:=by split at g<;>omega
  have h2:wide≤t.getD 2 default:=by split at g<;>omega
  rw [pshB,decide_eq_true lt,decide_eq_true h1,decide_eq_true h2];rfl
 replace hB:=hB.bs hq
 replace h_u:=h_u.bs hq
 clear hq g4 g
 refine Aq<|Aa<|Cw.out<|Ae<|Cw.tail 15 mixed (by kernel_rfl)<|Qw.val (fun w1 hq=>Ad O) O<|Qw.val (fun w1 hq=>Ba st_23 O O (Sl.bs (by assumption) hq) 0 O (by omega)) O ?_
 refine Qw.val (fun w1 hq=>Bg (ag_3 _) O (Sl.bs (by assumption) hq) (by omega)) O ?_
 refine Qw.val (fun w1 hq=>Ad O) O<|Qw.val (fun w1 hq=>Ba st_23 O O (Sl.bs (by assumption) hq) 1 O (by omega)) O ?_
 refine Qw.val (fun w1 hq=>Bg (ag_3 _) O (Sl.bs (by assumption) hq) (by omega)) O ?_
 refine Qw.val (fun w1 hq=>Ad O) O<|Qw.val (fun w1 hq=>Ad O) O<|B9 O O (fun w1 hq=>(slides_c (t.getD 1 default) wide wide w1 (by omega) (by omega) (by omega)).q hq)<|Qw.val (fun w1 hq=>Ad O) O<|Qw.val (fun w1 hq=>Ba st_23 O O (Sl.bs (by assumption) hq) 2 O (by omega)) O ?_
 refine Qw.val (fun w1 hq=>Bg (ag_3 _) O (Sl.bs (by assumption) hq) (by omega)) O ?_
 refine Qw.val (fun w1 hq=>Ad O) O<|Qw.val (fun w1 hq=>Ad O) O<|B9 O O (fun w1 hq=>(slides_c (t.getD 2 default) wide wide w1 (by omega) (by omega) (by omega)).q hq) ?_
 refine Cj (fun w3 hq=> ?_)
 replace hB:=hB.bs hq
 replace h_u:=h_u.bs hq
 clear hq
 have zw:=below_size hB
 refine Bl (Cp (vs:=(pshS t wide).map (Value.int .i64)) st_23 it_3 O O O O O) O ?_
 rintro x w ⟨ho, -,hn, -⟩
 have ho:=own_mono ho zw
 replace hB:=hB.bs hn
 replace h_u:=h_u.bs hn
 clear hn
 refine Lw.val (Ac O) O<|Lw.val (Ac O) O<|Af<|Aa<|Cw.out<|An<|Bu O O O ?_
 rw [show poolE t wide=0 by simp [poolE,gA,gB]]
 exact ⟨hB,x,_,rfl,ho,fun h=>absurd rfl h,fun _=>rfl⟩
abbrev picT:TypeId:=228
abbrev spotT:TypeId:=233
theorem bt_pic (y:Value) (a b:Int) (hy:y.cells=[y].toArray):Tryz.prog.built picT [(0,y),(1, .int .i64 a),(2, .int .i64 b)]=some [y, .int .i64 a, .int .i64 b].toArray:=by
 have h1:Tryz.prog.info? 228=some Tryz.t228:=rfl
 have h2:Tryz.prog.info? 31=some Tryz.t31:=rfl
 have h3:Tryz.prog.info? 3=some Tryz.t3:=rfl
 simp [Program.built,h1,Tryz.underlying228,h2,h3,Instr.fill,hy]
 rfl
theorem bt_spot (a b c:Int):Tryz.prog.built spotT [(0, .int .i64 a),(1, .int .i64 b),(2, .int .i64 c)]=some [Value.int .i64 a, .int .i64 b, .int .i64 c].toArray:=by
 have h1:Tryz.prog.info? 233=some Tryz.t233:=rfl
 have h3:Tryz.prog.info? 3=some Tryz.t3:=rfl
 simp [Program.built,h1,Tryz.underlying233,h3,Instr.fill]
 rfl
def picV (a:T4):Value:= .agg #[a.y, .int .i64 (a.s.getD 1 default), .int .i64 (a.s.getD 2 default)]
theorem own_apart {w w' :World} {base A:Nat} {e T:TypeId} {sz n:Nat} {v:Value} {xs cs:List Value} (h:w.ownsRow base e sz v n xs) (k:Blk w A T cs) (hne:e≠T) (g:w.grownBy w' (some A)):w'.ownsRow base e sz v n xs:=
 own_heap h fun b hb=>g.block b (own_block h b hb).2 fun e2=>by
  cases e2
  rcases h.2 with ⟨rfl,_⟩|⟨g',cap,cur,rfl,_,hg,_⟩
  ·cases hb
  ·simp only [Value.ownBlock,Option.some.injEq] at hb
   subst hb
   unfold Blk at k
   rw [k] at hg
   have:=Option.some.inj hg
   injection this with _ h2 _
   exact hne h2.symm
/-- What comes up ahead of the loops, in whatever order. -/
def winPh (B:Nat) (x:Value) (M:Int) (t:T4) (f:Value):Nat→Value→World→Prop
 |0,v,_=>v=x
 |1,v,_=>v= .int .i64 M
 |2,v,w=>w.ownsRow B 21 1 v 0 []
 |3,v,_=>v=t.v
 |4,v,_=>v=picV t
 |5,v,_=>v=f
 |_,_,_=>True
theorem winPh_bs {B:Nat} {x:Value} {M:Int} {t:T4} {f v:Value} {w w' :World} {i:Nat} (h:winPh B x M t f i v w) (g:Below w.heap.size w w'):winPh B x M t f i v w' :=by
 match i,h with
 |0,h=>exact h
 |1,h=>exact h
 |2,h=>exact own_bs h g
 |3,h=>exact h
 |4,h=>exact h
 |5,h=>exact h
 |_+6,_=>trivial
theorem winPh_by {B:Nat} {x:Value} {M:Int} {t:T4} {f v:Value} {w w' :World} {i A:Nat} {T:TypeId} {cs:List Value} (h:winPh B x M t f i v w) (hb:Blk w A T cs) (hT:T ∈ [31,226]) (g:w.grownBy w' (some A)):winPh B x M t f i v w' :=by
 match i,h with
 |0,h=>exact h
 |1,h=>exact h
 |2,h=>
  have hne:21≠T:=fun e=>by subst e;revert hT;decide
  exact own_apart h hb hne g
 |3,h=>exact h
 |4,h=>exact h
 |5,h=>exact h
 |_+6,_=>trivial
theorem pof_c (a:T4) (W:World) (h_a:a.at W) (hl:3≤a.s.length):Fnc Tryz.prog 213 [a.v] W (fun r w' =>r=picV a∧Below W.heap.size W w'):=by
 have hB:=Below.refl W.heap.size W
 refine Ap (n:=14) Tryz.func213 (by kernel_rfl) O O O<|Ae<|Ab<|Bv (cs:=[a.x,a.y]) O O O ?_
 rintro A_a w eA_a b_a hn -
 replace hB:=hB.bs hn
 replace h_a:=h_a.bs hn
 clear hn
 have z0:=below_size hB
 refine B8 it_228 O ?_
 rintro A_r w eA_r b_r hn -
 replace hB:=hB.bs hn
 replace h_a:=h_a.bs hn
 replace b_a:=b_a.bs hn
 clear hn
 refine Af<|Aa<|Cw.out<|Ae ?_
 have z:=below_size hB
 have zr:=blk_lt b_r
 have h_1:=h_a.1
 refine Cw.tail 11 mixed (by kernel_rfl)<|Qw.val (fun w1 hq=>Ag (q:=0) Tryz.underlying33 O (sz_31 _) O) O<|Qw.val (fun w1 hq=>Aj (ag_31 _) O (Blk.bs (by assumption) hq) O) O ?_
 refine Qw.val (fun w1 hq=>Ag (q:=0) Tryz.underlying33 O (sz_23 _) O) O<|Qw.val (fun w1 hq=>Aj (ag_23 _) O (Blk.bs (by assumption) hq) O) O ?_
 refine Qw.val (fun w1 hq=>Ba st_23 O O (Sl.bs (by assumption) hq) 1 O (by omega)) O ?_
 refine Qw.val (fun w1 hq=>Bg (ag_3 _) O (Sl.bs (by assumption) hq) (by omega)) O ?_
 refine Qw.val (fun w1 hq=>Ag (q:=0) Tryz.underlying33 O (sz_23 _) O) O<|Qw.val (fun w1 hq=>Aj (ag_23 _) O (Blk.bs (by assumption) hq) O) O ?_
 refine Qw.val (fun w1 hq=>Ba st_23 O O (Sl.bs (by assumption) hq) 2 O (by omega)) O ?_
 refine Qw.val (fun w1 hq=>Bg (ag_3 _) O (Sl.bs (by assumption) hq) (by omega)) O ?_
 refine Qw.val (fun w1 hq=>Bn (vs:=[(0,a.y),(1, .int .i64 (a.s.getD 1 default)),(2, .int .i64 (a.s.getD 2 default))]) (cs:=[a.y, .int .i64 (a.s.getD 1 default), .int .i64 (a.s.getD 2 default)]) O (bt_pic _ _ _ h_a.2.one)) O ?_
 refine Cj (fun w2 hq=> ?_)
 replace hB:=hB.bs hq
 replace h_a:=h_a.bs hq
 replace b_a:=b_a.bs hq
 replace b_r:=b_r.bs hq
 refine Ay (Bp (cs:=[a.y, .int .i64 (a.s.getD 1 default), .int .i64 (a.s.getD 2 default)]) O O O O (by simp [h_a.2.one'];exact ⟨rfl,rfl⟩) b_r O) ?_
 rintro w3 ⟨b_r,hg, -⟩
 have hB:=hB.grown hg (below_size hB) (by rintro _ ⟨⟩;omega)
 refine Af<|Aa<|Cw.out<|An<|Pw.retC O O (by assumption) (Tryz.underlying228) O O O ?_
 exact ⟨rfl,hB⟩
theorem wat_c (a:T4) (c y x:Int) (W:World) (h_y:SlT i32 W a.y a.l) (h1:0≤a.s.getD 1 default∧a.s.getD 1 default≤64) (h2:0≤a.s.getD 2 default∧a.s.getD 2 default≤64) (hc:0≤c∧c≤4096)
  (hy: -1000000≤y∧y≤1000000) (hx: -1000000≤x∧x≤1000000) (hl:(c+1)*(a.s.getD 1 default*a.s.getD 2 default)≤a.l.length):
  Fnc Tryz.prog 214 [picV a, .int .i64 c, .int .i64 y, .int .i64 x] W (fun r w' =>r=i32 (pic a.l (a.s.getD 1 default) (a.s.getD 2 default) c y x)∧Below W.heap.size W w'):=by
 have hB:=Below.refl W.heap.size W
 obtain ⟨H,hH⟩:∃H,H=a.s.getD 1 default:=⟨_,rfl⟩
 obtain ⟨V,hV⟩:∃V,V=a.s.getD 2 default:=⟨_,rfl⟩
 unfold picV
 rw [← hH] at h1 hl ⊢
 rw [← hV] at h2 hl ⊢
 refine Ap (n:=42) Tryz.func214 (by kernel_rfl) O O O<|Ae<|Ab<|Bv (cs:=[a.y, .int .i64 H, .int .i64 V]) O O O ?_
 rintro A_p w eA_p b_p hn -
 replace hB:=hB.bs hn
 replace h_y:=h_y.bs hn
 clear hn
 refine Lw.val (Ac (show _=some (i32 (0#32)) from rfl)) O<|Af<|Aa<|Cw.out<|Ae<|Ae<|Ab<|Lw.val (Ad O) O<|Lw.val (Bh O O) O<|Lw.val (Ad O) O ?_
 refine Bt 11 O ?_ ?_
 ·intro g
  have g:=of_decide_eq_true g
  refine Ai (dj:=11) O O O O<|Ai (dj:=11) O O O O<|Ai (dj:=11) O O O O<|Ai (dj:=11) O O O O<|Lw.val (As O O) O<|Lw.val (Ad O) O<|Ai (dj:=17) O O O O<|Ai (dj:=17) O O O O<|Lw.val (As O O) O<|Lw.val (Ad O) O<|Ai (dj:=21) O O O O<|Ai (dj:=21) O O O O<|Ai (dj:=21) O O O O<|Ai (dj:=21) O O O O<|Lw.val (As O O) O<|Af<|Aa<|Cw.out<|Br O<|Ae<|Ab<|Lw.val (Ac (show _=some (i32 (0#32)) from rfl)) O<|Af<|Aa<|Cw.out<|An<|Ak<|Bb O O ?_
  exact ⟨congrArg i32 (by rw [pic,if_pos (by omega)]),hB⟩
 intro g1
 have g1:=of_decide_eq_false g1
 refine Lw.take (dj:=11) O O<|Lw.val (Ad O) O<|Lw.take (dj:=11) O O<|Lw.val (Ag (q:=0) Tryz.underlying228 O (sz_3 _) O) O<|Lw.take (dj:=11) O O<|Lw.val (Aj (ag_3 _) O (by assumption) O) O ?_
 refine Lw.take (dj:=11) O O<|Lw.val (Cu O O) O<|Lw.val (Bd O O) O<|Lw.val (Ad O) O ?_
 refine Bt 17 O ?_ ?_
 ·intro g
  have g:=of_decide_eq_true g
  refine Ai (dj:=17) O O O O<|Ai (dj:=17) O O O O<|Lw.val (As O O) O<|Lw.val (Ad O) O<|Ai (dj:=21) O O O O<|Ai (dj:=21) O O O O<|Ai (dj:=21) O O O O<|Ai (dj:=21) O O O O<|Lw.val (As O O) O<|Af<|Aa<|Cw.out<|Br O<|Ae<|Ab<|Lw.val (Ac (show _=some (i32 (0#32)) from rfl)) O<|Af<|Aa<|Cw.out<|An<|Ak<|Bb O O ?_
  exact ⟨congrArg i32 (by rw [pic,if_pos (by omega)]),hB⟩
 intro g2
 have g2:=of_decide_eq_false g2
 refine Lw.take (dj:=17) O O<|Lw.val (Ad O) O<|Lw.take (dj:=17) O O<|Lw.val (Bh O O) O<|Lw.val (Bd O O) O<|Lw.val (Ad O) O ?_
 refine Bt 21 O ?_ ?_
 ·intro g
  have g:=of_decide_eq_true g
  refine Ai (dj:=21) O O O O<|Ai (dj:=21) O O O O<|Ai (dj:=21) O O O O<|Ai (dj:=21) O O O O<|Lw.val (As O O) O<|Af<|Aa<|Cw.out<|Br O<|Ae<|Ab<|Lw.val (Ac (show _=some (i32 (0#32)) from rfl)) O<|Af<|Aa<|Cw.out<|An<|Ak<|Bb O O ?_
  exact ⟨congrArg i32 (by rw [pic,if_pos (by omega)]),hB⟩
 intro g3
 have g3:=of_decide_eq_false g3
 refine Lw.take (dj:=21) O O<|Lw.val (Ad O) O<|Lw.take (dj:=21) O O<|Lw.val (Ag (q:=0) Tryz.underlying228 O (sz_3 _) O) O<|Lw.take (dj:=21) O O<|Lw.val (Aj (ag_3 _) O (by assumption) O) O ?_
 refine Lw.take (dj:=21) O O<|Lw.val (Cu O O) O<|Lw.val (Bd O O) O<|Af<|Aa<|Cw.out<|Au O ?_ ?_
 ·intro g
  have g:=of_decide_eq_true g
  refine Ae<|Ab<|Lw.val (Ac (show _=some (i32 (0#32)) from rfl)) O<|Af<|Aa<|Cw.out<|An<|Ak<|Bb O O ?_
  exact ⟨congrArg i32 (by rw [pic,if_pos (by omega)]),hB⟩
 intro g4
 have g4:=of_decide_eq_false g4
 have e1:0≤c*H∧c*H≤4096*64:=⟨Int.mul_nonneg hc.1 h1.1,Int.mul_le_mul hc.2 h1.2 h1.1 (by decide)⟩
 have e2:0≤(c*H+y)*V:=Int.mul_nonneg (by omega) h2.1
 have e3:(c*H+y+1)*V≤(c*H+H)*V:=Int.mul_le_mul_of_nonneg_right (by omega) h2.1
 have e4:(c+1)*(H*V)=(c*H+H)*V:=by rw [← Int.mul_assoc,Int.add_mul c 1 H,Int.one_mul]
 have e5:(c*H+y+1)*V=(c*H+y)*V+V:=by rw [Int.add_mul (c*H+y) 1 V,Int.one_mul]
 have ll:=h_y.le
 obtain ⟨k,hk⟩:∃k:Nat,(c*H+y)*V+x=(k:Int):=⟨_,(Int.toNat_of_nonneg (by omega)).symm⟩
 have hkl:k<a.l.length:=by omega
 refine Aq<|Aa<|Cw.out<|Ae<|Ab<|Lw.val (Ag (q:=0) Tryz.underlying228 O (sz_31 _) O) O<|Lw.val (Aj (ag_31 _) O (by assumption) O) O ?_
 refine Lw.val (Ad O) O<|Lw.val (Ag (q:=0) Tryz.underlying228 O (sz_3 _) O) O<|Lw.val (Aj (ag_3 _) O (by assumption) O) O ?_
 refine Lw.val (Ca O O (by omega)) O<|Lw.val (Ad O) O<|Lw.val (Bc O O (by omega)) O<|Lw.val (Ag (q:=0) Tryz.underlying228 O (sz_3 _) O) O<|Lw.val (Aj (ag_3 _) O (by assumption) O) O ?_
 refine Lw.val (Ca O O (by omega)) O<|Lw.val (Ad O) O<|Lw.val (Bc O O (by omega)) O<|Lw.val (Ba st_31 O O h_y k hk hkl) O<|Lw.val (Bg (ag_21 _) O (by assumption) (by omega)) O ?_
 refine Lw.val (Ac O) O<|Af<|Aa<|Cw.out<|An<|Bb O O ?_
 exact ⟨congrArg i32 (by rw [pic,if_neg (by omega),hk];rfl),hB⟩

theorem spots_c (u:Value) (s:List Int) (W:World) (h_u:SlT (Value.int .i64) W u s):
  Fnc Tryz.prog 215 [u] W (fun r w' =>∃A,r= .func (.func 242) #[] #[.pointer (some ⟨A,0,none⟩)]∧Blk w' A 23 [u]∧A=W.heap.size∧Below W.heap.size W w'):=by
 have hB:=Below.refl W.heap.size W
 have hu1:=h_u.one
 refine Ap (n:=4) Tryz.func215 (by kernel_rfl) O O O<|Ae<|Ab<|Bv (cs:=[u]) O hu1 O ?_
 rintro A w eA b_A hn -
 replace hB:=hB.bs hn
 clear hn
 refine Lw.val (Ac O) O<|Af<|Aa<|Cw.out<|Ae<|Ab<|Lw.val (C7 (vs:=[]) (us:=[.pointer (some ⟨A,0,none⟩)]) O O) O<|Lw.val (Ac O) O<|Af<|Aa<|Cw.out<|An<|Bb O O ?_
 exact ⟨A,rfl,b_A,eA,hB⟩

theorem spots_sq (A:Nat) (u:Value) (s:List Int) (w:World) (b_A:Blk w A 23 [u]) (h_u:SlT (Value.int .i64) w u s) (hok:Shapes.ok s=true) (hl:s.length=3):
  Sq Tryz.prog 242 [] [.pointer (some ⟨A,0,none⟩)] (fun i:Nat=>[spotV s i]) (fun b=>b=A∨u.ownBlock=some b) none (List.range (Shapes.size s).toNat) w:=by
 intro lp J W hW hJ hY h0
 show Fnc Tryz.prog 242 [.func (.yield lp) #[] #[], .pointer (some ⟨A,0,none⟩)] W (fun _ A' =>J (List.range (Shapes.size s).toNat) A')
 have b_A:=b_A.bs hW
 have h_u:=h_u.bs hW
 clear hW
 have sz:=Shapes.size_le s
 have hS:=(Shapes.ok_iff s).1 hok
 have s1:=good_at hS.2.1 (k:=1) (by omega)
 have s2:=good_at hS.2.1 (k:=2) (by omega)
 have q1:1*1≤s.getD 1 default*s.getD 2 default:=Int.mul_le_mul s1.1 s2.1 (by decide) (by omega)
 have q2:s.getD 1 default*s.getD 2 default≤64*64:=Int.mul_le_mul s1.2 s2.2 (by omega) (by decide)
 refine Fnc.enterG (n:=37) Tryz.func242 (by kernel_rfl) O O O<|Ci<|B6 (by kernel_rfl)<|Lw.val (Aj (ag_23 _) O (by assumption) O) O ?_
 refine Al O O (size_c u s W h_u) ?_
 rintro _ w1 ⟨rfl,hn⟩
 have h0:=hJ _ _ _ h0 ⟨none,below_grown hn none, .inl rfl⟩
 have b_A:=b_A.bs hn
 have h_u:=h_u.bs hn
 refine Cd 5 (v' := .int .i64 (((Shapes.size s).toNat:Nat):Int)) O (congrArg (Value.int .i64) (by omega))<|Lw.val (Ad O) O ?_
 refine Af (Pg.low ?_)
 refine B4 (Cg.out ?_)
 refine Cg.block ?_
 refine Cg.loop (S:=Nat) (fun i=>[(0, .func (.yield lp) #[] #[]),(1, .pointer (some ⟨A,0,none⟩)),(5, .int .i64 (((Shapes.size s).toNat:Nat):Int)),(6, .int .i64 (i:Int))]) (fun i w' =>i≤(Shapes.size s).toNat∧J (List.range i) w' ∧Blk w' A 23 [u]∧SlT (Value.int .i64) w' u s) (fun i=>(Shapes.size s).toNat - i) (0) ⟨rfl,rfl,rfl,rfl,trivial⟩ ?_ ?_
 ·exact ⟨Nat.zero_le _,h0,b_A,h_u⟩
 clear h0 b_A h_u hn
 rintro i w ⟨hi,h0,b_A,h_u⟩
 refine Ci<|B6 (by kernel_rfl)<|Lw.val (Bh O O) O ?_
 refine Af (Pg.low ?_)
 refine B4 (Cg.out ?_)
 refine Ci ?_
 refine Cg.cond O ?_ ?_
 ·intro h
  have hi' :i<(Shapes.size s).toNat:=by have:=of_decide_eq_true h;omega
  have d1:=Int.ediv_nonneg (show 0≤(i:Int) by omega) (show 0≤s.getD 2 default by omega)
  refine Cg.skip ?_
  refine B4 (Cg.out ?_)
  refine Ci<|Cg.block<|Ci<|B6 (by kernel_rfl)<|Lw.val (Ad O) O<|Lw.val (Ac O) O ?_
  refine Af (Pg.low ?_)
  refine B4 (Cg.out ?_)
  refine Ci<|Cg.tailY 25 mixed (by kernel_rfl) (by kernel_rfl)<|Qw.val (fun w1 hq=>Ad O) O<|Qw.val (fun w1 hq=>Ad O) O<|Qw.val (fun w1 hq=>Aj (ag_23 _) O (Blk.bs (by assumption) hq) O) O ?_
  refine Qw.val (fun w1 hq=>Ba st_23 O O (Sl.bs (by assumption) hq) 1 O (by omega)) O ?_
  refine Qw.val (fun w1 hq=>Bg (ag_3 _) O (Sl.bs (by assumption) hq) (by omega)) O ?_
  refine Qw.val (fun w1 hq=>Aj (ag_23 _) O (Blk.bs (by assumption) hq) O) O ?_
  refine Qw.val (fun w1 hq=>Ba st_23 O O (Sl.bs (by assumption) hq) 2 O (by omega)) O ?_
  refine Qw.val (fun w1 hq=>Bg (ag_3 _) O (Sl.bs (by assumption) hq) (by omega)) O ?_
  refine Qw.val (fun w1 hq=>Ca O O (by omega)) O<|Qw.val (fun w1 hq=>Ct O O (by omega) (by omega)) O<|Qw.val (fun w1 hq=>Ad O) O<|Qw.val (fun w1 hq=>Aj (ag_23 _) O (Blk.bs (by assumption) hq) O) O ?_
  refine Qw.val (fun w1 hq=>Ba st_23 O O (Sl.bs (by assumption) hq) 2 O (by omega)) O ?_
  refine Qw.val (fun w1 hq=>Bg (ag_3 _) O (Sl.bs (by assumption) hq) (by omega)) O ?_
  refine Qw.val (fun w1 hq=>Ct O O (by omega) (by omega)) O<|Qw.val (fun w1 hq=>Aj (ag_23 _) O (Blk.bs (by assumption) hq) O) O ?_
  refine Qw.val (fun w1 hq=>Ba st_23 O O (Sl.bs (by assumption) hq) 1 O (by omega)) O ?_
  refine Qw.val (fun w1 hq=>Bg (ag_3 _) O (Sl.bs (by assumption) hq) (by omega)) O ?_
  refine Qw.val (fun w1 hq=>Ex.remI O O (by omega) (by omega)) O<|Qw.val (fun w1 hq=>Ad O) O<|Qw.val (fun w1 hq=>Aj (ag_23 _) O (Blk.bs (by assumption) hq) O) O ?_
  refine Qw.val (fun w1 hq=>Ba st_23 O O (Sl.bs (by assumption) hq) 2 O (by omega)) O ?_
  refine Qw.val (fun w1 hq=>Bg (ag_3 _) O (Sl.bs (by assumption) hq) (by omega)) O ?_
  refine Qw.val (fun w1 hq=>Ex.remI O O (by omega) (by omega)) O<|Qw.val (fun w1 hq=>Bn (vs:=[(0, .int .i64 (spc s i)),(1, .int .i64 (spy s i)),(2, .int .i64 (spx s i))]) (cs:=[.int .i64 (spc s i), .int .i64 (spy s i), .int .i64 (spx s i)]) O (bt_spot _ _ _)) O ?_
  refine Qw.doneY (fun w2 hq=> ?_)
  have h2:=hJ _ _ _ h0 ⟨none,below_grown hq none, .inl rfl⟩
  have b_A:=b_A.bs hq
  have h_u:=h_u.bs hq
  have hpre:=pre_range hi'
  refine Lg.yield O O O (hY (List.range i) i w2 h2 hpre) ?_
  rintro _ w3 ⟨rfl,h3,hB⟩
  have b_A:=b_A.keep (hB.2 A (.inl rfl) (blk_lt b_A))
  have h_u:SlT (Value.int .i64) w3 u s:=Sl.stay h_u fun k e hne=>hB.2 k (.inr e) (Sl.blk h_u hne k e)
  refine Lg.plain 1 (by kernel_rfl)<|Lw.val (Bx O) O ?_
  refine Af (Pg.low (Lg.out (Lg.nil ?_)))
  refine B4 (Cg.out ?_)
  refine Cg.condB O false (rfl)<|Cg.skip<|Pg.blkN ?_
  refine B4 (Cg.out ?_)
  refine B6 (by kernel_rfl)<|Lw.val (Bc O O (by omega)) O<|Lw.val (Ad O) O ?_
  refine Af (Pg.low ?_)
  exact B4 (Pg.next (i+1) ⟨rfl,rfl,rfl,rfl,trivial⟩ (⟨hi',by rw [List.range_succ];exact h3,b_A,h_u⟩) (by omega))
 intro h
 have hi' :i=(Shapes.size s).toNat:=by have:=of_decide_eq_false h;omega
 subst hi'
 refine Cg.exit<|Pg.thenE<|Pg.thenE<|Pg.blkHit<|Pg.closeE<|Cf O ?_
 exact h0
end Go.Proofs.YtmipoeanpnnjoaaGreatDoor
