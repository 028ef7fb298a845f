/- Texts of this proof, one behind the other: MeansTable, MeansDo, MeansAll, MeansPlain, MeansRun, MeansShape, RefDo, TensorsArg, TensArg, MeansArg, TwinTensor, TwinNode, BookCode. -/
import Derived.Test.YtmipoeanpnnjoaaGreatDoorPk5
import Derived.Test.YtmipoeanpnnjoaaGreatDoorPk3
import Derived.Test.YtmipoeanpnnjoaaGreatDoorPk4
import Derived.Test.YtmipoeanpnnjoaaGreatDoorPk2
import Derived.Test.YtmipoeanpnnjoaaGreatDoorPk1

/-! Contract: the deeds of the kinds. -/
namespace Go.Proofs.YtmipoeanpnnjoaaGreatDoor
open Go Go.Dd Go.RowKit
set_option maxRecDepth 100000

theorem fill_cons {place:Nat→Option (Nat×Nat)} {cells:Array Value} {i off:Nat} {v:Value} {ds:List Value} {rest:List (Nat×Value)} (hv:v.cells=ds.toArray) (hp:place i=some (off,ds.length)) (h:off+ds.length≤cells.size):Instr.fill place cells ((i,v)::rest)=Instr.fill place (spl cells.toList off ds).toArray rest:=by
 have hf:=fold_spl ds 0 off cells (by omega)
 have e:v.cells.zipIdx.foldl (fun cs (c,j)=>cs.setIfInBounds (off+j) c) cells=(spl cells.toList off ds).toArray:=by
  rw [hv]
  simpa using hf
 simp only [Instr.fill,hp,e]
 rw [if_neg]
 rw [hv]
 simp
 omega
theorem fill_row {rows:List (List Value)} {i:Nat} {ds:List Value} {rest:List (Nat×Value)} (hr:∀r ∈ rows,r.length=5) (hi:i<rows.length) (hd:ds.length=5):
  Instr.fill (fun i=>some (i*5,5)) rows.flatten.toArray ((i, .agg ds.toArray)::rest)=Instr.fill (fun i=>some (i*5,5)) (rows.set i ds).flatten.toArray rest:=by
 have e1:rows.flatten=flw id rows:=by simp [flw]
 have e2:(rows.set i ds).flatten=flw id (rows.set i ds):=by simp [flw]
 have hl:(flw id rows).length=rows.length*5:=flw_len (k:=5) hr
 have hlt:=flw_lt (k:=5) (i:=4) hi (by decide)
 rw [e1,e2,fill_cons (off:=i*5) (ds:=ds) rfl (by rw [hd]) (by simp only [List.size_toArray];omega)]
 have:=flw_spl (f:=id) (k:=5) (i:=0) (ds:=ds) (b:=ds) hr hi (by omega) (by
  show spl rows[i] 0 ds=ds
  have:=hr _ (List.getElem_mem hi)
  unfold spl
  rw [List.take_zero,List.nil_append,List.drop_of_length_le (by omega),List.append_nil])
 rw [Nat.add_zero] at this
 rw [← this]
/-- Where each deed's function stands. -/
structure Dad where
 (a3 a4 a5 a6 a7 a9 a10 a11 a13:Nat)
abbrev two1 (A:Nat):Value:=fnOf 199 [.pointer (some ⟨A,0,none⟩)]
abbrev one1 (A:Nat):Value:=fnOf 206 [.pointer (some ⟨A,0,none⟩)]
abbrev z5:List Value:=dv 0 0 0 0 .nilFunc
def deedRows (d:Dad):List (List Value):=[z5,z5,z5,dv 2 2 0 0 (two1 d.a3),dv 2 2 0 0 (two1 d.a4),dv 1 1 0 0 (one1 d.a5),dv 1 1 0 31 (one1 d.a6),dv 2 2 0 0 (two1 d.a7),dv 2 2 1 8 (fnOf 129 []),dv 1 1 1 64 (one1 d.a9),dv 1 1 0 0 (one1 d.a10),dv 1 1 0 0 (one1 d.a11),dv 1 4 0 3 (fnOf 131 []),dv 1 1 0 3 (one1 d.a13)]
abbrev deedT:TypeId:=79
abbrev deedsT:TypeId:=80
theorem set5 {rows:List (List Value)} {i:Nat} {ds:List Value} (h:∀r ∈ rows,r.length=5) (hd:ds.length=5):∀r ∈ rows.set i ds,r.length=5:=fun r hr=>(List.mem_or_eq_of_mem_set hr).elim (h r) (fun e=>e ▸ hd)
theorem z14:∀r ∈ List.replicate 14 z5,r.length=5:=fun r hr=>by rw [(List.mem_replicate.1 hr).2];rfl
theorem bt_deeds (d:Dad):Tryz.prog.built deedsT [(3, .agg (dv 2 2 0 0 (two1 d.a3)).toArray),(4, .agg (dv 2 2 0 0 (two1 d.a4)).toArray),(7, .agg (dv 2 2 0 0 (two1 d.a7)).toArray),(5, .agg (dv 1 1 0 0 (one1 d.a5)).toArray),(6, .agg (dv 1 1 0 31 (one1 d.a6)).toArray),(9, .agg (dv 1 1 1 64 (one1 d.a9)).toArray),(10, .agg (dv 1 1 0 0 (one1 d.a10)).toArray),(11, .agg (dv 1 1 0 0 (one1 d.a11)).toArray),(13, .agg (dv 1 1 0 3 (one1 d.a13)).toArray),(8, .agg (dv 2 2 1 8 (fnOf 129 [])).toArray),(12, .agg (dv 1 4 0 3 (fnOf 131 [])).toArray)]=some (deedRows d).flatten.toArray:=by
 have h1:Tryz.prog.info? deedsT=some Tryz.t80:=by kernel_rfl
 have h2:Tryz.prog.info? deedT=some Tryz.t79:=by kernel_rfl
 simp only [Program.built,h1,Tryz.underlying80,h2]
 have hz:∃z,(Tryz.t80).zero=some z∧z.cells=(List.replicate 14 z5).flatten.toArray:=⟨_,rfl,rfl⟩
 obtain ⟨z,hz1,hz2⟩:=hz
 rw [hz1]
 simp only
 rw [hz2,show (Tryz.t79).size=5 from rfl]
 have r0:=z14
 rw [fill_row r0 (by simp) rfl]
 have r1:=set5 (i:=3) (ds:=dv 2 2 0 0 (two1 d.a3)) r0 rfl
 rw [fill_row r1 (by simp) rfl]
 have r2:=set5 (i:=4) (ds:=dv 2 2 0 0 (two1 d.a4)) r1 rfl
 rw [fill_row r2 (by simp) rfl]
 have r3:=set5 (i:=7) (ds:=dv 2 2 0 0 (two1 d.a7)) r2 rfl
 rw [fill_row r3 (by simp) rfl]
 have r4:=set5 (i:=5) (ds:=dv 1 1 0 0 (one1 d.a5)) r3 rfl
 rw [fill_row r4 (by simp) rfl]
 have r5:=set5 (i:=6) (ds:=dv 1 1 0 31 (one1 d.a6)) r4 rfl
 rw [fill_row r5 (by simp) rfl]
 have r6:=set5 (i:=9) (ds:=dv 1 1 1 64 (one1 d.a9)) r5 rfl
 rw [fill_row r6 (by simp) rfl]
 have r7:=set5 (i:=10) (ds:=dv 1 1 0 0 (one1 d.a10)) r6 rfl
 rw [fill_row r7 (by simp) rfl]
 have r8:=set5 (i:=11) (ds:=dv 1 1 0 0 (one1 d.a11)) r7 rfl
 rw [fill_row r8 (by simp) rfl]
 have r9:=set5 (i:=13) (ds:=dv 1 1 0 3 (one1 d.a13)) r8 rfl
 rw [fill_row r9 (by simp) rfl]
 have r10:=set5 (i:=8) (ds:=dv 2 2 1 8 (fnOf 129 [])) r9 rfl
 rw [fill_row r10 (by simp) rfl]
 have r11:=set5 (i:=12) (ds:=dv 1 4 0 3 (fnOf 131 [])) r10 rfl
 rfl
theorem it_deeds:ITy Tryz.prog deedsT (List.replicate 14 z5).flatten 560:=⟨⟨_,(show Tryz.prog.info? deedsT=some Tryz.t80 by kernel_rfl),rfl,rfl,_,rfl,rfl⟩⟩
/-- Where the functions stand that the deeds' functions call. -/
def DadAt (w' :World) (d:Dad):Prop:=Blk w' d.a3 83 [fnOf 113 []]∧Blk w' d.a4 83 [fnOf 114 []]∧Blk w' d.a7 83 [fnOf 115 []]∧Blk w' d.a5 107 [fnOf 117 []]∧Blk w' d.a6 107 [fnOf 119 []]∧Blk w' d.a9 107 [fnOf 121 []]∧Blk w' d.a10 107 [fnOf 123 []]∧Blk w' d.a11 107 [fnOf 125 []]∧Blk w' d.a13 107 [fnOf 127 []]
theorem deeds_c (w:World):Fnc Tryz.prog 32 [] w (fun r w' =>Below w.heap.size w w' ∧∃d,r= .agg (deedRows d).flatten.toArray∧DadAt w' d):=by
 have hB:=Below.refl w.heap.size w
 obtain ⟨B0,hB0⟩:∃B0,B0=w.heap.size:=⟨_,rfl⟩
 refine Ap (n:=13) Tryz.func32 (by kernel_rfl) O O O<|Ae<|Ab<|Bl (Xw.new it_deeds) O ?_
 rintro _ w ⟨rfl,b_r,hn,hz⟩
 replace hB:=hB.bs hn
 obtain ⟨A_r,eA⟩:∃A_r,A_r=B0:=⟨_,rfl⟩
 rw [← hB0,← eA] at b_r
 rw [← hB0,← eA]
 have yr:=blk_lt b_r
 clear hn hz
 refine Af<|Aa<|Cw.out<|Ae<|Ab ?_
 have y3:=blk_lt b_r
 refine Al O O (two_c 113 w) ?_
 rintro _ w ⟨hn,a3,g3,rfl,b3⟩
 replace hB:=hB.bs hn
 replace b_r:=b_r.bs hn
 clear hn
 have y4:=blk_lt b_r
 refine Al O O (two_c 114 w) ?_
 rintro _ w ⟨hn,a4,g4,rfl,b4⟩
 replace hB:=hB.bs hn
 replace b_r:=b_r.bs hn
 replace b3:=b3.bs hn
 clear hn
 have y7:=blk_lt b_r
 refine Al O O (two_c 115 w) ?_
 rintro _ w ⟨hn,a7,g7,rfl,b7⟩
 replace hB:=hB.bs hn
 replace b_r:=b_r.bs hn
 replace b3:=b3.bs hn
 replace b4:=b4.bs hn
 clear hn
 have y5:=blk_lt b_r
 refine Al O O (one_c 0 0 117 w) ?_
 rintro _ w ⟨hn,a5,g5,rfl,b5⟩
 replace hB:=hB.bs hn
 replace b_r:=b_r.bs hn
 replace b3:=b3.bs hn
 replace b4:=b4.bs hn
 replace b7:=b7.bs hn
 clear hn
 have y6:=blk_lt b_r
 refine Al O O (one_c 0 31 119 w) ?_
 rintro _ w ⟨hn,a6,g6,rfl,b6⟩
 replace hB:=hB.bs hn
 replace b_r:=b_r.bs hn
 replace b3:=b3.bs hn
 replace b4:=b4.bs hn
 replace b7:=b7.bs hn
 replace b5:=b5.bs hn
 clear hn
 have y9:=blk_lt b_r
 refine Al O O (one_c 1 64 121 w) ?_
 rintro _ w ⟨hn,a9,g9,rfl,b9⟩
 replace hB:=hB.bs hn
 replace b_r:=b_r.bs hn
 replace b3:=b3.bs hn
 replace b4:=b4.bs hn
 replace b7:=b7.bs hn
 replace b5:=b5.bs hn
 replace b6:=b6.bs hn
 clear hn
 have y10:=blk_lt b_r
 refine Al O O (one_c 0 0 123 w) ?_
 rintro _ w ⟨hn,a10,g10,rfl,b10⟩
 replace hB:=hB.bs hn
 replace b_r:=b_r.bs hn
 replace b3:=b3.bs hn
 replace b4:=b4.bs hn
 replace b7:=b7.bs hn
 replace b5:=b5.bs hn
 replace b6:=b6.bs hn
 replace b9:=b9.bs hn
 clear hn
 have y11:=blk_lt b_r
 refine Al O O (one_c 0 0 125 w) ?_
 rintro _ w ⟨hn,a11,g11,rfl,b11⟩
 replace hB:=hB.bs hn
 replace b_r:=b_r.bs hn
 replace b3:=b3.bs hn
 replace b4:=b4.bs hn
 replace b7:=b7.bs hn
 replace b5:=b5.bs hn
 replace b6:=b6.bs hn
 replace b9:=b9.bs hn
 replace b10:=b10.bs hn
 clear hn
 have y13:=blk_lt b_r
 refine Al O O (one_c 0 3 127 w) ?_
 rintro _ w ⟨hn,a13,g13,rfl,b13⟩
 replace hB:=hB.bs hn
 replace b_r:=b_r.bs hn
 replace b3:=b3.bs hn
 replace b4:=b4.bs hn
 replace b7:=b7.bs hn
 replace b5:=b5.bs hn
 replace b6:=b6.bs hn
 replace b9:=b9.bs hn
 replace b10:=b10.bs hn
 replace b11:=b11.bs hn
 clear hn
 refine Lw.val (Bn (cs:=dv 2 2 1 8 (fnOf 129 [])) O (bt_deed 2 2 1 8 129 [])) O<|Lw.val (Bn (cs:=dv 1 4 0 3 (fnOf 131 [])) O (bt_deed 1 4 0 3 131 [])) O<|Lw.val (Bn (cs:=(deedRows ⟨a3,a4,a5,a6,a7,a9,a10,a11,a13⟩).flatten) O (bt_deeds ⟨a3,a4,a5,a6,a7,a9,a10,a11,a13⟩)) O ?_
 have yr2:=blk_lt b_r
 have z0:=below_size hB
 have hones:(deedRows ⟨a3,a4,a5,a6,a7,a9,a10,a11,a13⟩).flatten.all (·.oneCell')=true:=rfl
 refine Ay (Bp (cs:=(deedRows ⟨a3,a4,a5,a6,a7,a9,a10,a11,a13⟩).flatten) (k:=70) (by kernel_rfl) O O O hones b_r O) ?_
 rintro w2 ⟨b_r2,hg,hz⟩
 have b3:=b3.by hg (fun e=>by have:=Option.some.inj e;omega)
 have b4:=b4.by hg (fun e=>by have:=Option.some.inj e;omega)
 have b7:=b7.by hg (fun e=>by have:=Option.some.inj e;omega)
 have b5:=b5.by hg (fun e=>by have:=Option.some.inj e;omega)
 have b6:=b6.by hg (fun e=>by have:=Option.some.inj e;omega)
 have b9:=b9.by hg (fun e=>by have:=Option.some.inj e;omega)
 have b10:=b10.by hg (fun e=>by have:=Option.some.inj e;omega)
 have b11:=b11.by hg (fun e=>by have:=Option.some.inj e;omega)
 have b13:=b13.by hg (fun e=>by have:=Option.some.inj e;omega)
 have hB2:=hB.grown hg z0 (by rintro _ ⟨⟩;omega)
 refine Af<|Aa<|Cw.out<|An<|Pw.retC O O (by assumption) (Tryz.underlying80) O O O ?_
 exact ⟨by rw [eA,hB0];exact hB2,⟨a3,a4,a5,a6,a7,a9,a10,a11,a13⟩,rfl,b3,b4,b7,b5,b6,b9,b10,b11,b13⟩
def dRow:Nat→Option (Int×Int×Int×Int)
 |3=>some (2,2,0,0)
 |4=>some (2,2,0,0)
 |5=>some (1,1,0,0)
 |6=>some (1,1,0,31)
 |7=>some (2,2,0,0)
 |8=>some (2,2,1,8)
 |9=>some (1,1,1,64)
 |10=>some (1,1,0,0)
 |11=>some (1,1,0,0)
 |12=>some (1,4,0,3)
 |13=>some (1,1,0,3)
 |_=>none
def DeedOk (w:World) (d:Dad) (k:Nat) (a b c e:Int):Prop:=
 ∃f q,(deedRows d)[k]? =some (dv a b c e (fnOf f q))∧∀(x:N5) (v:Value) (ts:List T4) (w1:World),x.k=BitVec.ofNat 8 k→Below w.heap.size w w1→N5.at w1 x→Tens w1 v ts→a≤(ts.length:Int)→(ts.length:Int)≤b→
  Fnc Tryz.prog f ([]++[x.v,v]++q) w1 (fun r w' =>Below w1.heap.size w1 w' ∧AnsD w1 w' r (actE x.k x ts) (actS x.k x ts) (actL x.k x ts))
theorem uno_of {α:Type} {l:List α} (h:l.length=1):∃a,l=[a]:=by
 match l,h with
 |[a],_=>exact ⟨a,rfl⟩
theorem duo_of {α:Type} {l:List α} (h:l.length=2):∃a b,l=[a,b]:=by
 match l,h with
 |[a,b],_=>exact ⟨a,b,rfl⟩
theorem dk3 (w:World) (d:Dad) (h:DadAt w d):DeedOk w d 3 2 2 0 0:=by
 obtain ⟨b3,b4,b7, -⟩:=h
 refine ⟨_,_,rfl,fun x v ts w1 hk g hx ht h1 h2=> ?_⟩
 obtain ⟨a,b,rfl⟩:=duo_of (show ts.length=2 by omega)
 rw [hk]
 exact two1_c x v a b d.a3 _ _ _ _ w1 (b3.bs g) hx ht (fun w2 g2=>(add_p a b w2 ((ht.2 a (by simp)).bs g2) ((ht.2 b (by simp)).bs g2)).mono fun _ _ ⟨q1,q2⟩=>⟨q1,q2.d⟩)
theorem dk4 (w:World) (d:Dad) (h:DadAt w d):DeedOk w d 4 2 2 0 0:=by
 obtain ⟨b3,b4,b7, -⟩:=h
 refine ⟨_,_,rfl,fun x v ts w1 hk g hx ht h1 h2=> ?_⟩
 obtain ⟨a,b,rfl⟩:=duo_of (show ts.length=2 by omega)
 rw [hk]
 exact two1_c x v a b d.a4 _ _ _ _ w1 (b4.bs g) hx ht (fun w2 g2=>(mul_p a b w2 ((ht.2 a (by simp)).bs g2) ((ht.2 b (by simp)).bs g2)).mono fun _ _ ⟨q1,q2⟩=>⟨q1,q2.d⟩)
theorem dk7 (w:World) (d:Dad) (h:DadAt w d):DeedOk w d 7 2 2 0 0:=by
 obtain ⟨b3,b4,b7, -⟩:=h
 refine ⟨_,_,rfl,fun x v ts w1 hk g hx ht h1 h2=> ?_⟩
 obtain ⟨a,b,rfl⟩:=duo_of (show ts.length=2 by omega)
 rw [hk]
 exact two1_c x v a b d.a7 _ _ _ _ w1 (b7.bs g) hx ht (fun w2 g2=>(prod_c a b w2 ((ht.2 a (by simp)).bs g2) ((ht.2 b (by simp)).bs g2)).mono fun _ _ ⟨q1,q2⟩=>⟨q1,q2.d⟩)
theorem dk5 (w:World) (d:Dad) (h:DadAt w d):DeedOk w d 5 1 1 0 0:=by
 obtain ⟨-, -, -,b5,b6,b9,b10,b11,b13⟩:=h
 refine ⟨_,_,rfl,fun x v ts w1 hk g hx ht h1 h2=> ?_⟩
 obtain ⟨a,rfl⟩:=uno_of (show ts.length=1 by omega)
 rw [hk]
 exact one1_c x v a d.a5 _ _ _ _ w1 (b5.bs g) hx ht (fun w2 g2=>deed1_c x a w2 (hx.bs g2) ((ht.2 a (by simp)).bs g2))
theorem dk6 (w:World) (d:Dad) (h:DadAt w d):DeedOk w d 6 1 1 0 31:=by
 obtain ⟨-, -, -,b5,b6,b9,b10,b11,b13⟩:=h
 refine ⟨_,_,rfl,fun x v ts w1 hk g hx ht h1 h2=> ?_⟩
 obtain ⟨a,rfl⟩:=uno_of (show ts.length=1 by omega)
 rw [hk]
 exact one1_c x v a d.a6 _ _ _ _ w1 (b6.bs g) hx ht (fun w2 g2=>deed2_c x a w2 (hx.bs g2) ((ht.2 a (by simp)).bs g2))
theorem dk9 (w:World) (d:Dad) (h:DadAt w d):DeedOk w d 9 1 1 1 64:=by
 obtain ⟨-, -, -,b5,b6,b9,b10,b11,b13⟩:=h
 refine ⟨_,_,rfl,fun x v ts w1 hk g hx ht h1 h2=> ?_⟩
 obtain ⟨a,rfl⟩:=uno_of (show ts.length=1 by omega)
 rw [hk]
 exact one1_c x v a d.a9 _ _ _ _ w1 (b9.bs g) hx ht (fun w2 g2=>deed3_c x a w2 (hx.bs g2) ((ht.2 a (by simp)).bs g2))
theorem dk10 (w:World) (d:Dad) (h:DadAt w d):DeedOk w d 10 1 1 0 0:=by
 obtain ⟨-, -, -,b5,b6,b9,b10,b11,b13⟩:=h
 refine ⟨_,_,rfl,fun x v ts w1 hk g hx ht h1 h2=> ?_⟩
 obtain ⟨a,rfl⟩:=uno_of (show ts.length=1 by omega)
 rw [hk]
 exact one1_c x v a d.a10 _ _ _ _ w1 (b10.bs g) hx ht (fun w2 g2=>deed4_c x a w2 (hx.bs g2) ((ht.2 a (by simp)).bs g2))
theorem dk11 (w:World) (d:Dad) (h:DadAt w d):DeedOk w d 11 1 1 0 0:=by
 obtain ⟨-, -, -,b5,b6,b9,b10,b11,b13⟩:=h
 refine ⟨_,_,rfl,fun x v ts w1 hk g hx ht h1 h2=> ?_⟩
 obtain ⟨a,rfl⟩:=uno_of (show ts.length=1 by omega)
 rw [hk]
 exact one1_c x v a d.a11 _ _ _ _ w1 (b11.bs g) hx ht (fun w2 g2=>deed5_c x a w2 (hx.bs g2) ((ht.2 a (by simp)).bs g2))
theorem dk13 (w:World) (d:Dad) (h:DadAt w d):DeedOk w d 13 1 1 0 3:=by
 obtain ⟨-, -, -,b5,b6,b9,b10,b11,b13⟩:=h
 refine ⟨_,_,rfl,fun x v ts w1 hk g hx ht h1 h2=> ?_⟩
 obtain ⟨a,rfl⟩:=uno_of (show ts.length=1 by omega)
 rw [hk]
 exact one1_c x v a d.a13 _ _ _ _ w1 (b13.bs g) hx ht (fun w2 g2=>deed6_c x a w2 (hx.bs g2) ((ht.2 a (by simp)).bs g2))
theorem dk8 (w:World) (d:Dad):DeedOk w d 8 2 2 1 8:=by
 refine ⟨_,_,rfl,fun x v ts w1 hk _ _ ht h1 h2=> ?_⟩
 obtain ⟨a,b,rfl⟩:=duo_of (show ts.length=2 by omega)
 rw [hk]
 exact deed7_c x v a b w1 ht
theorem dk12 (w:World) (d:Dad):DeedOk w d 12 1 4 0 3:=by
 refine ⟨_,_,rfl,fun x v ts w1 hk _ _ ht _ _=> ?_⟩
 rw [hk]
 exact deed8_c x v ts w1 ht
theorem deed_at (w:World) (d:Dad) (h:DadAt w d) (k:Nat) (hk:k<14):(dRow k=none∧(deedRows d)[k]? =some z5)∨∃a b c e,dRow k=some (a,b,c,e)∧DeedOk w d k a b c e:=by
 rcases (show k=0∨k=1∨k=2∨k=3∨k=4∨k=5∨k=6∨k=7∨k=8∨k=9∨k=10∨k=11∨k=12∨k=13 by omega) with rfl|rfl|rfl|rfl|rfl|rfl|rfl|rfl|rfl|rfl|rfl|rfl|rfl|rfl
 ·exact .inl ⟨rfl,rfl⟩
 ·exact .inl ⟨rfl,rfl⟩
 ·exact .inl ⟨rfl,rfl⟩
 ·exact .inr ⟨_,_,_,_,rfl,dk3 w d h⟩
 ·exact .inr ⟨_,_,_,_,rfl,dk4 w d h⟩
 ·exact .inr ⟨_,_,_,_,rfl,dk5 w d h⟩
 ·exact .inr ⟨_,_,_,_,rfl,dk6 w d h⟩
 ·exact .inr ⟨_,_,_,_,rfl,dk7 w d h⟩
 ·exact .inr ⟨_,_,_,_,rfl,dk8 w d⟩
 ·exact .inr ⟨_,_,_,_,rfl,dk9 w d h⟩
 ·exact .inr ⟨_,_,_,_,rfl,dk10 w d h⟩
 ·exact .inr ⟨_,_,_,_,rfl,dk11 w d h⟩
 ·exact .inr ⟨_,_,_,_,rfl,dk12 w d⟩
 ·exact .inr ⟨_,_,_,_,rfl,dk13 w d h⟩
end Go.Proofs.YtmipoeanpnnjoaaGreatDoor

/-! Contract: what a node comes to, of what it takes in. -/
namespace Go.Dd
open Go Go.RowKit
set_option maxRecDepth 100000
section
variable {P : Program} {n : Nat} {E : Env} {w : World} {ty t s : TypeId} {x y : Operand} {v : Value}
theorem Ex.nilFn {f:Fn} {p q:Array Value} (hu:∃a b c,P.underlying t=some (.func a b c)) (hx:ev E x=some (.func f p q)) (hy:ev E y=some .nilFunc):Ex P n E (.binOp .eql t x y s) ty w (.bool false):=fun a ha _ _ _ _=>by
 obtain ⟨u1,u2,u3,hu⟩:=hu
 have hg:eqGuard .eql t x y (.func f p q) .nilFunc=pure ():=rfl
 have hb:binOp .eql t (.func f p q) .nilFunc=(do pure (.bool (← Op.equal t (.func f p q) .nilFunc))):=rfl
 have hr:(Op.equalIn (9999+1) t (.func f p q) .nilFunc).run P w= .ok false w:=by
  unfold Op.equalIn
  simp [run_underlying hu]
 simp [execOp,ha.ev hx,ha.ev hy,hg,hb,Op.equal,Op.maxDepth,hr]
theorem Ex.nilFy (hu:∃a b c,P.underlying t=some (.func a b c)) (hx:ev E x=some .nilFunc) (hy:ev E y=some .nilFunc):Ex P n E (.binOp .eql t x y s) ty w (.bool true):=fun a ha _ _ _ _=>by
 obtain ⟨u1,u2,u3,hu⟩:=hu
 have hg:eqGuard .eql t x y .nilFunc .nilFunc=pure ():=rfl
 have hb:binOp .eql t .nilFunc .nilFunc=(do pure (.bool (← Op.equal t .nilFunc .nilFunc))):=rfl
 have hr:(Op.equalIn (9999+1) t .nilFunc .nilFunc).run P w= .ok true w:=by
  unfold Op.equalIn
  simp [run_underlying hu]
 simp [execOp,ha.ev hx,ha.ev hy,hg,hb,Op.equal,Op.maxDepth,hr]
end
end Go.Dd
namespace Go.Proofs.YtmipoeanpnnjoaaGreatDoor
open Go Go.Dd Go.RowKit
set_option maxRecDepth 100000

theorem un_deed:∃a b c,Tryz.prog.underlying 36=some (.func a b c):=⟨_,_,_,Tryz.underlying36⟩
/-- Is a node done? -/
def doOk (x:N5) (ts:List T4):Bool:=match dRow x.k.toNat with
 |some (a,b,c,d)=>decide (ts.length=x.i.length) && decide (a≤(ts.length:Int)) && decide ((ts.length:Int)≤b) && decide (c≤x.n) && decide (x.n≤d) && fldB x.k x.s x.p
 |none=>false
def doE (x:N5) (ts:List T4):Int:=if doOk x ts then actE x.k x ts else 1
theorem dRow_big {k:Nat} (h:14≤k):dRow k=none:=by
 unfold dRow
 split<;>first|rfl|omega
theorem do_c (x:N5) (v:Value) (ts:List T4) (w:World) (hx:N5.at w x) (h:Tens w v ts):
  Fnc Tryz.prog 9 [x.v,v] w (fun r w' =>Below w.heap.size w w' ∧AnsD w w' r (doE x ts) (actS x.k x ts) (actL x.k x ts)):=by
 obtain ⟨W,hW⟩:∃W,W=w:=⟨_,rfl⟩
 rw [← hW] at hx h
 rw [← hW]
 have hB:=Below.refl W.heap.size W
 have h_i:=hx.i
 have h_s:=hx.s
 have h_v:=h.1
 have k8:=x.k.isLt
 refine Ap (n:=70) Tryz.func9 (by kernel_rfl) O O O<|Ae<|Ab<|Bv (cs:=x.cells) O O O ?_
 rintro A_x w eA_x b_x hn -
 replace hB:=hB.bs hn
 replace h_i:=h_i.bs hn
 replace h_s:=h_s.bs hn
 replace h_v:=h_v.bs hn
 clear hn
 have yx:=blk_lt b_x
 refine B8 it_33 O ?_
 rintro A_r w eA_r b_r hn -
 replace hB:=hB.bs hn
 replace h_i:=h_i.bs hn
 replace h_s:=h_s.bs hn
 replace h_v:=h_v.bs hn
 replace b_x:=b_x.bs hn
 clear hn
 refine Lw.val (Ac O) O<|Af<|Aa<|Cw.out<|Ae<|Ab ?_
 have z0:=below_size hB
 have yr:=blk_lt b_r
 refine Al O O (deeds_c w) ?_
 rintro _ w1 ⟨hn1,d,rfl,hD⟩
 have b_x:=b_x.bs hn1
 have b_r:=b_r.bs hn1
 have z1:=hn1.size
 have hB:=hB.trans (hn1.mono z0)
 refine Bl (Xw.new it_deeds) O ?_
 rintro _ w2 ⟨rfl,b_all,hn2,hz2⟩
 have b_x:=b_x.bs hn2
 have b_r:=b_r.bs hn2
 have hones:(deedRows d).flatten.all (·.oneCell')=true:=rfl
 obtain ⟨A_all,eAll⟩:∃A_all,A_all=w1.heap.size:=⟨_,rfl⟩
 rw [← eAll] at b_all
 rw [← eAll]
 refine Ay (Bp (cs:=(deedRows d).flatten) (k:=70) (by kernel_rfl) O O O hones b_all O) ?_
 rintro w3 ⟨b_all,hg3,hz3⟩
 have hn13:Below w1.heap.size w1 w3:=hn2.grown hg3 hn2.size (by rintro _ ⟨⟩;omega)
 have b_x:=b_x.by hg3 (by rintro ⟨⟩;omega)
 have b_r:=b_r.by hg3 (by rintro ⟨⟩;omega)
 have hB:=hB.trans (hn13.mono (by omega))
 have z3:=hn13.size
 refine Af<|Aa<|Cw.out<|Ae<|Ae<|Ab<|Lw.val (Ag (q:=0) Tryz.underlying25 O (sz_22 _) O) O<|Lw.val (Aj (ag_22 _) O (by assumption) O) O ?_
 refine Lw.val (Ex.conv8_I us_22 un_3 O) O<|Lw.val (Cu O O) O<|Af<|Aa<|Cw.out<|Au O ?_ ?_
 ·intro g
  have g:=of_decide_eq_true g
  have hF:doOk x ts=false:=(show doOk x ts=false by unfold doOk;rw [dRow_big (by omega)])
  have e1:doE x ts=1:=by unfold doE;rw [hF];rfl
  refine Ae<|Ab<|Lw.val (Bn (vs:=[]) (cs:=[.slice none 0 0, .slice none 0 0]) O (by kernel_rfl)) O<|Ay (Bp (cs:=[.slice none 0 0, .slice none 0 0]) (k:=2) (by kernel_rfl) O O O O b_r O) ?_
  rintro w9 ⟨b_r9,hg9,hz9⟩
  have hB9:=Below.grown hB hg9 (below_size hB) (by rintro _ ⟨⟩;omega)
  refine Lw.val (Ac O) O<|Af<|Aa<|Cw.out<|An<|Ak<|Bf O O O (by assumption) (Tryz.underlying33) O O O ?_
  rw [e1]
  exact ⟨hB9,ansD_no (by decide)⟩
 intro g
 have k14:x.k.toNat<14:=by have:=of_decide_eq_false g;omega
 have hl70:∀r ∈ deedRows d,r.length=5:=fun r hr=>by
  simp only [deedRows,List.mem_cons,List.not_mem_nil,or_false] at hr
  rcases hr with rfl|rfl|rfl|rfl|rfl|rfl|rfl|rfl|rfl|rfl|rfl|rfl|rfl|rfl<;>rfl
 have hpart:∀row,(deedRows d)[x.k.toNat]? =some row→(((deedRows d).flatten.drop (0+x.k.toNat*5)).take 5=row∧row.length=5):=fun row hr=>by
  obtain ⟨hlt,rfl⟩:=List.getElem?_eq_some_iff.1 hr
  have e1:(deedRows d).flatten=flw id (deedRows d):=by simp [flw]
  rw [e1,Nat.zero_add]
  exact ⟨flw_part (f:=id) (k:=5) hl70 hlt,hl70 _ (List.getElem_mem hlt)⟩
 rcases deed_at w1 d hD x.k.toNat k14 with ⟨hdr,hrow⟩|⟨a,b,c,e,hdr,f,q,hrow,hcall⟩
 ·obtain ⟨hp, -⟩:=hpart _ hrow
  refine Aq<|Aa<|Cw.out<|Ae<|Ab<|Lw.val (Ag (q:=0) Tryz.underlying25 O (sz_22 _) O) O<|Lw.val (Aj (ag_22 _) O (by assumption) O) O ?_
  refine Lw.val (Ex.idxB un_80 sz_79 O O x.k.toNat O k14) O<|Lw.val (Ex.ldAt (ds:=z5) (k:=5) (ag_79 _) (sz_79 _) O O b_all hp) O<|Bl (Xw.new it_79) O ?_
  rintro _ w4 ⟨rfl,b_d,hn4,hz4⟩
  have b_r:=b_r.bs hn4
  refine Ay (Bp (cs:=z5) (k:=5) (by kernel_rfl) O O O O b_d O) ?_
  rintro w5 ⟨b_d,hg5,hz5⟩
  have hB:=(hB.trans (hn4.mono (by omega))).grown hg5 (by omega) (by rintro _ ⟨⟩;omega)
  have b_r:=b_r.by hg5 (by rintro ⟨⟩;omega)
  refine Af<|Aa<|Cw.out<|Ae<|Ae<|Ab<|Lw.val (Ag (q:=0) Tryz.underlying79 O (sz_36 _) O) O<|Lw.val (Aj (ag_36 _) O (by assumption) O) O ?_
  refine Lw.val (Ex.nilFy un_deed O O) O<|Lw.val (Ad O) O<|Cd 21 (v' := .bool true) O (congrArg Value.bool (rfl))<|Ai (dj:=21) O O O O<|Ai (dj:=21) O O O O<|Ai (dj:=21) O O O O<|Ai (dj:=21) O O O O<|Ai (dj:=21) O O O O<|Ai (dj:=21) O O O O<|Lw.val (As O O) O<|Lw.val (Ad O) O<|Ai (dj:=29) O O O O<|Ai (dj:=29) O O O O<|Ai (dj:=29) O O O O<|Ai (dj:=29) O O O O<|Ai (dj:=29) O O O O<|Lw.val (As O O) O<|Lw.val (Ad O) O<|Ai (dj:=36) O O O O<|Ai (dj:=36) O O O O<|Ai (dj:=36) O O O O<|Ai (dj:=36) O O O O<|Ai (dj:=36) O O O O<|Lw.val (As O O) O<|Lw.val (Ad O) O<|Ai (dj:=43) O O O O<|Ai (dj:=43) O O O O<|Ai (dj:=43) O O O O<|Ai (dj:=43) O O O O<|Ai (dj:=43) O O O O<|Lw.val (As O O) O<|Lw.val (Ad O) O<|Ai (dj:=50) O O O O<|Ai (dj:=50) O O O O<|Ai (dj:=50) O O O O<|Ai (dj:=50) O O O O<|Ai (dj:=50) O O O O<|Lw.val (As O O) O<|Lw.val (Ad O) O<|Ai (dj:=57) O O O O<|Ai (dj:=57) O O O O<|Ai (dj:=57) O O O O<|Lw.val (As O O) O<|Af<|Aa<|Cw.out<|Br O<|Ae<|Ab ?_
  refine Lw.val (Bn (vs:=[]) (cs:=[.slice none 0 0, .slice none 0 0]) O (by kernel_rfl)) O ?_
  have hF:doOk x ts=false:=(show doOk x ts=false by unfold doOk;rw [hdr])
  have e1:doE x ts=1:=by unfold doE;rw [hF];rfl
  refine Ay (Bp (cs:=[.slice none 0 0, .slice none 0 0]) (k:=2) (by kernel_rfl) O O O O b_r O) ?_
  rintro w9 ⟨b_r9,hg9,hz9⟩
  have hB9:=Below.grown hB hg9 (below_size hB) (by rintro _ ⟨⟩;omega)
  refine Lw.val (Ac O) O<|Af<|Aa<|Cw.out<|An<|Ak<|Bf O O O (by assumption) (Tryz.underlying33) O O O ?_
  rw [e1]
  exact ⟨hB9,ansD_no (by decide)⟩
 obtain ⟨hp, -⟩:=hpart _ hrow
 have hok:doOk x ts=(decide (ts.length=x.i.length) && decide (a≤(ts.length:Int)) && decide ((ts.length:Int)≤b) && decide (c≤x.n) && decide (x.n≤e) && fldB x.k x.s x.p):=by unfold doOk;rw [hdr]
 refine Aq<|Aa<|Cw.out<|Ae<|Ab<|Lw.val (Ag (q:=0) Tryz.underlying25 O (sz_22 _) O) O<|Lw.val (Aj (ag_22 _) O (by assumption) O) O ?_
 refine Lw.val (Ex.idxB un_80 sz_79 O O x.k.toNat O k14) O<|Lw.val (Ex.ldAt (ds:=dv a b c e (fnOf f q)) (k:=5) (ag_79 _) (sz_79 _) O O b_all hp) O<|Bl (Xw.new it_79) O ?_
 rintro _ w4 ⟨rfl,b_d,hn4,hz4⟩
 refine Ay (Bp (cs:=dv a b c e (fnOf f q)) (k:=5) (by kernel_rfl) O O O O b_d O) ?_
 rintro w5 ⟨b_d,hg5,hz5⟩
 have hn35:Below w3.heap.size w3 w5:=hn4.grown hg5 hn4.size (by rintro _ ⟨⟩;omega)
 have hB:=hB.trans (hn35.mono (by omega))
 have b_r:=b_r.bs hn35
 have b_x:=b_x.bs hn35
 have z5:=hn35.size
 have h_v:=h.1.bs hB
 have h_i:=hx.i.bs hB
 have h_s:=hx.s.bs hB
 refine Af<|Aa<|Cw.out<|Ae<|Ae<|Ab<|Lw.val (Ag (q:=0) Tryz.underlying79 O (sz_36 _) O) O<|Lw.val (Aj (ag_36 _) O (by assumption) O) O ?_
 refine Lw.val (Ex.nilFn un_deed O O) O<|Lw.val (Ad O) O<|Cd 21 (v' := .bool false) O (congrArg Value.bool (rfl))<|Lw.take (dj:=21) O O<|Lw.val (Ad O) O<|Lw.take (dj:=21) O O<|Lw.val (Av st_26 O (by assumption)) O ?_
 refine Lw.take (dj:=21) O O<|Lw.val (Ag (q:=0) Tryz.underlying25 O (sz_23 _) O) O<|Lw.take (dj:=21) O O<|Lw.val (Aj (ag_23 _) O (by assumption) O) O ?_
 refine Lw.take (dj:=21) O O<|Lw.val (Av st_23 O (by assumption)) O ?_
 refine Lw.take (dj:=21) O O<|Lw.val (B7 O O) O<|Lw.val (Bd O O) O<|Lw.val (Ad O) O ?_
 refine Bt 29 O ?_ ?_
 ·intro g1
  have g1:¬ts.length=x.i.length:=fun e=>by rw [e] at g1;simp at g1
  refine Ai (dj:=29) O O O O<|Ai (dj:=29) O O O O<|Ai (dj:=29) O O O O<|Ai (dj:=29) O O O O<|Ai (dj:=29) O O O O<|Lw.val (As O O) O<|Lw.val (Ad O) O<|Ai (dj:=36) O O O O<|Ai (dj:=36) O O O O<|Ai (dj:=36) O O O O<|Ai (dj:=36) O O O O<|Ai (dj:=36) O O O O<|Lw.val (As O O) O<|Lw.val (Ad O) O<|Ai (dj:=43) O O O O<|Ai (dj:=43) O O O O<|Ai (dj:=43) O O O O<|Ai (dj:=43) O O O O<|Ai (dj:=43) O O O O<|Lw.val (As O O) O<|Lw.val (Ad O) O<|Ai (dj:=50) O O O O<|Ai (dj:=50) O O O O<|Ai (dj:=50) O O O O<|Ai (dj:=50) O O O O<|Ai (dj:=50) O O O O<|Lw.val (As O O) O<|Lw.val (Ad O) O<|Ai (dj:=57) O O O O<|Ai (dj:=57) O O O O<|Ai (dj:=57) O O O O<|Lw.val (As O O) O<|Af<|Aa<|Cw.out<|Br O<|Ae<|Ab<|Lw.val (Bn (vs:=[]) (cs:=[.slice none 0 0, .slice none 0 0]) O (by kernel_rfl)) O ?_
  have hF:doOk x ts=false:=by rw [hok,decide_eq_false g1];rfl
  have e1:doE x ts=1:=by unfold doE;rw [hF];rfl
  refine Ay (Bp (cs:=[.slice none 0 0, .slice none 0 0]) (k:=2) (by kernel_rfl) O O O O b_r O) ?_
  rintro w9 ⟨b_r9,hg9,hz9⟩
  have hB9:=Below.grown hB hg9 (below_size hB) (by rintro _ ⟨⟩;omega)
  refine Lw.val (Ac O) O<|Af<|Aa<|Cw.out<|An<|Ak<|Bf O O O (by assumption) (Tryz.underlying33) O O O ?_
  rw [e1]
  exact ⟨hB9,ansD_no (by decide)⟩
 intro g1
 have g1:ts.length=x.i.length:=by simp at g1;omega
 refine Lw.take (dj:=29) O O<|Lw.val (Ad O) O<|Lw.take (dj:=29) O O<|Lw.val (Av st_26 O (by assumption)) O ?_
 refine Lw.take (dj:=29) O O<|Lw.val (Ag (q:=0) Tryz.underlying79 O (sz_3 _) O) O<|Lw.take (dj:=29) O O<|Lw.val (Aj (ag_3 _) O (by assumption) O) O ?_
 refine Lw.take (dj:=29) O O<|Lw.val (Bh O O) O<|Lw.val (Bd O O) O<|Lw.val (Ad O) O ?_
 refine Bt 36 O ?_ ?_
 ·intro g2
  have g2:¬a≤(ts.length:Int):=by have:=of_decide_eq_true g2;omega
  refine Ai (dj:=36) O O O O<|Ai (dj:=36) O O O O<|Ai (dj:=36) O O O O<|Ai (dj:=36) O O O O<|Ai (dj:=36) O O O O<|Lw.val (As O O) O<|Lw.val (Ad O) O<|Ai (dj:=43) O O O O<|Ai (dj:=43) O O O O<|Ai (dj:=43) O O O O<|Ai (dj:=43) O O O O<|Ai (dj:=43) O O O O<|Lw.val (As O O) O<|Lw.val (Ad O) O<|Ai (dj:=50) O O O O<|Ai (dj:=50) O O O O<|Ai (dj:=50) O O O O<|Ai (dj:=50) O O O O<|Ai (dj:=50) O O O O<|Lw.val (As O O) O<|Lw.val (Ad O) O<|Ai (dj:=57) O O O O<|Ai (dj:=57) O O O O<|Ai (dj:=57) O O O O<|Lw.val (As O O) O<|Af<|Aa<|Cw.out<|Br O<|Ae<|Ab<|Lw.val (Bn (vs:=[]) (cs:=[.slice none 0 0, .slice none 0 0]) O (by kernel_rfl)) O ?_
  have hF:doOk x ts=false:=by rw [hok,decide_eq_false g2];simp
  have e1:doE x ts=1:=by unfold doE;rw [hF];rfl
  refine Ay (Bp (cs:=[.slice none 0 0, .slice none 0 0]) (k:=2) (by kernel_rfl) O O O O b_r O) ?_
  rintro w9 ⟨b_r9,hg9,hz9⟩
  have hB9:=Below.grown hB hg9 (below_size hB) (by rintro _ ⟨⟩;omega)
  refine Lw.val (Ac O) O<|Af<|Aa<|Cw.out<|An<|Ak<|Bf O O O (by assumption) (Tryz.underlying33) O O O ?_
  rw [e1]
  exact ⟨hB9,ansD_no (by decide)⟩
 intro g2
 have g2:a≤(ts.length:Int):=by have:=of_decide_eq_false g2;omega
 refine Lw.take (dj:=36) O O<|Lw.val (Ad O) O<|Lw.take (dj:=36) O O<|Lw.val (Av st_26 O (by assumption)) O ?_
 refine Lw.take (dj:=36) O O<|Lw.val (Ag (q:=0) Tryz.underlying79 O (sz_3 _) O) O<|Lw.take (dj:=36) O O<|Lw.val (Aj (ag_3 _) O (by assumption) O) O ?_
 refine Lw.take (dj:=36) O O<|Lw.val (Cr O O) O<|Lw.val (Bd O O) O<|Lw.val (Ad O) O ?_
 refine Bt 43 O ?_ ?_
 ·intro g3
  have g3:¬(ts.length:Int)≤b:=by have:=of_decide_eq_true g3;omega
  refine Ai (dj:=43) O O O O<|Ai (dj:=43) O O O O<|Ai (dj:=43) O O O O<|Ai (dj:=43) O O O O<|Ai (dj:=43) O O O O<|Lw.val (As O O) O<|Lw.val (Ad O) O<|Ai (dj:=50) O O O O<|Ai (dj:=50) O O O O<|Ai (dj:=50) O O O O<|Ai (dj:=50) O O O O<|Ai (dj:=50) O O O O<|Lw.val (As O O) O<|Lw.val (Ad O) O<|Ai (dj:=57) O O O O<|Ai (dj:=57) O O O O<|Ai (dj:=57) O O O O<|Lw.val (As O O) O<|Af<|Aa<|Cw.out<|Br O<|Ae<|Ab<|Lw.val (Bn (vs:=[]) (cs:=[.slice none 0 0, .slice none 0 0]) O (by kernel_rfl)) O ?_
  have hF:doOk x ts=false:=by rw [hok,decide_eq_false g3];simp
  have e1:doE x ts=1:=by unfold doE;rw [hF];rfl
  refine Ay (Bp (cs:=[.slice none 0 0, .slice none 0 0]) (k:=2) (by kernel_rfl) O O O O b_r O) ?_
  rintro w9 ⟨b_r9,hg9,hz9⟩
  have hB9:=Below.grown hB hg9 (below_size hB) (by rintro _ ⟨⟩;omega)
  refine Lw.val (Ac O) O<|Af<|Aa<|Cw.out<|An<|Ak<|Bf O O O (by assumption) (Tryz.underlying33) O O O ?_
  rw [e1]
  exact ⟨hB9,ansD_no (by decide)⟩
 intro g3
 have g3:(ts.length:Int)≤b:=by have:=of_decide_eq_false g3;omega
 refine Lw.take (dj:=43) O O<|Lw.val (Ag (q:=0) Tryz.underlying25 O (sz_3 _) O) O<|Lw.take (dj:=43) O O<|Lw.val (Aj (ag_3 _) O (by assumption) O) O ?_
 refine Lw.take (dj:=43) O O<|Lw.val (Ag (q:=0) Tryz.underlying79 O (sz_3 _) O) O<|Lw.take (dj:=43) O O<|Lw.val (Aj (ag_3 _) O (by assumption) O) O ?_
 refine Lw.take (dj:=43) O O<|Lw.val (Bh O O) O<|Lw.val (Bd O O) O<|Lw.val (Ad O) O ?_
 refine Bt 50 O ?_ ?_
 ·intro g4
  have g4:¬c≤x.n:=by have:=of_decide_eq_true g4;omega
  refine Ai (dj:=50) O O O O<|Ai (dj:=50) O O O O<|Ai (dj:=50) O O O O<|Ai (dj:=50) O O O O<|Ai (dj:=50) O O O O<|Lw.val (As O O) O<|Lw.val (Ad O) O<|Ai (dj:=57) O O O O<|Ai (dj:=57) O O O O<|Ai (dj:=57) O O O O<|Lw.val (As O O) O<|Af<|Aa<|Cw.out<|Br O<|Ae<|Ab<|Lw.val (Bn (vs:=[]) (cs:=[.slice none 0 0, .slice none 0 0]) O (by kernel_rfl)) O ?_
  have hF:doOk x ts=false:=by rw [hok,decide_eq_false g4];simp
  have e1:doE x ts=1:=by unfold doE;rw [hF];rfl
  refine Ay (Bp (cs:=[.slice none 0 0, .slice none 0 0]) (k:=2) (by kernel_rfl) O O O O b_r O) ?_
  rintro w9 ⟨b_r9,hg9,hz9⟩
  have hB9:=Below.grown hB hg9 (below_size hB) (by rintro _ ⟨⟩;omega)
  refine Lw.val (Ac O) O<|Af<|Aa<|Cw.out<|An<|Ak<|Bf O O O (by assumption) (Tryz.underlying33) O O O ?_
  rw [e1]
  exact ⟨hB9,ansD_no (by decide)⟩
 intro g4
 have g4:c≤x.n:=by have:=of_decide_eq_false g4;omega
 refine Lw.take (dj:=50) O O<|Lw.val (Ag (q:=0) Tryz.underlying25 O (sz_3 _) O) O<|Lw.take (dj:=50) O O<|Lw.val (Aj (ag_3 _) O (by assumption) O) O ?_
 refine Lw.take (dj:=50) O O<|Lw.val (Ag (q:=0) Tryz.underlying79 O (sz_3 _) O) O<|Lw.take (dj:=50) O O<|Lw.val (Aj (ag_3 _) O (by assumption) O) O ?_
 refine Lw.take (dj:=50) O O<|Lw.val (Cr O O) O<|Lw.val (Bd O O) O<|Lw.val (Ad O) O ?_
 refine Bt 57 O ?_ ?_
 ·intro g5
  have g5:¬x.n≤e:=by have:=of_decide_eq_true g5;omega
  refine Ai (dj:=57) O O O O<|Ai (dj:=57) O O O O<|Ai (dj:=57) O O O O<|Lw.val (As O O) O<|Af<|Aa<|Cw.out<|Br O<|Ae<|Ab<|Lw.val (Bn (vs:=[]) (cs:=[.slice none 0 0, .slice none 0 0]) O (by kernel_rfl)) O ?_
  have hF:doOk x ts=false:=by rw [hok,decide_eq_false g5];simp
  have e1:doE x ts=1:=by unfold doE;rw [hF];rfl
  refine Ay (Bp (cs:=[.slice none 0 0, .slice none 0 0]) (k:=2) (by kernel_rfl) O O O O b_r O) ?_
  rintro w9 ⟨b_r9,hg9,hz9⟩
  have hB9:=Below.grown hB hg9 (below_size hB) (by rintro _ ⟨⟩;omega)
  refine Lw.val (Ac O) O<|Af<|Aa<|Cw.out<|An<|Ak<|Bf O O O (by assumption) (Tryz.underlying33) O O O ?_
  rw [e1]
  exact ⟨hB9,ansD_no (by decide)⟩
 intro g5
 have g5:x.n≤e:=by have:=of_decide_eq_false g5;omega
 refine Lw.take (dj:=57) O O<|Lw.val (Bw (k:=5) (ag_25 _) (sz_25 _) O O b_x) O<|Lw.take (dj:=57) O O<|Al O O (fields_c x w5 (hx.bs hB)) ?_
 rintro _ w6 ⟨rfl,hn6⟩
 have hB:=hB.trans (hn6.mono (by omega))
 have b_r:=b_r.bs hn6
 have b_x:=b_x.bs hn6
 have b_d:=b_d.bs hn6
 have z6:=hn6.size
 refine Lw.take (dj:=57) O O<|Lw.val (Bx O) O<|Lw.val (Bd O O) O<|Af<|Aa<|Cw.out<|Au O ?_ ?_
 ·intro g6
  have g6:fldB x.k x.s x.p=false:=by simpa using g6
  have hF:doOk x ts=false:=by rw [hok,g6,Bool.and_false]
  have e1:doE x ts=1:=by unfold doE;rw [hF];rfl
  refine Ae<|Ab<|Lw.val (Bn (vs:=[]) (cs:=[.slice none 0 0, .slice none 0 0]) O (by kernel_rfl)) O<|Ay (Bp (cs:=[.slice none 0 0, .slice none 0 0]) (k:=2) (by kernel_rfl) O O O O b_r O) ?_
  rintro w9 ⟨b_r9,hg9,hz9⟩
  have hB9:=Below.grown hB hg9 (below_size hB) (by rintro _ ⟨⟩;omega)
  refine Lw.val (Ac O) O<|Af<|Aa<|Cw.out<|An<|Ak<|Bf O O O (by assumption) (Tryz.underlying33) O O O ?_
  rw [e1]
  exact ⟨hB9,ansD_no (by decide)⟩
 intro g6
 have g6:fldB x.k x.s x.p=true:=by simpa using g6
 have e0:doE x ts=actE x.k x ts:=by
  unfold doE
  rw [hok,decide_eq_true g1,decide_eq_true g2,decide_eq_true g3,decide_eq_true g4,decide_eq_true g5,g6];rfl
 have hcl:=hcall x v ts w6 (by simp) (hn13.trans ((hn35.trans (hn6.mono z5)).mono z3)) (hx.bs hB) (h.bs hB) g2 g3
 rw [← e0] at hcl
 refine Aq<|Aa<|Cw.out<|Ae<|Ab<|Lw.val (Ag (q:=0) Tryz.underlying79 O (sz_36 _) O) O<|Lw.val (Aj (ag_36 _) O (by assumption) O) O ?_
 refine Lw.val (Bw (k:=5) (ag_25 _) (sz_25 _) O O b_x) O<|Lw.val (Ad O) O<|Lw.callV (p:=[]) (q:=q) O O O (hcl) ?_
 rintro r w7 ⟨hn7,hA⟩
 obtain ⟨rx,ry,rfl,r1⟩:=hA.ones
 have z7:=hn7.size
 have hB:=hB.trans (hn7.mono (by omega))
 have b_r:=b_r.bs hn7
 refine Lw.val (Ax (i:=0) O O) O<|Lw.val (Ax (i:=1) O O) O<|Ay (Bp (cs:=[rx,ry]) (k:=2) (by kernel_rfl) O O O r1 b_r O) ?_
 rintro w8 ⟨b_r8,hg8,hz8⟩
 have hA8:=hA.by hg8 (by omega)
 have hB8:=hB.grown hg8 (by omega) (by rintro _ ⟨⟩;omega)
 refine Lw.val (Ac O) O<|Af<|Aa<|Cw.out<|An<|Bf O O O (by assumption) (Tryz.underlying33) O O O ?_
 exact ⟨hB8,hA8.low (by omega)⟩
end Go.Proofs.YtmipoeanpnnjoaaGreatDoor

/-! Contracts: what all nodes come to; the last one. -/
namespace Go.Proofs.YtmipoeanpnnjoaaGreatDoor
open Go Go.Dd Go.RowKit
set_option maxRecDepth 100000

end Go.Proofs.YtmipoeanpnnjoaaGreatDoor

/-! Plain law: what all nodes of a graph come to. -/
namespace Go.Proofs.YtmipoeanpnnjoaaGreatDoor
open Go Go.Dd Go.RowKit
set_option maxRecDepth 100000

abbrev PV:=List Int×List (BitVec 32)
def pv (t:T4):PV:=(t.s,t.l)
def tv (p:PV):T4:=⟨.slice none 0 0, .slice none 0 0,p.1,p.2⟩
def norm (t:T4):T4:=tv (pv t)
theorem act_norm (k:BitVec 8) (x:N5) (ts:List T4) (h:ts.length≤4):actE k x (ts.map norm)=actE k x ts∧actS k x (ts.map norm)=actS k x ts∧actL k x (ts.map norm)=actL k x ts:=by
 match ts,h with
 |[],_=>exact ⟨rfl,rfl,rfl⟩
 |[a],_=>exact ⟨rfl,rfl,rfl⟩
 |[a,b],_=>exact ⟨rfl,rfl,rfl⟩
 |[a,b,c],_=>exact ⟨rfl,rfl,rfl⟩
 |[a,b,c,d],_=>exact ⟨rfl,rfl,rfl⟩
 |a::b::c::d::e::l,h=>simp at h
theorem dRow_most {k:Nat} {a b c d:Int} (h:dRow k=some (a,b,c,d)):b≤4:=by
 unfold dRow at h
 split at h<;>(cases h<;>decide)
theorem doOk_len {x:N5} {ts:List T4} (h:doOk x ts=true):ts.length≤4∧ts.length=x.i.length∧fldB x.k x.s x.p=true:=by
 unfold doOk at h
 split at h
 ·rename_i a b c d hd
  have:=dRow_most hd
  simp only [Bool.and_eq_true,decide_eq_true_eq] at h
  exact ⟨by omega,h.1.1.1.1.1,h.2⟩
 ·cases h
theorem doOk_norm (x:N5) (ts:List T4):doOk x (ts.map norm)=doOk x ts:=by
 unfold doOk;rw [List.length_map]
theorem do_norm (x:N5) (ts:List T4):doE x (ts.map norm)=doE x ts∧(doE x ts=0→actS x.k x (ts.map norm)=actS x.k x ts∧actL x.k x (ts.map norm)=actL x.k x ts):=by
 unfold doE
 rw [doOk_norm]
 cases h:doOk x ts with
 |false=>exact ⟨rfl,fun h=>by cases h⟩
 |true=>
  obtain ⟨h1,h2,h3⟩:=act_norm x.k x ts (doOk_len h).1
  simp only [if_true]
  exact ⟨h1,fun _=>⟨h2,h3⟩⟩
end Go.Proofs.YtmipoeanpnnjoaaGreatDoor

/-! Contracts: what all nodes of a graph come to; the last one. -/
namespace Go.Proofs.YtmipoeanpnnjoaaGreatDoor
open Go Go.Dd Go.RowKit
set_option maxRecDepth 100000

end Go.Proofs.YtmipoeanpnnjoaaGreatDoor

/-! Plain law: what a node comes to may be, and has the shape that the graph tells. -/
namespace Go.Proofs.YtmipoeanpnnjoaaGreatDoor
open Go Go.Dd Go.RowKit
set_option maxRecDepth 100000

theorem dRow_kind:∀k:BitVec 8,(dRow k.toNat).isSome=true→(k=3#8∨k=4#8∨k=5#8∨k=6#8∨k=7#8∨k=8#8∨k=9#8∨k=10#8∨k=11#8∨k=12#8∨k=13#8):=by decide+kernel
theorem tok_rng {S:List Int} {f:Nat→BitVec 32} (h:Shapes.ok S=true):tok S ((List.range (Shapes.size S).toNat).map f)=true:=by
 unfold tok
 rw [h,Bool.true_and,List.length_map,List.length_range,decide_eq_true_iff]
 have:=Shapes.size_ok h
 have:=(Shapes.ok_iff S).1 h
 have h2:0<Shapes.size S:=of_decide_eq_true h
 omega
structure ShO (x:N5) (ts:List T4):Prop where
 toks:∀t ∈ ts,tok t.s t.l=true
 tok:tok (actS x.k x ts) (actL x.k x ts)=true
 sh:gshN x.k x.s x.n x.p (ts.map (·.s))=actS x.k x ts
theorem shO_mk {x:N5} {ts:List T4} {k:BitVec 8} (S:List Int) (L:List (BitVec 32)) (hk:x.k=k) (ht:∀t ∈ ts,Proofs.YtmipoeanpnnjoaaGreatDoor.tok t.s t.l=true) (hS:actS k x ts=S) (hL:actL k x ts=L) (hG:gshN k x.s x.n x.p (ts.map (·.s))=S) (h:Proofs.YtmipoeanpnnjoaaGreatDoor.tok S L=true):ShO x ts:=
 ⟨ht,by rw [hk,hS,hL];exact h,by rw [hk,hG,hS]⟩
theorem all1 {a:T4} (h:tok a.s a.l=true):∀t ∈ [a],tok t.s t.l=true:=fun t ht=>by rw [List.mem_singleton.1 ht];exact h
theorem all2 {a b:T4} (h:tok a.s a.l=true) (g:tok b.s b.l=true):∀t ∈ [a,b],tok t.s t.l=true:=fun t ht=>by
 rcases List.mem_cons.1 ht with rfl|ht
 ·exact h
 ·rw [List.mem_singleton.1 ht];exact g
theorem e2_0 {s t:List Int} {l m:List (BitVec 32)} (h:e2 s l t m=0):tok s l=true∧tok t m=true∧t=s:=by
 unfold e2 at h
 split at h
 ·rename_i hc
  rw [Bool.and_eq_true] at hc
  split at h
  ·exact ⟨hc.1,hc.2,by assumption⟩
  ·cases h
 ·cases h
theorem e1_0 {s:List Int} {l:List (BitVec 32)} (h:e1 s l=0):tok s l=true:=by
 unfold e1 at h
 split at h
 ·assumption
 ·cases h
theorem sh_two {x:N5} {a b:T4} (hk:x.k=3#8∨x.k=4#8) (e:e2 a.s a.l b.s b.l=0):ShO x [a,b]:=by
  obtain ⟨h1,h2,h3⟩:=e2_0 e
  rcases hk with hk|hk
  · exact shO_mk a.s (z2 (·+·) a.s a.l b.l) hk (all2 h1 h2) rfl rfl (by show (if a.s=b.s then a.s else [])=a.s;rw [h3,if_pos rfl]) (tok_rng (tok_ok h1).1)
  · exact shO_mk a.s (z2 (·*·) a.s a.l b.l) hk (all2 h1 h2) rfl rfl (by show (if a.s=b.s then a.s else [])=a.s;rw [h3,if_pos rfl]) (tok_rng (tok_ok h1).1)
theorem sh_relu {x:N5} {a:T4} (hk:x.k=5#8) (e:e1 a.s a.l=0):ShO x [a]:=
 shO_mk a.s (z1 reluB a.s a.l) hk (all1 (e1_0 e)) rfl rfl rfl (tok_rng (tok_ok (e1_0 e)).1)
theorem sh_shift {x:N5} {a:T4} (hk:x.k=6#8) (e:eSh a.s a.l x.n=0):ShO x [a]:=by
 have h:tok a.s a.l=true:=by
  unfold eSh at e
  split at e
  ·cases e
  ·exact e1_0 e
 exact shO_mk a.s (z1 (shB x.n.toNat) a.s a.l) hk (all1 h) rfl rfl rfl (tok_rng (tok_ok h).1)
theorem sh_prod {x:N5} {a b:T4} (hk:x.k=7#8) (e:prdE a b=0):ShO x [a,b]:=by
 unfold prdE at e
 split at e
 ·rename_i hc
  rw [Bool.and_eq_true] at hc
  obtain ⟨h1,h2⟩:=hc
  have ha:=(tok_ok h1).1
  have hb:=(tok_ok h2).1
  have e0:=e
  unfold pshE at e
  rw [ha,hb,Bool.and_self,if_pos rfl] at e
  split at e
  ·rename_i hl
   have d0:=ok_dims ha (i:=0) (by omega)
   have d1:=ok_dims hb (i:=1) (by omega)
   have hp:a.s.getD 0 default*b.s.getD 1 default≤4096:=by
    have:=Int.mul_le_mul d0.2 d1.2 (by omega) (by omega)
    omega
   have ok:=two_ok d0 d1 hp
   refine shO_mk [a.s.getD 0 default,b.s.getD 1 default] (prdL a b) hk (all2 h1 h2) O O (by show (if pshE a.s b.s=0 then _ else _)=_;rw [if_pos e0];rfl) ?_
   unfold tok
   rw [ok,Bool.true_and,decide_eq_true_iff,size_two ok rfl]
   show ((prdL a b).length:Int)=a.s.getD 0 default*b.s.getD 1 default
   unfold prdL
   rw [prd_length]
   rw [Int.natCast_mul,Int.toNat_of_nonneg (by omega),Int.toNat_of_nonneg (by omega)]
  ·cases e
 ·cases e
theorem sh_win {x:N5} {a b:T4} (hk:x.k=8#8) (e:wofE a b x.n x.p=0):ShO x [a,b]:=by
 unfold wofE at e
 split at e
 ·rename_i hc
  rw [Bool.and_eq_true] at hc
  have ok:Shapes.ok (wshS a.s b.s x.n x.p)=true:=by
   have e:=e
   unfold wshE at e
   split at e
   ·cases e
   ·split at e
    ·rename_i h;rw [Bool.and_eq_true] at h;exact h.2
    ·cases e
  exact shO_mk _ _ hk (all2 hc.1 hc.2) rfl rfl (by show (if wshE a.s b.s x.n x.p=0 then _ else _)=_;rw [if_pos e];rfl) (tok_rng ok)
 ·cases e
theorem sh_pool {x:N5} {a:T4} (hk:x.k=9#8) (e:wpoE a x.n=0):ShO x [a]:=by
 unfold wpoE at e
 split at e
 ·rename_i hc
  exact shO_mk _ _ hk (all1 hc) rfl rfl (by show (if poolE a.s x.n=0 then _ else _)=_;rw [if_pos e];rfl) (tok_rng (pool_ok hc e).ok)
 ·cases e
theorem sh_shape {x:N5} {a:T4} (hk:x.k=10#8) (e:mvE a x.s=0):ShO x [a]:=by
 unfold mvE at e
 split at e
 ·rename_i hc
  rw [Bool.and_eq_true] at hc
  split at e
  ·rename_i hs
   have hl:=(tok_ok hc.1).2
   have h0:0<Shapes.size a.s:=of_decide_eq_true (tok_ok hc.1).1
   exact shO_mk x.s a.l hk (all1 hc.1) rfl rfl (by show (if Shapes.size a.s=Shapes.size x.s then _ else _)=_;rw [if_pos (by omega)]) (by unfold tok;rw [hc.2,Bool.true_and,decide_eq_true_iff];exact hs.symm)
  ·cases e
 ·cases e
theorem sh_turn {x:N5} {a:T4} (hk:x.k=11#8) (e:tnE a x.s=0):ShO x [a]:=by
 unfold tnE at e
 split at e
 ·rename_i hc
  simp only [Bool.and_eq_true,decide_eq_true_eq] at hc
  exact shO_mk _ _ hk (all1 hc.1.1) rfl rfl (by show trnG a.s x.s=_;unfold trnG;rw [if_pos hc.1.2.symm];rfl) (tok_rng (turn_ok (tok_ok hc.1.1).1 hc.2 hc.1.2))
 ·cases e
theorem sh_sum {x:N5} {a:T4} (hk:x.k=13#8) (e:suE a x.n=0):ShO x [a]:=by
 unfold suE at e
 split at e
 ·rename_i hc
  simp only [Bool.and_eq_true,decide_eq_true_eq] at hc
  obtain ⟨⟨h1,h2⟩,h3⟩:=hc
  have hn:x.n.toNat<a.s.length:=by omega
  refine shO_mk (without a.s x.n.toNat) (suL a.s a.l x.n.toNat) hk (all1 h1) O O ?_ (tok_rng (without_ok (tok_ok h1).1 hn))
  show woG a.s x.n=without a.s x.n.toNat
  unfold woG without
  rw [if_neg (by omega)]
  split
  ·rfl
  ·rw [List.eraseIdx_eq_take_drop_succ]
 ·cases e
theorem alk_at {a b:List Int} {k:Nat} (h:alk a b k=true):a.length=b.length∧∀m,m≠k→a.getD m default=b.getD m default:=by
 simp only [alk,Bool.and_eq_true,decide_eq_true_eq] at h
 obtain ⟨⟨h1,h2⟩,h3⟩:=h
 refine ⟨h1,fun m hm=> ?_⟩
 rw [List.getD_eq_getElem?_getD,List.getD_eq_getElem?_getD]
 by_cases e:m<k
 ·have:=congrArg (fun l:List Int=>l[m]?) h2
  simp only [List.getElem?_take,e,if_true] at this
  rw [this]
 ·have:=congrArg (fun l:List Int=>l[m - (k+1)]?) h3
  simp only [List.getElem?_drop,show k+1+(m - (k+1))=m by omega] at this
  rw [this]
theorem jnR_alk {k:Nat} {s0:List Int} (hk:k<s0.length):∀(ts:List T4) (c:Int),(∀t ∈ ts,alk t.s s0 k=true)→jnR k (s0.set k c) (ts.map (·.s))=some (s0.set k (c+jsum k ts))
 |[],c,_=>by simp [jnR,jsum]
 |t::ts,c,h=>by
  obtain ⟨h1,h2⟩:=alk_at (h t (by simp))
  have e1:jn1 k (s0.set k c) t.s=some (s0.set k (c+t.s.getD k default)):=by
   have hc:t.s.length=(s0.set k c).length∧k<(s0.set k c).length∧∀m,m<(s0.set k c).length→m≠k→(s0.set k c).getD m default=t.s.getD m default:=
    ⟨by rw [List.length_set];exact h1,by rw [List.length_set];exact hk,fun m hm hne=>by rw [h2 m hne,List.getD_eq_getElem?_getD,List.getElem?_set_ne (by omega),← List.getD_eq_getElem?_getD]⟩
   have e2:(s0.set k c).getD k default=c:=by simp [hk]
   unfold jn1
   rw [if_pos hc,e2,List.set_set]
  rw [List.map_cons]
  unfold jnR
  rw [e1]
  show jnR k _ _=_
  rw [jnR_alk hk ts _ fun t ht=>h t (List.mem_cons_of_mem _ ht)]
  simp only [jsum]
  rw [Int.add_assoc]
theorem sh_join {x:N5} {ts:List T4} (hk:x.k=12#8) (e:jnE ts x.n=0):ShO x ts:=by
 unfold jnE at e
 split at e
 ·cases e
 ·rename_i hA
  split at e
  ·rename_i hc
   rw [Bool.and_eq_true,List.all_eq_true] at hc
   obtain ⟨hal,hok⟩:=hc
   have hA:jnA ts x.n=false:=by simpa using hA
   unfold jnA at hA
   simp only [Bool.or_eq_false_iff,decide_eq_false_iff_not] at hA
   obtain ⟨⟨⟨⟨a1,a2⟩,a3⟩,a4⟩,a5⟩:=hA
   refine shO_mk (jnS ts x.n.toNat) (jnL ts x.n.toNat) hk (fun t ht=>badT_at a3 ht) O O ?_ (tok_rng hok)
   show jnG (ts.map (·.s)) x.n.toNat=jnS ts x.n.toNat
   match ts,a1 with
   |t::us,_=>
    have hk:x.n.toNat<t.s.length:=by have:¬((t.s.length:Int)≤x.n):=a5;omega
    have key:=jnR_alk hk us (t.s.getD x.n.toNat default) fun u hu=>hal u (List.mem_cons_of_mem _ hu)
    have e0:t.s.set x.n.toNat (t.s.getD x.n.toNat default)=t.s:=by
     rw [List.getD_eq_getElem?_getD,List.getElem?_eq_getElem hk]
     exact List.set_getElem_self hk
    rw [e0] at key
    unfold jnG
    show (match jnR x.n.toNat t.s (us.map (·.s)) with|some s=>if x.n.toNat<s.length then s else []|none=>[])=_
    rw [key]
    show (if x.n.toNat<(t.s.set x.n.toNat _).length then _ else _)=_
    rw [List.length_set,if_pos hk]
    rfl
  ·cases e
theorem doE_0 {x:N5} {ts:List T4} (h:doE x ts=0):doOk x ts=true∧actE x.k x ts=0:=by
 unfold doE at h
 split at h
 ·exact ⟨by assumption,h⟩
 ·cases h
theorem doOk_row {x:N5} {ts:List T4} (h:doOk x ts=true):∃a b c d,dRow x.k.toNat=some (a,b,c,d)∧ts.length=x.i.length∧a≤(ts.length:Int)∧(ts.length:Int)≤b∧c≤x.n∧x.n≤d∧fldB x.k x.s x.p=true:=by
 unfold doOk at h
 split at h
 ·rename_i a b c d hd
  simp only [Bool.and_eq_true,decide_eq_true_eq] at h
  exact ⟨a,b,c,d,hd,by omega,by omega,by omega,by omega,by omega,h.2⟩
 ·cases h
theorem t1_of {ts:List T4} (h:ts.length=1):∃a,ts=[a]:=by
 match ts,h with
 |[a],_=>exact ⟨a,rfl⟩
theorem t2_of {ts:List T4} (h:ts.length=2):∃a b,ts=[a,b]:=by
 match ts,h with
 |[a,b],_=>exact ⟨a,b,rfl⟩
/-- What a node comes to may be, so may those that it takes in, and its shape is the one that the graph tells. -/
theorem do_shape {x:N5} {ts:List T4} (h:doE x ts=0):ShO x ts:=by
 obtain ⟨h1,h2⟩:=doE_0 h
 obtain ⟨a,b,c,d,hr,hl,ha,hb, -, -, -⟩:=doOk_row h1
 have hk:=dRow_kind x.k (by rw [hr];rfl)
 rcases hk with hk|hk|hk|hk|hk|hk|hk|hk|hk|hk|hk<;>(rw [hk] at hr h2;have hr2:=Option.some.inj hr;simp only [Prod.mk.injEq] at hr2;obtain ⟨r1,r2, -, -⟩:=hr2)
 ·obtain ⟨p,q,rfl⟩:=t2_of (ts:=ts) (by omega)
  exact sh_two (.inl hk) h2
 ·obtain ⟨p,q,rfl⟩:=t2_of (ts:=ts) (by omega)
  exact sh_two (.inr hk) h2
 ·obtain ⟨p,rfl⟩:=t1_of (ts:=ts) (by omega)
  exact sh_relu hk h2
 ·obtain ⟨p,rfl⟩:=t1_of (ts:=ts) (by omega)
  exact sh_shift hk h2
 ·obtain ⟨p,q,rfl⟩:=t2_of (ts:=ts) (by omega)
  exact sh_prod hk h2
 ·obtain ⟨p,q,rfl⟩:=t2_of (ts:=ts) (by omega)
  exact sh_win hk h2
 ·obtain ⟨p,rfl⟩:=t1_of (ts:=ts) (by omega)
  exact sh_pool hk h2
 ·obtain ⟨p,rfl⟩:=t1_of (ts:=ts) (by omega)
  exact sh_shape hk h2
 ·obtain ⟨p,rfl⟩:=t1_of (ts:=ts) (by omega)
  exact sh_turn hk h2
 ·exact sh_join hk h2
 ·obtain ⟨p,rfl⟩:=t1_of (ts:=ts) (by omega)
  exact sh_sum hk h2
end Go.Proofs.YtmipoeanpnnjoaaGreatDoor

/-! Contract: what a node comes to, as the document has it. -/
namespace Go.Proofs.YtmipoeanpnnjoaaGreatDoor
open Go Go.Dd Go.RowKit
set_option maxRecDepth 100000

theorem dRow_no:∀k:BitVec 8,(kdOf k).isSome=false→dRow k.toNat=none:=by decide+kernel
theorem fld_eq {k:BitVec 8} {s:List Int} {p e f:Int} (h:(f=0∧e=0∧k≠10#8∧k≠11#8∧k≠8#8)∨(f=0∧e=8∧k=8#8)∨(f=1∧e=0∧k=10#8)∨(f=2∧e=0∧k=11#8)):
  fldB k s p=true↔(0≤p∧p≤e)∧(if f=0 then decide (s.length=0) else if f=1 then Shapes.ok s else gord s)=true:=by
 unfold fldB
 rcases h with ⟨rfl,rfl,h1,h2,h3⟩|⟨rfl,rfl,rfl⟩|⟨rfl,rfl,rfl⟩|⟨rfl,rfl,rfl⟩
 ·rw [if_neg h1,if_neg h2,if_neg h3,if_pos rfl]
  simp only [Bool.and_eq_true,decide_eq_true_eq]
  constructor
  ·rintro ⟨a,b⟩;exact ⟨by omega,a⟩
  ·rintro ⟨a,b⟩;exact ⟨b,by omega⟩
 ·rw [if_neg (by decide),if_neg (by decide),if_pos rfl,if_pos rfl]
  simp only [Bool.and_eq_true,decide_eq_true_eq]
  constructor
  ·rintro ⟨⟨a,b⟩,c⟩;exact ⟨⟨b,c⟩,a⟩
  ·rintro ⟨⟨a,b⟩,c⟩;exact ⟨⟨c,a⟩,b⟩
 ·rw [if_pos rfl,if_neg (by decide),if_pos rfl]
  simp only [Bool.and_eq_true,decide_eq_true_eq]
  constructor
  ·rintro ⟨a,b⟩;exact ⟨by omega,a⟩
  ·rintro ⟨a,b⟩;exact ⟨b,by omega⟩
 ·rw [if_neg (by decide),if_pos rfl,if_neg (by decide),if_neg (by decide)]
  simp only [Bool.and_eq_true,decide_eq_true_eq]
  constructor
  ·rintro ⟨a,b⟩;exact ⟨by omega,a⟩
  ·rintro ⟨a,b⟩;exact ⟨b,by omega⟩
theorem dk_row {x:N5} {ts:List T4} {a b c d e f:Int} (hd:dRow x.k.toNat=some (a,b,c,d)) (hk:kdOf x.k=some [a,b,c,d,e,f]) (hf:fldB x.k x.s x.p=true↔(0≤x.p∧x.p≤e)∧(if f=0 then decide (x.s.length=0) else if f=1 then Shapes.ok x.s else gord x.s)=true):
  doOk x ts=true↔kindF x.k x.i x.s x.n x.p=true∧ts.length=x.i.length:=by
 have e1:doOk x ts=(decide (ts.length=x.i.length) && decide (a≤(ts.length:Int)) && decide ((ts.length:Int)≤b) && decide (c≤x.n) && decide (x.n≤d) && fldB x.k x.s x.p):=by unfold doOk;rw [hd]
 have e2:kindF x.k x.i x.s x.n x.p=kindB a b c d e f x.i x.s x.n x.p:=by unfold kindF;rw [hk]
 rw [e1,e2,kindB_iff]
 simp only [Bool.and_eq_true,decide_eq_true_eq]
 rw [hf]
 constructor
 ·rintro ⟨⟨⟨⟨⟨h1,h2⟩,h3⟩,h4⟩,h5⟩,h6,h7⟩
  exact ⟨⟨⟨by omega,by omega,h4,h5,h6⟩,h7⟩,h1⟩
 ·rintro ⟨⟨⟨h1,h2,h3,h4,h5⟩,h6⟩,h7⟩
  exact ⟨⟨⟨⟨⟨h7,by omega⟩,by omega⟩,h3⟩,h4⟩,h5,h6⟩
/-- A node is done just if it may be, takes in as many as there are, and is neither the input nor a weight. -/
theorem doOk_kind (x:N5) (ts:List T4):doOk x ts=true↔(kindF x.k x.i x.s x.n x.p=true∧ts.length=x.i.length)∧x.k≠1#8∧x.k≠2#8:=by
 cases hs:(kdOf x.k).isSome with
 |false=>
  have h1:=dRow_no x.k hs
  have h2:kdOf x.k=none:=by simpa using hs
  have h3:doOk x ts=false:=by unfold doOk;rw [h1]
  rw [h3,kdOf_none h2]
  simp
 |true=>
  have hg:∀{a b c d e f:Int},dRow x.k.toNat=some (a,b,c,d)→kdOf x.k=some [a,b,c,d,e,f]→((f=0∧e=0∧x.k≠10#8∧x.k≠11#8∧x.k≠8#8)∨(f=0∧e=8∧x.k=8#8)∨(f=1∧e=0∧x.k=10#8)∨(f=2∧e=0∧x.k=11#8))→x.k≠1#8→x.k≠2#8→(doOk x ts=true↔(kindF x.k x.i x.s x.n x.p=true∧ts.length=x.i.length)∧x.k≠1#8∧x.k≠2#8):=fun hd hk hf h1 h2=>
   (dk_row hd hk (fld_eq hf)).trans ⟨fun h=>⟨h,h1,h2⟩,fun h=>h.1⟩
  have no:dRow x.k.toNat=none→(x.k=1#8∨x.k=2#8)→(doOk x ts=true↔(kindF x.k x.i x.s x.n x.p=true∧ts.length=x.i.length)∧x.k≠1#8∧x.k≠2#8):=fun h1 h2=>by
   have h3:doOk x ts=false:=by unfold doOk;rw [h1]
   rw [h3]
   exact ⟨fun h=>(by cases h),fun h=>h2.elim (fun e=>absurd e h.2.1) (fun e=>absurd e h.2.2)⟩
  rcases kd_some x.k hs with h|h|h|h|h|h|h|h|h|h|h|h|h
  ·exact no (by rw [h];rfl) (.inl h)
  ·exact no (by rw [h];rfl) (.inr h)
  ·exact hg (by rw [h];rfl) (by rw [h];exact kd_3) (.inl ⟨rfl,rfl,by rw [h];decide,by rw [h];decide,by rw [h];decide⟩) (by rw [h];decide) (by rw [h];decide)
  ·exact hg (by rw [h];rfl) (by rw [h];exact kd_4) (.inl ⟨rfl,rfl,by rw [h];decide,by rw [h];decide,by rw [h];decide⟩) (by rw [h];decide) (by rw [h];decide)
  ·exact hg (by rw [h];rfl) (by rw [h];exact kd_5) (.inl ⟨rfl,rfl,by rw [h];decide,by rw [h];decide,by rw [h];decide⟩) (by rw [h];decide) (by rw [h];decide)
  ·exact hg (by rw [h];rfl) (by rw [h];exact kd_6) (.inl ⟨rfl,rfl,by rw [h];decide,by rw [h];decide,by rw [h];decide⟩) (by rw [h];decide) (by rw [h];decide)
  ·exact hg (by rw [h];rfl) (by rw [h];exact kd_7) (.inl ⟨rfl,rfl,by rw [h];decide,by rw [h];decide,by rw [h];decide⟩) (by rw [h];decide) (by rw [h];decide)
  ·exact hg (by rw [h];rfl) (by rw [h];exact kd_8) (.inr (.inl ⟨rfl,rfl,h⟩)) (by rw [h];decide) (by rw [h];decide)
  ·exact hg (by rw [h];rfl) (by rw [h];exact kd_9) (.inl ⟨rfl,rfl,by rw [h];decide,by rw [h];decide,by rw [h];decide⟩) (by rw [h];decide) (by rw [h];decide)
  ·exact hg (by rw [h];rfl) (by rw [h];exact kd_10) (.inr (.inr (.inl ⟨rfl,rfl,h⟩))) (by rw [h];decide) (by rw [h];decide)
  ·exact hg (by rw [h];rfl) (by rw [h];exact kd_11) (.inr (.inr (.inr ⟨rfl,rfl,h⟩))) (by rw [h];decide) (by rw [h];decide)
  ·exact hg (by rw [h];rfl) (by rw [h];exact kd_12) (.inl ⟨rfl,rfl,by rw [h];decide,by rw [h];decide,by rw [h];decide⟩) (by rw [h];decide) (by rw [h];decide)
  ·exact hg (by rw [h];rfl) (by rw [h];exact kd_13) (.inl ⟨rfl,rfl,by rw [h];decide,by rw [h];decide,by rw [h];decide⟩) (by rw [h];decide) (by rw [h];decide)
theorem Ans.d {W w:World} {r:Value} {e:Int} {s:List Int} {l:List (BitVec 32)} (h:Ans W w r e s l):AnsD W w r e s l:=h.gets.d
theorem dRow_len {x:N5} {ts:List T4} {a b c d:Int} (h:doOk x ts=true) (hd:dRow x.k.toNat=some (a,b,c,d)):a≤(ts.length:Int)∧(ts.length:Int)≤b:=by
 obtain ⟨a',b',c',d',h1,h2,h3,h4, -⟩:=doOk_row h
 rw [hd] at h1
 cases h1
 exact ⟨h3,h4⟩
theorem do_one {x:N5} {ts:List T4} {c d:Int} (h:doOk x ts=true) (hd:dRow x.k.toNat=some (1,1,c,d)):∃p,ts=[p]:=t1_of (by have:=dRow_len h hd;omega)
theorem do_two {x:N5} {ts:List T4} {c d:Int} (h:doOk x ts=true) (hd:dRow x.k.toNat=some (2,2,c,d)):∃p q,ts=[p,q]:=t2_of (by have:=dRow_len h hd;omega)
set_option maxHeartbeats 2000000 in
theorem rdo_c (x:N5) (v:Value) (ts:List T4) (w:World) (hx:N5.at w x) (h:Tens w v ts):
  Fnc Tryz.prog 10 [x.v,v] w (fun r w' =>Below w.heap.size w w' ∧AnsD w w' r (doE x ts) (actS x.k x ts) (actL x.k x ts)):=by
 obtain ⟨W,hW⟩:∃W,W=w:=⟨_,rfl⟩
 rw [← hW] at hx h
 rw [← hW]
 have hB:=Below.refl W.heap.size W
 have h_i:=hx.i
 have h_v:=h.1
 refine Ap (n:=142) Tryz.func10 (by kernel_rfl) O O O<|Ae<|Ab<|Bv (cs:=x.cells) O O O ?_
 rintro A_x w eA_x b_x hn -
 replace hB:=hB.bs hn
 replace h_i:=h_i.bs hn
 replace h_v:=h_v.bs hn
 clear hn
 have yx:=blk_lt b_x
 refine B8 it_33 O ?_
 rintro A_r w eA_r b_r hn -
 replace hB:=hB.bs hn
 replace h_i:=h_i.bs hn
 replace h_v:=h_v.bs hn
 replace b_x:=b_x.bs hn
 clear hn
 refine Lw.val (Ac O) O<|Af<|Aa<|Cw.out<|Ae<|Ae<|Ab<|Lw.val (Bw (ag_25 _) (sz_25 _) O O (by assumption)) O ?_
 have z0:=below_size hB
 have yr:=blk_lt b_r
 refine Al O O (rnode_c x w (hx.bs hB)) ?_
 rintro _ w ⟨rfl,hn⟩
 have z1:=hn.size
 replace hB:=hB.bs hn
 replace h_i:=h_i.bs hn
 replace h_v:=h_v.bs hn
 replace b_x:=b_x.bs hn
 replace b_r:=b_r.bs hn
 clear hn
 refine Lw.val (Bx O) O<|Lw.val (Ad O) O ?_
 refine Bt 9 O ?_ ?_
 ·intro g
  have hF:doOk x ts=false:=by
   cases hc:doOk x ts with
   |false=>rfl
   |true=>exact absurd ((doOk_kind x ts).1 hc) (by (rintro ⟨⟨h1, -⟩, -⟩;rw [h1] at g;cases g))
  have e1:doE x ts=1:=by unfold doE;rw [hF];rfl
  refine Ai (dj:=9) O O O O<|Ai (dj:=9) O O O O<|Ai (dj:=9) O O O O<|Ai (dj:=9) O O O O<|Ai (dj:=9) O O O O<|Ai (dj:=9) O O O O<|Lw.val (As O O) O<|Lw.val (Ad O) O<|Ai (dj:=17) O O O O<|Ai (dj:=17) O O O O<|Ai (dj:=17) O O O O<|Lw.val (As O O) O<|Lw.val (Ad O) O<|Ai (dj:=22) O O O O<|Ai (dj:=22) O O O O<|Ai (dj:=22) O O O O<|Lw.val (As O O) O<|Af<|Aa<|Cw.out<|Br O<|Ae<|Ab<|Lw.val (Bn (vs:=[]) (cs:=[.slice none 0 0, .slice none 0 0]) O (by kernel_rfl)) O<|Ay (Bp (cs:=[.slice none 0 0, .slice none 0 0]) (k:=2) (by kernel_rfl) O O O O b_r O) ?_
  rintro w9 ⟨b_r9,hg9, -⟩
  have hB9:=Below.grown hB hg9 (below_size hB) (by rintro _ ⟨⟩;omega)
  refine Lw.val (Ac O) O<|Af<|Aa<|Cw.out<|An<|Ak<|Bf O O O (by assumption) (Tryz.underlying33) O O O ?_
  rw [e1]
  exact ⟨hB9,ansD_no (by decide)⟩
 intro g1
 have g1:kindF x.k x.i x.s x.n x.p=true:=by simpa using g1
 refine Lw.take (dj:=9) O O<|Lw.val (Ad O) O<|Lw.take (dj:=9) O O<|Lw.val (Av st_26 O (by assumption)) O ?_
 refine Lw.take (dj:=9) O O<|Lw.val (Ag (q:=0) Tryz.underlying25 O (sz_23 _) O) O<|Lw.take (dj:=9) O O<|Lw.val (Aj (ag_23 _) O (by assumption) O) O ?_
 refine Lw.take (dj:=9) O O<|Lw.val (Av st_23 O (by assumption)) O ?_
 refine Lw.take (dj:=9) O O<|Lw.val (B7 O O) O<|Lw.val (Bd O O) O<|Lw.val (Ad O) O ?_
 refine Bt 17 O ?_ ?_
 ·intro g
  have hF:doOk x ts=false:=by
   cases hc:doOk x ts with
   |false=>rfl
   |true=>exact absurd ((doOk_kind x ts).1 hc) (by (rintro ⟨⟨-,h1⟩, -⟩;rw [h1] at g;simp at g))
  have e1:doE x ts=1:=by unfold doE;rw [hF];rfl
  refine Ai (dj:=17) O O O O<|Ai (dj:=17) O O O O<|Ai (dj:=17) O O O O<|Lw.val (As O O) O<|Lw.val (Ad O) O<|Ai (dj:=22) O O O O<|Ai (dj:=22) O O O O<|Ai (dj:=22) O O O O<|Lw.val (As O O) O<|Af<|Aa<|Cw.out<|Br O<|Ae<|Ab<|Lw.val (Bn (vs:=[]) (cs:=[.slice none 0 0, .slice none 0 0]) O (by kernel_rfl)) O<|Ay (Bp (cs:=[.slice none 0 0, .slice none 0 0]) (k:=2) (by kernel_rfl) O O O O b_r O) ?_
  rintro w9 ⟨b_r9,hg9, -⟩
  have hB9:=Below.grown hB hg9 (below_size hB) (by rintro _ ⟨⟩;omega)
  refine Lw.val (Ac O) O<|Af<|Aa<|Cw.out<|An<|Ak<|Bf O O O (by assumption) (Tryz.underlying33) O O O ?_
  rw [e1]
  exact ⟨hB9,ansD_no (by decide)⟩
 intro g2
 have g2:ts.length=x.i.length:=by simp at g2;omega
 refine Lw.take (dj:=17) O O<|Lw.val (Ag (q:=0) Tryz.underlying25 O (sz_22 _) O) O<|Lw.take (dj:=17) O O<|Lw.val (Aj (ag_22 _) O (by assumption) O) O ?_
 refine Lw.take (dj:=17) O O<|Lw.val (Ce O (show _=some (b8 (1#8)) from rfl)) O<|Lw.val (Bd O O) O<|Lw.val (Ad O) O ?_
 refine Bt 22 O ?_ ?_
 ·intro g
  have hF:doOk x ts=false:=by
   cases hc:doOk x ts with
   |false=>rfl
   |true=>exact absurd ((doOk_kind x ts).1 hc) (by (rintro ⟨-,h1, -⟩;exact h1 (of_decide_eq_true g)))
  have e1:doE x ts=1:=by unfold doE;rw [hF];rfl
  refine Ai (dj:=22) O O O O<|Ai (dj:=22) O O O O<|Ai (dj:=22) O O O O<|Lw.val (As O O) O<|Af<|Aa<|Cw.out<|Br O<|Ae<|Ab<|Lw.val (Bn (vs:=[]) (cs:=[.slice none 0 0, .slice none 0 0]) O (by kernel_rfl)) O<|Ay (Bp (cs:=[.slice none 0 0, .slice none 0 0]) (k:=2) (by kernel_rfl) O O O O b_r O) ?_
  rintro w9 ⟨b_r9,hg9, -⟩
  have hB9:=Below.grown hB hg9 (below_size hB) (by rintro _ ⟨⟩;omega)
  refine Lw.val (Ac O) O<|Af<|Aa<|Cw.out<|An<|Ak<|Bf O O O (by assumption) (Tryz.underlying33) O O O ?_
  rw [e1]
  exact ⟨hB9,ansD_no (by decide)⟩
 intro g3
 have g3:x.k≠1#8:=of_decide_eq_false g3
 refine Lw.take (dj:=22) O O<|Lw.val (Ag (q:=0) Tryz.underlying25 O (sz_22 _) O) O<|Lw.take (dj:=22) O O<|Lw.val (Aj (ag_22 _) O (by assumption) O) O ?_
 refine Lw.take (dj:=22) O O<|Lw.val (Ce O (show _=some (b8 (2#8)) from rfl)) O<|Lw.val (Bd O O) O<|Af<|Aa<|Cw.out<|Au O ?_ ?_
 ·intro g
  have hF:doOk x ts=false:=by
   cases hc:doOk x ts with
   |false=>rfl
   |true=>exact absurd ((doOk_kind x ts).1 hc) (by (rintro ⟨-, -,h1⟩;exact h1 (of_decide_eq_true g)))
  have e1:doE x ts=1:=by unfold doE;rw [hF];rfl
  refine Ae<|Ab<|Lw.val (Bn (vs:=[]) (cs:=[.slice none 0 0, .slice none 0 0]) O (by kernel_rfl)) O<|Ay (Bp (cs:=[.slice none 0 0, .slice none 0 0]) (k:=2) (by kernel_rfl) O O O O b_r O) ?_
  rintro w9 ⟨b_r9,hg9, -⟩
  have hB9:=Below.grown hB hg9 (below_size hB) (by rintro _ ⟨⟩;omega)
  refine Lw.val (Ac O) O<|Af<|Aa<|Cw.out<|An<|Ak<|Bf O O O (by assumption) (Tryz.underlying33) O O O ?_
  rw [e1]
  exact ⟨hB9,ansD_no (by decide)⟩
 intro g4
 have g4:x.k≠2#8:=of_decide_eq_false g4
 have hok:=(doOk_kind x ts).2 ⟨⟨g1,g2⟩,g3,g4⟩
 have hE:doE x ts=actE x.k x ts:=by unfold doE;rw [hok];rfl
 have hrow:=doOk_row hok
 rw [hE]
 have zz:=below_size hB
 clear g1 g2 g3 g4
 refine Aq<|Aa<|Cw.out<|Ae<|Ae<|Ab<|Lw.val (Ag (q:=0) Tryz.underlying25 O (sz_22 _) O) O<|Lw.val (Aj (ag_22 _) O (by assumption) O) O ?_
 refine Af<|Aa<|Cw.out<|Cw.block<|Ae<|Ab<|Lw.val (Ce O (show _=some (b8 (3#8)) from rfl)) O<|Lw.val (Ac O) O<|Af<|Aa<|Cw.out<|Au O ?_ ?_
 ·intro g
  have hk:x.k=3#8:=of_decide_eq_true g
  obtain ⟨p,q,rfl⟩:=do_two hok (by rw [hk];rfl)
  refine Ae ?_
  refine Cw.any mixed (fun w2 hd _=> ?_)
  have hB2:=hB.trans (hd.mono zz)
  have b_x2:=b_x.bs hd
  refine Cs (fun w' =>Below W.heap.size W w' ∧Blk w' A_x 25 x.cells) (fun hC=> ?_) (⟨hB2,b_x2⟩)
  refine AwC.take (i:=0) (Ah (NoP.blk (Ah Ar))) O (by kernel_rfl) (by kernel_rfl) (by kernel_rfl) (fun w1 hc=>Ad O) O<|AwC.take (i:=1) (Ah (NoP.blk (Ah Ar))) O (by kernel_rfl) (by kernel_rfl) (by kernel_rfl) (fun w1 hc=>Bz st_26 O O (h.1.bs hc.1) 0 O (by simp)) O<|AwC.take (i:=2) (Ah (NoP.blk (Ah Ar))) O (by kernel_rfl) (by kernel_rfl) (by kernel_rfl) (fun w1 hc=>Cc (cs:=[p.x,p.y]) (ag_33 _) (sz_33 _) O (h.1.bs hc.1) O (by decide) (ten_cells (ts:=[p,q]) (j:=0) (by simp))) O<|AwC.take (i:=3) (Ah (NoP.blk (Ah Ar))) O (by kernel_rfl) (by kernel_rfl) (by kernel_rfl) (fun w1 hc=>Ad O) O<|AwC.take (i:=4) (Ah (NoP.blk (Ah Ar))) O (by kernel_rfl) (by kernel_rfl) (by kernel_rfl) (fun w1 hc=>Bz st_26 O O (h.1.bs hc.1) 1 O (by simp)) O<|AwC.take (i:=5) (Ah (NoP.blk (Ah Ar))) O (by kernel_rfl) (by kernel_rfl) (by kernel_rfl) (fun w1 hc=>Cc (cs:=[q.x,q.y]) (ag_33 _) (sz_33 _) O (h.1.bs hc.1) O (by decide) (ten_cells (ts:=[p,q]) (j:=1) (by simp))) O<|AwC.only (by assumption) (i:=6) (by kernel_rfl) O ?_
  refine Al O O (radd_c p q w2 ((h.2 p (by simp)).bs hB2) ((h.2 q (by simp)).bs hB2)) ?_
  rintro r w3 ⟨hn3,hA⟩
  have hA:AnsD w2 w3 r (actE x.k x [p,q]) (actS x.k x [p,q]) (actL x.k x [p,q]):=by rw [hk];exact hA.d
  obtain ⟨rx,ry,rfl,r1⟩:=hA.ones
  have z2:=hd.size
  have z3:=hn3.size
  have hB3:=hB2.trans (hn3.mono (by omega))
  have b_r3:=(b_r.bs hd).bs hn3
  have b_x3:=b_x2.bs hn3
  have hC3:Below W.heap.size W w3∧Blk w3 A_x 25 x.cells:=⟨hB3,b_x3⟩
  refine AwC.back<|AwC.take (i:=7) (Ah (NoP.blk (Ah Ar))) O (by kernel_rfl) (by kernel_rfl) (by kernel_rfl) (fun w1 hc=>Ax (i:=0) O O) O<|AwC.take (i:=8) (Ah (NoP.blk (Ah Ar))) O (by kernel_rfl) (by kernel_rfl) (by kernel_rfl) (fun w1 hc=>Ax (i:=1) O O) O<|AwC.only (by assumption) (i:=9) (by kernel_rfl) O ?_
  refine Ay (Bp (cs:=[rx,ry]) (k:=2) (by kernel_rfl) O O O r1 b_r3 O) ?_
  rintro w4 ⟨b_r4,hg4,hz4⟩
  have hA4:=hA.by hg4 (by omega)
  have hB4:=hB3.grown hg4 (by omega) (by rintro _ ⟨⟩;omega)
  have hC4:Below W.heap.size W w4∧Blk w4 A_x 25 x.cells:=⟨hB4,b_x3.by hg4 (fun e=>by have:=Option.some.inj e;omega)⟩
  refine AwC.back<|AwC.take (i:=10) (Ah (NoP.blk (Ah Ar))) O (by kernel_rfl) (by kernel_rfl) (by kernel_rfl) (fun w1 hc=>Ac O) O<|Ck (by assumption) (by kernel_rfl) ?_
  refine Aa<|Cw.out<|An<|Bk<|Ak<|Bf O O O (by assumption) (Tryz.underlying33) O O O ?_
  exact ⟨hB4,hA4.low (by omega)⟩
 intro n3
 have n3:=of_decide_eq_false n3
 refine Ae<|Ab<|Lw.val (Ce O (show _=some (b8 (4#8)) from rfl)) O<|Lw.val (Ac O) O<|Af<|Aa<|Cw.out<|Au O ?_ ?_
 ·intro g
  have hk:x.k=4#8:=of_decide_eq_true g
  obtain ⟨p,q,rfl⟩:=do_two hok (by rw [hk];rfl)
  refine Ae ?_
  refine Cw.any mixed (fun w2 hd _=> ?_)
  have hB2:=hB.trans (hd.mono zz)
  have b_x2:=b_x.bs hd
  refine Cs (fun w' =>Below W.heap.size W w' ∧Blk w' A_x 25 x.cells) (fun hC=> ?_) (⟨hB2,b_x2⟩)
  refine AwC.take (i:=0) (Ah (NoP.blk (Ah Ar))) O (by kernel_rfl) (by kernel_rfl) (by kernel_rfl) (fun w1 hc=>Ad O) O<|AwC.take (i:=1) (Ah (NoP.blk (Ah Ar))) O (by kernel_rfl) (by kernel_rfl) (by kernel_rfl) (fun w1 hc=>Bz st_26 O O (h.1.bs hc.1) 0 O (by simp)) O<|AwC.take (i:=2) (Ah (NoP.blk (Ah Ar))) O (by kernel_rfl) (by kernel_rfl) (by kernel_rfl) (fun w1 hc=>Cc (cs:=[p.x,p.y]) (ag_33 _) (sz_33 _) O (h.1.bs hc.1) O (by decide) (ten_cells (ts:=[p,q]) (j:=0) (by simp))) O<|AwC.take (i:=3) (Ah (NoP.blk (Ah Ar))) O (by kernel_rfl) (by kernel_rfl) (by kernel_rfl) (fun w1 hc=>Ad O) O<|AwC.take (i:=4) (Ah (NoP.blk (Ah Ar))) O (by kernel_rfl) (by kernel_rfl) (by kernel_rfl) (fun w1 hc=>Bz st_26 O O (h.1.bs hc.1) 1 O (by simp)) O<|AwC.take (i:=5) (Ah (NoP.blk (Ah Ar))) O (by kernel_rfl) (by kernel_rfl) (by kernel_rfl) (fun w1 hc=>Cc (cs:=[q.x,q.y]) (ag_33 _) (sz_33 _) O (h.1.bs hc.1) O (by decide) (ten_cells (ts:=[p,q]) (j:=1) (by simp))) O<|AwC.only (by assumption) (i:=6) (by kernel_rfl) O ?_
  refine Al O O (rmul_c p q w2 ((h.2 p (by simp)).bs hB2) ((h.2 q (by simp)).bs hB2)) ?_
  rintro r w3 ⟨hn3,hA⟩
  have hA:AnsD w2 w3 r (actE x.k x [p,q]) (actS x.k x [p,q]) (actL x.k x [p,q]):=by rw [hk];exact hA.d
  obtain ⟨rx,ry,rfl,r1⟩:=hA.ones
  have z2:=hd.size
  have z3:=hn3.size
  have hB3:=hB2.trans (hn3.mono (by omega))
  have b_r3:=(b_r.bs hd).bs hn3
  have b_x3:=b_x2.bs hn3
  have hC3:Below W.heap.size W w3∧Blk w3 A_x 25 x.cells:=⟨hB3,b_x3⟩
  refine AwC.back<|AwC.take (i:=7) (Ah (NoP.blk (Ah Ar))) O (by kernel_rfl) (by kernel_rfl) (by kernel_rfl) (fun w1 hc=>Ax (i:=0) O O) O<|AwC.take (i:=8) (Ah (NoP.blk (Ah Ar))) O (by kernel_rfl) (by kernel_rfl) (by kernel_rfl) (fun w1 hc=>Ax (i:=1) O O) O<|AwC.only (by assumption) (i:=9) (by kernel_rfl) O ?_
  refine Ay (Bp (cs:=[rx,ry]) (k:=2) (by kernel_rfl) O O O r1 b_r3 O) ?_
  rintro w4 ⟨b_r4,hg4,hz4⟩
  have hA4:=hA.by hg4 (by omega)
  have hB4:=hB3.grown hg4 (by omega) (by rintro _ ⟨⟩;omega)
  have hC4:Below W.heap.size W w4∧Blk w4 A_x 25 x.cells:=⟨hB4,b_x3.by hg4 (fun e=>by have:=Option.some.inj e;omega)⟩
  refine AwC.back<|AwC.take (i:=10) (Ah (NoP.blk (Ah Ar))) O (by kernel_rfl) (by kernel_rfl) (by kernel_rfl) (fun w1 hc=>Ac O) O<|Ck (by assumption) (by kernel_rfl) ?_
  refine Aa<|Cw.out<|An<|Bk<|Ak<|Bf O O O (by assumption) (Tryz.underlying33) O O O ?_
  exact ⟨hB4,hA4.low (by omega)⟩
 intro n4
 have n4:=of_decide_eq_false n4
 refine Ae<|Ab<|Lw.val (Ce O (show _=some (b8 (5#8)) from rfl)) O<|Lw.val (Ac O) O<|Af<|Aa<|Cw.out<|Au O ?_ ?_
 ·intro g
  have hk:x.k=5#8:=of_decide_eq_true g
  obtain ⟨p,rfl⟩:=do_one hok (by rw [hk];rfl)
  refine Ae<|Ab<|Lw.val (Ad O) O<|Lw.val (Bz st_26 O O h_v 0 O (by simp)) O<|Lw.val (Cc (cs:=[p.x,p.y]) (ag_33 _) (sz_33 _) O h_v O (by decide) (ten_cells (ts:=[p]) (j:=0) (by simp))) O<|Al O O (rrelu_c p w ((h.2 p (by simp)).bs hB)) ?_
  rintro r w3 ⟨hn3,hA⟩
  have hA:AnsD w w3 r (actE x.k x [p]) (actS x.k x [p]) (actL x.k x [p]):=by rw [hk];exact hA.d
  obtain ⟨rx,ry,rfl,r1⟩:=hA.ones
  have z3:=hn3.size
  have hB3:=hB.trans (hn3.mono zz)
  have b_r3:=b_r.bs hn3
  refine Lw.val (Ax (i:=0) O O) O<|Lw.val (Ax (i:=1) O O) O<|Ay (Bp (cs:=[rx,ry]) (k:=2) (by kernel_rfl) O O O r1 b_r3 O) ?_
  rintro w4 ⟨b_r4,hg4,hz4⟩
  have hA4:=hA.by hg4 (by omega)
  have hB4:=hB3.grown hg4 (by omega) (by rintro _ ⟨⟩;omega)
  refine Lw.val (Ac O) O<|Af<|Aa<|Cw.out<|An<|Bk<|Ak<|Bf O O O (by assumption) (Tryz.underlying33) O O O ?_
  exact ⟨hB4,hA4.low (by omega)⟩
 intro n5
 have n5:=of_decide_eq_false n5
 refine Ae<|Ab<|Lw.val (Ce O (show _=some (b8 (6#8)) from rfl)) O<|Lw.val (Ac O) O<|Af<|Aa<|Cw.out<|Au O ?_ ?_
 ·intro g
  have hk:x.k=6#8:=of_decide_eq_true g
  obtain ⟨p,rfl⟩:=do_one hok (by rw [hk];rfl)
  refine Ae ?_
  refine Cw.any mixed (fun w2 hd _=> ?_)
  have hB2:=hB.trans (hd.mono zz)
  have b_x2:=b_x.bs hd
  refine Cs (fun w' =>Below W.heap.size W w' ∧Blk w' A_x 25 x.cells) (fun hC=> ?_) (⟨hB2,b_x2⟩)
  refine AwC.take (i:=0) (Ah (NoP.blk (Ah Ar))) O (by kernel_rfl) (by kernel_rfl) (by kernel_rfl) (fun w1 hc=>Ad O) O<|AwC.take (i:=1) (Ah (NoP.blk (Ah Ar))) O (by kernel_rfl) (by kernel_rfl) (by kernel_rfl) (fun w1 hc=>Bz st_26 O O (h.1.bs hc.1) 0 O (by simp)) O<|AwC.take (i:=2) (Ah (NoP.blk (Ah Ar))) O (by kernel_rfl) (by kernel_rfl) (by kernel_rfl) (fun w1 hc=>Cc (cs:=[p.x,p.y]) (ag_33 _) (sz_33 _) O (h.1.bs hc.1) O (by decide) (ten_cells (ts:=[p]) (j:=0) (by simp))) O<|AwC.take (i:=3) (Ah (NoP.blk (Ah Ar))) O (by kernel_rfl) (by kernel_rfl) (by kernel_rfl) (fun w1 hc=>Ag (q:=0) Tryz.underlying25 O (sz_3 _) O) O<|AwC.take (i:=4) (Ah (NoP.blk (Ah Ar))) O (by kernel_rfl) (by kernel_rfl) (by kernel_rfl) (fun w1 hc=>Aj (ag_3 _) O hc.2 O) O<|AwC.only (by assumption) (i:=5) (by kernel_rfl) O ?_
  refine Al O O (rshift_c p x.n w2 ((h.2 p (by simp)).bs hB2)) ?_
  rintro r w3 ⟨hn3,hA⟩
  have hA:AnsD w2 w3 r (actE x.k x [p]) (actS x.k x [p]) (actL x.k x [p]):=by rw [hk];exact hA.d
  obtain ⟨rx,ry,rfl,r1⟩:=hA.ones
  have z2:=hd.size
  have z3:=hn3.size
  have hB3:=hB2.trans (hn3.mono (by omega))
  have b_r3:=(b_r.bs hd).bs hn3
  have b_x3:=b_x2.bs hn3
  have hC3:Below W.heap.size W w3∧Blk w3 A_x 25 x.cells:=⟨hB3,b_x3⟩
  refine AwC.back<|AwC.take (i:=6) (Ah (NoP.blk (Ah Ar))) O (by kernel_rfl) (by kernel_rfl) (by kernel_rfl) (fun w1 hc=>Ax (i:=0) O O) O<|AwC.take (i:=7) (Ah (NoP.blk (Ah Ar))) O (by kernel_rfl) (by kernel_rfl) (by kernel_rfl) (fun w1 hc=>Ax (i:=1) O O) O<|AwC.only (by assumption) (i:=8) (by kernel_rfl) O ?_
  refine Ay (Bp (cs:=[rx,ry]) (k:=2) (by kernel_rfl) O O O r1 b_r3 O) ?_
  rintro w4 ⟨b_r4,hg4,hz4⟩
  have hA4:=hA.by hg4 (by omega)
  have hB4:=hB3.grown hg4 (by omega) (by rintro _ ⟨⟩;omega)
  have hC4:Below W.heap.size W w4∧Blk w4 A_x 25 x.cells:=⟨hB4,b_x3.by hg4 (fun e=>by have:=Option.some.inj e;omega)⟩
  refine AwC.back<|AwC.take (i:=9) (Ah (NoP.blk (Ah Ar))) O (by kernel_rfl) (by kernel_rfl) (by kernel_rfl) (fun w1 hc=>Ac O) O<|Ck (by assumption) (by kernel_rfl) ?_
  refine Aa<|Cw.out<|An<|Bk<|Ak<|Bf O O O (by assumption) (Tryz.underlying33) O O O ?_
  exact ⟨hB4,hA4.low (by omega)⟩
 intro n6
 have n6:=of_decide_eq_false n6
 refine Ae<|Ab<|Lw.val (Ce O (show _=some (b8 (7#8)) from rfl)) O<|Lw.val (Ac O) O<|Af<|Aa<|Cw.out<|Au O ?_ ?_
 ·intro g
  have hk:x.k=7#8:=of_decide_eq_true g
  obtain ⟨p,q,rfl⟩:=do_two hok (by rw [hk];rfl)
  refine Ae ?_
  refine Cw.any mixed (fun w2 hd _=> ?_)
  have hB2:=hB.trans (hd.mono zz)
  have b_x2:=b_x.bs hd
  refine Cs (fun w' =>Below W.heap.size W w' ∧Blk w' A_x 25 x.cells) (fun hC=> ?_) (⟨hB2,b_x2⟩)
  refine AwC.take (i:=0) (Ah (NoP.blk (Ah Ar))) O (by kernel_rfl) (by kernel_rfl) (by kernel_rfl) (fun w1 hc=>Ad O) O<|AwC.take (i:=1) (Ah (NoP.blk (Ah Ar))) O (by kernel_rfl) (by kernel_rfl) (by kernel_rfl) (fun w1 hc=>Bz st_26 O O (h.1.bs hc.1) 0 O (by simp)) O<|AwC.take (i:=2) (Ah (NoP.blk (Ah Ar))) O (by kernel_rfl) (by kernel_rfl) (by kernel_rfl) (fun w1 hc=>Cc (cs:=[p.x,p.y]) (ag_33 _) (sz_33 _) O (h.1.bs hc.1) O (by decide) (ten_cells (ts:=[p,q]) (j:=0) (by simp))) O<|AwC.take (i:=3) (Ah (NoP.blk (Ah Ar))) O (by kernel_rfl) (by kernel_rfl) (by kernel_rfl) (fun w1 hc=>Ad O) O<|AwC.take (i:=4) (Ah (NoP.blk (Ah Ar))) O (by kernel_rfl) (by kernel_rfl) (by kernel_rfl) (fun w1 hc=>Bz st_26 O O (h.1.bs hc.1) 1 O (by simp)) O<|AwC.take (i:=5) (Ah (NoP.blk (Ah Ar))) O (by kernel_rfl) (by kernel_rfl) (by kernel_rfl) (fun w1 hc=>Cc (cs:=[q.x,q.y]) (ag_33 _) (sz_33 _) O (h.1.bs hc.1) O (by decide) (ten_cells (ts:=[p,q]) (j:=1) (by simp))) O<|AwC.only (by assumption) (i:=6) (by kernel_rfl) O ?_
  refine Al O O (rprod_c p q w2 ((h.2 p (by simp)).bs hB2) ((h.2 q (by simp)).bs hB2)) ?_
  rintro r w3 ⟨hn3,hA⟩
  have hA:AnsD w2 w3 r (actE x.k x [p,q]) (actS x.k x [p,q]) (actL x.k x [p,q]):=by rw [hk];exact hA.gets.d
  obtain ⟨rx,ry,rfl,r1⟩:=hA.ones
  have z2:=hd.size
  have z3:=hn3.size
  have hB3:=hB2.trans (hn3.mono (by omega))
  have b_r3:=(b_r.bs hd).bs hn3
  have b_x3:=b_x2.bs hn3
  have hC3:Below W.heap.size W w3∧Blk w3 A_x 25 x.cells:=⟨hB3,b_x3⟩
  refine AwC.back<|AwC.take (i:=7) (Ah (NoP.blk (Ah Ar))) O (by kernel_rfl) (by kernel_rfl) (by kernel_rfl) (fun w1 hc=>Ax (i:=0) O O) O<|AwC.take (i:=8) (Ah (NoP.blk (Ah Ar))) O (by kernel_rfl) (by kernel_rfl) (by kernel_rfl) (fun w1 hc=>Ax (i:=1) O O) O<|AwC.only (by assumption) (i:=9) (by kernel_rfl) O ?_
  refine Ay (Bp (cs:=[rx,ry]) (k:=2) (by kernel_rfl) O O O r1 b_r3 O) ?_
  rintro w4 ⟨b_r4,hg4,hz4⟩
  have hA4:=hA.by hg4 (by omega)
  have hB4:=hB3.grown hg4 (by omega) (by rintro _ ⟨⟩;omega)
  have hC4:Below W.heap.size W w4∧Blk w4 A_x 25 x.cells:=⟨hB4,b_x3.by hg4 (fun e=>by have:=Option.some.inj e;omega)⟩
  refine AwC.back<|AwC.take (i:=10) (Ah (NoP.blk (Ah Ar))) O (by kernel_rfl) (by kernel_rfl) (by kernel_rfl) (fun w1 hc=>Ac O) O<|Ck (by assumption) (by kernel_rfl) ?_
  refine Aa<|Cw.out<|An<|Bk<|Ak<|Bf O O O (by assumption) (Tryz.underlying33) O O O ?_
  exact ⟨hB4,hA4.low (by omega)⟩
 intro n7
 have n7:=of_decide_eq_false n7
 refine Ae<|Ab<|Lw.val (Ce O (show _=some (b8 (8#8)) from rfl)) O<|Lw.val (Ac O) O<|Af<|Aa<|Cw.out<|Au O ?_ ?_
 ·intro g
  have hk:x.k=8#8:=of_decide_eq_true g
  obtain ⟨p,q,rfl⟩:=do_two hok (by rw [hk];rfl)
  refine Ae ?_
  refine Cw.any mixed (fun w2 hd _=> ?_)
  have hB2:=hB.trans (hd.mono zz)
  have b_x2:=b_x.bs hd
  refine Cs (fun w' =>Below W.heap.size W w' ∧Blk w' A_x 25 x.cells) (fun hC=> ?_) (⟨hB2,b_x2⟩)
  refine AwC.take (i:=0) (Ah (NoP.blk (Ah Ar))) O (by kernel_rfl) (by kernel_rfl) (by kernel_rfl) (fun w1 hc=>Ad O) O<|AwC.take (i:=1) (Ah (NoP.blk (Ah Ar))) O (by kernel_rfl) (by kernel_rfl) (by kernel_rfl) (fun w1 hc=>Bz st_26 O O (h.1.bs hc.1) 0 O (by simp)) O<|AwC.take (i:=2) (Ah (NoP.blk (Ah Ar))) O (by kernel_rfl) (by kernel_rfl) (by kernel_rfl) (fun w1 hc=>Cc (cs:=[p.x,p.y]) (ag_33 _) (sz_33 _) O (h.1.bs hc.1) O (by decide) (ten_cells (ts:=[p,q]) (j:=0) (by simp))) O<|AwC.take (i:=3) (Ah (NoP.blk (Ah Ar))) O (by kernel_rfl) (by kernel_rfl) (by kernel_rfl) (fun w1 hc=>Ad O) O<|AwC.take (i:=4) (Ah (NoP.blk (Ah Ar))) O (by kernel_rfl) (by kernel_rfl) (by kernel_rfl) (fun w1 hc=>Bz st_26 O O (h.1.bs hc.1) 1 O (by simp)) O<|AwC.take (i:=5) (Ah (NoP.blk (Ah Ar))) O (by kernel_rfl) (by kernel_rfl) (by kernel_rfl) (fun w1 hc=>Cc (cs:=[q.x,q.y]) (ag_33 _) (sz_33 _) O (h.1.bs hc.1) O (by decide) (ten_cells (ts:=[p,q]) (j:=1) (by simp))) O<|AwC.take (i:=6) (Ah (NoP.blk (Ah Ar))) O (by kernel_rfl) (by kernel_rfl) (by kernel_rfl) (fun w1 hc=>Ag (q:=0) Tryz.underlying25 O (sz_3 _) O) O<|AwC.take (i:=7) (Ah (NoP.blk (Ah Ar))) O (by kernel_rfl) (by kernel_rfl) (by kernel_rfl) (fun w1 hc=>Aj (ag_3 _) O hc.2 O) O ?_
  refine AwC.take (i:=8) (Ah (NoP.blk (Ah Ar))) O (by kernel_rfl) (by kernel_rfl) (by kernel_rfl) (fun w1 hc=>Ag (q:=0) Tryz.underlying25 O (sz_3 _) O) O<|AwC.take (i:=9) (Ah (NoP.blk (Ah Ar))) O (by kernel_rfl) (by kernel_rfl) (by kernel_rfl) (fun w1 hc=>Aj (ag_3 _) O hc.2 O) O<|AwC.only (by assumption) (i:=10) (by kernel_rfl) O ?_
  refine Al O O (rof_c p q x.n x.p w2 ((h.2 p (by simp)).bs hB2) ((h.2 q (by simp)).bs hB2)) ?_
  rintro r w3 ⟨hn3,hA⟩
  have hA:AnsD w2 w3 r (actE x.k x [p,q]) (actS x.k x [p,q]) (actL x.k x [p,q]):=by rw [hk];exact hA.gets.d
  obtain ⟨rx,ry,rfl,r1⟩:=hA.ones
  have z2:=hd.size
  have z3:=hn3.size
  have hB3:=hB2.trans (hn3.mono (by omega))
  have b_r3:=(b_r.bs hd).bs hn3
  have b_x3:=b_x2.bs hn3
  have hC3:Below W.heap.size W w3∧Blk w3 A_x 25 x.cells:=⟨hB3,b_x3⟩
  refine AwC.back<|AwC.take (i:=11) (Ah (NoP.blk (Ah Ar))) O (by kernel_rfl) (by kernel_rfl) (by kernel_rfl) (fun w1 hc=>Ax (i:=0) O O) O<|AwC.take (i:=12) (Ah (NoP.blk (Ah Ar))) O (by kernel_rfl) (by kernel_rfl) (by kernel_rfl) (fun w1 hc=>Ax (i:=1) O O) O<|AwC.only (by assumption) (i:=13) (by kernel_rfl) O ?_
  refine Ay (Bp (cs:=[rx,ry]) (k:=2) (by kernel_rfl) O O O r1 b_r3 O) ?_
  rintro w4 ⟨b_r4,hg4,hz4⟩
  have hA4:=hA.by hg4 (by omega)
  have hB4:=hB3.grown hg4 (by omega) (by rintro _ ⟨⟩;omega)
  have hC4:Below W.heap.size W w4∧Blk w4 A_x 25 x.cells:=⟨hB4,b_x3.by hg4 (fun e=>by have:=Option.some.inj e;omega)⟩
  refine AwC.back<|AwC.take (i:=14) (Ah (NoP.blk (Ah Ar))) O (by kernel_rfl) (by kernel_rfl) (by kernel_rfl) (fun w1 hc=>Ac O) O<|Ck (by assumption) (by kernel_rfl) ?_
  refine Aa<|Cw.out<|An<|Bk<|Ak<|Bf O O O (by assumption) (Tryz.underlying33) O O O ?_
  exact ⟨hB4,hA4.low (by omega)⟩
 intro n8
 have n8:=of_decide_eq_false n8
 refine Ae<|Ab<|Lw.val (Ce O (show _=some (b8 (9#8)) from rfl)) O<|Lw.val (Ac O) O<|Af<|Aa<|Cw.out<|Au O ?_ ?_
 ·intro g
  have hk:x.k=9#8:=of_decide_eq_true g
  obtain ⟨p,rfl⟩:=do_one hok (by rw [hk];rfl)
  refine Ae ?_
  refine Cw.any mixed (fun w2 hd _=> ?_)
  have hB2:=hB.trans (hd.mono zz)
  have b_x2:=b_x.bs hd
  refine Cs (fun w' =>Below W.heap.size W w' ∧Blk w' A_x 25 x.cells) (fun hC=> ?_) (⟨hB2,b_x2⟩)
  refine AwC.take (i:=0) (Ah (NoP.blk (Ah Ar))) O (by kernel_rfl) (by kernel_rfl) (by kernel_rfl) (fun w1 hc=>Ad O) O<|AwC.take (i:=1) (Ah (NoP.blk (Ah Ar))) O (by kernel_rfl) (by kernel_rfl) (by kernel_rfl) (fun w1 hc=>Bz st_26 O O (h.1.bs hc.1) 0 O (by simp)) O<|AwC.take (i:=2) (Ah (NoP.blk (Ah Ar))) O (by kernel_rfl) (by kernel_rfl) (by kernel_rfl) (fun w1 hc=>Cc (cs:=[p.x,p.y]) (ag_33 _) (sz_33 _) O (h.1.bs hc.1) O (by decide) (ten_cells (ts:=[p]) (j:=0) (by simp))) O<|AwC.take (i:=3) (Ah (NoP.blk (Ah Ar))) O (by kernel_rfl) (by kernel_rfl) (by kernel_rfl) (fun w1 hc=>Ag (q:=0) Tryz.underlying25 O (sz_3 _) O) O<|AwC.take (i:=4) (Ah (NoP.blk (Ah Ar))) O (by kernel_rfl) (by kernel_rfl) (by kernel_rfl) (fun w1 hc=>Aj (ag_3 _) O hc.2 O) O<|AwC.only (by assumption) (i:=5) (by kernel_rfl) O ?_
  refine Al O O (rpool_c p x.n w2 ((h.2 p (by simp)).bs hB2)) ?_
  rintro r w3 ⟨hn3,hA⟩
  have hA:AnsD w2 w3 r (actE x.k x [p]) (actS x.k x [p]) (actL x.k x [p]):=by rw [hk];exact hA.gets.d
  obtain ⟨rx,ry,rfl,r1⟩:=hA.ones
  have z2:=hd.size
  have z3:=hn3.size
  have hB3:=hB2.trans (hn3.mono (by omega))
  have b_r3:=(b_r.bs hd).bs hn3
  have b_x3:=b_x2.bs hn3
  have hC3:Below W.heap.size W w3∧Blk w3 A_x 25 x.cells:=⟨hB3,b_x3⟩
  refine AwC.back<|AwC.take (i:=6) (Ah (NoP.blk (Ah Ar))) O (by kernel_rfl) (by kernel_rfl) (by kernel_rfl) (fun w1 hc=>Ax (i:=0) O O) O<|AwC.take (i:=7) (Ah (NoP.blk (Ah Ar))) O (by kernel_rfl) (by kernel_rfl) (by kernel_rfl) (fun w1 hc=>Ax (i:=1) O O) O<|AwC.only (by assumption) (i:=8) (by kernel_rfl) O ?_
  refine Ay (Bp (cs:=[rx,ry]) (k:=2) (by kernel_rfl) O O O r1 b_r3 O) ?_
  rintro w4 ⟨b_r4,hg4,hz4⟩
  have hA4:=hA.by hg4 (by omega)
  have hB4:=hB3.grown hg4 (by omega) (by rintro _ ⟨⟩;omega)
  have hC4:Below W.heap.size W w4∧Blk w4 A_x 25 x.cells:=⟨hB4,b_x3.by hg4 (fun e=>by have:=Option.some.inj e;omega)⟩
  refine AwC.back<|AwC.take (i:=9) (Ah (NoP.blk (Ah Ar))) O (by kernel_rfl) (by kernel_rfl) (by kernel_rfl) (fun w1 hc=>Ac O) O<|Ck (by assumption) (by kernel_rfl) ?_
  refine Aa<|Cw.out<|An<|Bk<|Ak<|Bf O O O (by assumption) (Tryz.underlying33) O O O ?_
  exact ⟨hB4,hA4.low (by omega)⟩
 intro n9
 have n9:=of_decide_eq_false n9
 refine Ae<|Ab<|Lw.val (Ce O (show _=some (b8 (10#8)) from rfl)) O<|Lw.val (Ac O) O<|Af<|Aa<|Cw.out<|Au O ?_ ?_
 ·intro g
  have hk:x.k=10#8:=of_decide_eq_true g
  obtain ⟨p,rfl⟩:=do_one hok (by rw [hk];rfl)
  refine Ae ?_
  refine Cw.any mixed (fun w2 hd _=> ?_)
  have hB2:=hB.trans (hd.mono zz)
  have b_x2:=b_x.bs hd
  refine Cs (fun w' =>Below W.heap.size W w' ∧Blk w' A_x 25 x.cells) (fun hC=> ?_) (⟨hB2,b_x2⟩)
  refine AwC.take (i:=0) (Ah (NoP.blk (Ah Ar))) O (by kernel_rfl) (by kernel_rfl) (by kernel_rfl) (fun w1 hc=>Ad O) O<|AwC.take (i:=1) (Ah (NoP.blk (Ah Ar))) O (by kernel_rfl) (by kernel_rfl) (by kernel_rfl) (fun w1 hc=>Bz st_26 O O (h.1.bs hc.1) 0 O (by simp)) O<|AwC.take (i:=2) (Ah (NoP.blk (Ah Ar))) O (by kernel_rfl) (by kernel_rfl) (by kernel_rfl) (fun w1 hc=>Cc (cs:=[p.x,p.y]) (ag_33 _) (sz_33 _) O (h.1.bs hc.1) O (by decide) (ten_cells (ts:=[p]) (j:=0) (by simp))) O<|AwC.take (i:=3) (Ah (NoP.blk (Ah Ar))) O (by kernel_rfl) (by kernel_rfl) (by kernel_rfl) (fun w1 hc=>Ag (q:=0) Tryz.underlying25 O (sz_23 _) O) O<|AwC.take (i:=4) (Ah (NoP.blk (Ah Ar))) O (by kernel_rfl) (by kernel_rfl) (by kernel_rfl) (fun w1 hc=>Aj (ag_23 _) O hc.2 O) O<|AwC.only (by assumption) (i:=5) (by kernel_rfl) O ?_
  refine Al O O (rmshape_c p x.y x.s w2 ((h.2 p (by simp)).bs hB2) (hx.s.bs hB2)) ?_
  rintro r w3 ⟨hn3,hA⟩
  have hA:AnsD w2 w3 r (actE x.k x [p]) (actS x.k x [p]) (actL x.k x [p]):=by rw [hk];exact hA.d
  obtain ⟨rx,ry,rfl,r1⟩:=hA.ones
  have z2:=hd.size
  have z3:=hn3.size
  have hB3:=hB2.trans (hn3.mono (by omega))
  have b_r3:=(b_r.bs hd).bs hn3
  have b_x3:=b_x2.bs hn3
  have hC3:Below W.heap.size W w3∧Blk w3 A_x 25 x.cells:=⟨hB3,b_x3⟩
  refine AwC.back<|AwC.take (i:=6) (Ah (NoP.blk (Ah Ar))) O (by kernel_rfl) (by kernel_rfl) (by kernel_rfl) (fun w1 hc=>Ax (i:=0) O O) O<|AwC.take (i:=7) (Ah (NoP.blk (Ah Ar))) O (by kernel_rfl) (by kernel_rfl) (by kernel_rfl) (fun w1 hc=>Ax (i:=1) O O) O<|AwC.only (by assumption) (i:=8) (by kernel_rfl) O ?_
  refine Ay (Bp (cs:=[rx,ry]) (k:=2) (by kernel_rfl) O O O r1 b_r3 O) ?_
  rintro w4 ⟨b_r4,hg4,hz4⟩
  have hA4:=hA.by hg4 (by omega)
  have hB4:=hB3.grown hg4 (by omega) (by rintro _ ⟨⟩;omega)
  have hC4:Below W.heap.size W w4∧Blk w4 A_x 25 x.cells:=⟨hB4,b_x3.by hg4 (fun e=>by have:=Option.some.inj e;omega)⟩
  refine AwC.back<|AwC.take (i:=9) (Ah (NoP.blk (Ah Ar))) O (by kernel_rfl) (by kernel_rfl) (by kernel_rfl) (fun w1 hc=>Ac O) O<|Ck (by assumption) (by kernel_rfl) ?_
  refine Aa<|Cw.out<|An<|Bk<|Ak<|Bf O O O (by assumption) (Tryz.underlying33) O O O ?_
  exact ⟨hB4,hA4.low (by omega)⟩
 intro n10
 have n10:=of_decide_eq_false n10
 refine Ae<|Ab<|Lw.val (Ce O (show _=some (b8 (11#8)) from rfl)) O<|Lw.val (Ac O) O<|Af<|Aa<|Cw.out<|Au O ?_ ?_
 ·intro g
  have hk:x.k=11#8:=of_decide_eq_true g
  obtain ⟨p,rfl⟩:=do_one hok (by rw [hk];rfl)
  refine Ae ?_
  refine Cw.any mixed (fun w2 hd _=> ?_)
  have hB2:=hB.trans (hd.mono zz)
  have b_x2:=b_x.bs hd
  refine Cs (fun w' =>Below W.heap.size W w' ∧Blk w' A_x 25 x.cells) (fun hC=> ?_) (⟨hB2,b_x2⟩)
  refine AwC.take (i:=0) (Ah (NoP.blk (Ah Ar))) O (by kernel_rfl) (by kernel_rfl) (by kernel_rfl) (fun w1 hc=>Ad O) O<|AwC.take (i:=1) (Ah (NoP.blk (Ah Ar))) O (by kernel_rfl) (by kernel_rfl) (by kernel_rfl) (fun w1 hc=>Bz st_26 O O (h.1.bs hc.1) 0 O (by simp)) O<|AwC.take (i:=2) (Ah (NoP.blk (Ah Ar))) O (by kernel_rfl) (by kernel_rfl) (by kernel_rfl) (fun w1 hc=>Cc (cs:=[p.x,p.y]) (ag_33 _) (sz_33 _) O (h.1.bs hc.1) O (by decide) (ten_cells (ts:=[p]) (j:=0) (by simp))) O<|AwC.take (i:=3) (Ah (NoP.blk (Ah Ar))) O (by kernel_rfl) (by kernel_rfl) (by kernel_rfl) (fun w1 hc=>Ag (q:=0) Tryz.underlying25 O (sz_23 _) O) O<|AwC.take (i:=4) (Ah (NoP.blk (Ah Ar))) O (by kernel_rfl) (by kernel_rfl) (by kernel_rfl) (fun w1 hc=>Aj (ag_23 _) O hc.2 O) O<|AwC.only (by assumption) (i:=5) (by kernel_rfl) O ?_
  refine Al O O (rmturn_c p x.y x.s w2 ((h.2 p (by simp)).bs hB2) (hx.s.bs hB2)) ?_
  rintro r w3 ⟨hn3,hA⟩
  have hA:AnsD w2 w3 r (actE x.k x [p]) (actS x.k x [p]) (actL x.k x [p]):=by rw [hk];exact hA.d
  obtain ⟨rx,ry,rfl,r1⟩:=hA.ones
  have z2:=hd.size
  have z3:=hn3.size
  have hB3:=hB2.trans (hn3.mono (by omega))
  have b_r3:=(b_r.bs hd).bs hn3
  have b_x3:=b_x2.bs hn3
  have hC3:Below W.heap.size W w3∧Blk w3 A_x 25 x.cells:=⟨hB3,b_x3⟩
  refine AwC.back<|AwC.take (i:=6) (Ah (NoP.blk (Ah Ar))) O (by kernel_rfl) (by kernel_rfl) (by kernel_rfl) (fun w1 hc=>Ax (i:=0) O O) O<|AwC.take (i:=7) (Ah (NoP.blk (Ah Ar))) O (by kernel_rfl) (by kernel_rfl) (by kernel_rfl) (fun w1 hc=>Ax (i:=1) O O) O<|AwC.only (by assumption) (i:=8) (by kernel_rfl) O ?_
  refine Ay (Bp (cs:=[rx,ry]) (k:=2) (by kernel_rfl) O O O r1 b_r3 O) ?_
  rintro w4 ⟨b_r4,hg4,hz4⟩
  have hA4:=hA.by hg4 (by omega)
  have hB4:=hB3.grown hg4 (by omega) (by rintro _ ⟨⟩;omega)
  have hC4:Below W.heap.size W w4∧Blk w4 A_x 25 x.cells:=⟨hB4,b_x3.by hg4 (fun e=>by have:=Option.some.inj e;omega)⟩
  refine AwC.back<|AwC.take (i:=9) (Ah (NoP.blk (Ah Ar))) O (by kernel_rfl) (by kernel_rfl) (by kernel_rfl) (fun w1 hc=>Ac O) O<|Ck (by assumption) (by kernel_rfl) ?_
  refine Aa<|Cw.out<|An<|Bk<|Ak<|Bf O O O (by assumption) (Tryz.underlying33) O O O ?_
  exact ⟨hB4,hA4.low (by omega)⟩
 intro n11
 have n11:=of_decide_eq_false n11
 refine Ae<|Ab<|Lw.val (Ce O (show _=some (b8 (12#8)) from rfl)) O<|Lw.val (Ac O) O<|Af<|Aa<|Cw.out<|Au O ?_ ?_
 ·intro g
  have hk:x.k=12#8:=of_decide_eq_true g
  refine Ae<|Ab<|Lw.val (Ad O) O<|Lw.val (Ag (q:=0) Tryz.underlying25 O (sz_3 _) O) O<|Lw.val (Aj (ag_3 _) O (by assumption) O) O ?_
  refine Al O O (rjoin_c v ts x.n w (h.bs hB)) ?_
  rintro r w3 ⟨hn3,hA⟩
  have hA:AnsD w w3 r (actE x.k x ts) (actS x.k x ts) (actL x.k x ts):=by rw [hk];exact hA.d
  obtain ⟨rx,ry,rfl,r1⟩:=hA.ones
  have z3:=hn3.size
  have hB3:=hB.trans (hn3.mono zz)
  have b_r3:=b_r.bs hn3
  refine Lw.val (Ax (i:=0) O O) O<|Lw.val (Ax (i:=1) O O) O<|Ay (Bp (cs:=[rx,ry]) (k:=2) (by kernel_rfl) O O O r1 b_r3 O) ?_
  rintro w4 ⟨b_r4,hg4,hz4⟩
  have hA4:=hA.by hg4 (by omega)
  have hB4:=hB3.grown hg4 (by omega) (by rintro _ ⟨⟩;omega)
  refine Lw.val (Ac O) O<|Af<|Aa<|Cw.out<|An<|Bk<|Ak<|Bf O O O (by assumption) (Tryz.underlying33) O O O ?_
  exact ⟨hB4,hA4.low (by omega)⟩
 intro n12
 have n12:=of_decide_eq_false n12
 refine Aq<|Bo<|Aa<|Cw.out<|Ae ?_
 have hk:x.k=13#8:=by
  obtain ⟨a,b,c,d,hr, -⟩:=hrow
  rcases dRow_kind x.k (by rw [hr];rfl) with e|e|e|e|e|e|e|e|e|e|e
  ·exact absurd e n3
  ·exact absurd e n4
  ·exact absurd e n5
  ·exact absurd e n6
  ·exact absurd e n7
  ·exact absurd e n8
  ·exact absurd e n9
  ·exact absurd e n10
  ·exact absurd e n11
  ·exact absurd e n12
  ·exact e
 obtain ⟨p,rfl⟩:=do_one hok (by rw [hk];rfl)
 refine Cw.any mixed (fun w2 hd _=> ?_)
 have hB2:=hB.trans (hd.mono zz)
 have b_x2:=b_x.bs hd
 refine Cs (fun w' =>Below W.heap.size W w' ∧Blk w' A_x 25 x.cells) (fun hC=> ?_) (⟨hB2,b_x2⟩)
 refine AwC.take (i:=0) (Ah Ar) O (by kernel_rfl) (by kernel_rfl) (by kernel_rfl) (fun w1 hc=>Ad O) O<|AwC.take (i:=1) (Ah Ar) O (by kernel_rfl) (by kernel_rfl) (by kernel_rfl) (fun w1 hc=>Bz st_26 O O (h.1.bs hc.1) 0 O (by simp)) O<|AwC.take (i:=2) (Ah Ar) O (by kernel_rfl) (by kernel_rfl) (by kernel_rfl) (fun w1 hc=>Cc (cs:=[p.x,p.y]) (ag_33 _) (sz_33 _) O (h.1.bs hc.1) O (by decide) (ten_cells (ts:=[p]) (j:=0) (by simp))) O<|AwC.take (i:=3) (Ah Ar) O (by kernel_rfl) (by kernel_rfl) (by kernel_rfl) (fun w1 hc=>Ag (q:=0) Tryz.underlying25 O (sz_3 _) O) O<|AwC.take (i:=4) (Ah Ar) O (by kernel_rfl) (by kernel_rfl) (by kernel_rfl) (fun w1 hc=>Aj (ag_3 _) O hc.2 O) O<|AwC.only (by assumption) (i:=5) (by kernel_rfl) O ?_
 refine Al O O (rmsum_c p x.n w2 ((h.2 p (by simp)).bs hB2)) ?_
 rintro r w3 ⟨hn3,hA⟩
 have hA:AnsD w2 w3 r (actE x.k x [p]) (actS x.k x [p]) (actL x.k x [p]):=by rw [hk];exact hA.d
 obtain ⟨rx,ry,rfl,r1⟩:=hA.ones
 have z2:=hd.size
 have z3:=hn3.size
 have hB3:=hB2.trans (hn3.mono (by omega))
 have b_r3:=(b_r.bs hd).bs hn3
 have b_x3:=b_x2.bs hn3
 have hC3:Below W.heap.size W w3∧Blk w3 A_x 25 x.cells:=⟨hB3,b_x3⟩
 refine AwC.back<|AwC.take (i:=6) (Ah Ar) O (by kernel_rfl) (by kernel_rfl) (by kernel_rfl) (fun w1 hc=>Ax (i:=0) O O) O<|AwC.take (i:=7) (Ah Ar) O (by kernel_rfl) (by kernel_rfl) (by kernel_rfl) (fun w1 hc=>Ax (i:=1) O O) O<|AwC.only (by assumption) (i:=8) (by kernel_rfl) O ?_
 refine Ay (Bp (cs:=[rx,ry]) (k:=2) (by kernel_rfl) O O O r1 b_r3 O) ?_
 rintro w4 ⟨b_r4,hg4,hz4⟩
 have hA4:=hA.by hg4 (by omega)
 have hB4:=hB3.grown hg4 (by omega) (by rintro _ ⟨⟩;omega)
 have hC4:Below W.heap.size W w4∧Blk w4 A_x 25 x.cells:=⟨hB4,b_x3.by hg4 (fun e=>by have:=Option.some.inj e;omega)⟩
 refine AwC.back<|AwC.take (i:=9) (Ah Ar) O (by kernel_rfl) (by kernel_rfl) (by kernel_rfl) (fun w1 hc=>Ac O) O<|Ck (by assumption) (by kernel_rfl) ?_
 refine Aa<|Cw.out<|An<|Bf O O O (by assumption) (Tryz.underlying33) O O O ?_
 exact ⟨hB4,hA4.low (by omega)⟩
end Go.Proofs.YtmipoeanpnnjoaaGreatDoor

/-! A tensor as a statement's argument. -/
namespace Go.Proofs.YtmipoeanpnnjoaaGreatDoor
open Go Go.Dd Go.RowKit Go.ChangeShapes Go.WideShapes
set_option maxRecDepth 100000

theorem two_of {α:Type} {l:List α} (h:l.length=2):∃a b,l=[a,b]:=by
 match l,h with
 |[a,b],_=>exact ⟨a,b,rfl⟩

theorem in_ten {H:Type} {enc:TypeId×Value→H} {w:World} {cs:List Value} (h:In enc Tryz.prog w 33 cs):∃a:T4,cs=[a.x,a.y]∧a.at w∧a.s.length≤17592186044416∧a.l.length≤35184372088832:=by
 obtain ⟨hlen,hel⟩:=h.struct Tryz.underlying33
 have c2:Tryz.prog.cellsOf 33=2:=by kernel_rfl
 have c1:Tryz.prog.cellsOf 23=1:=by kernel_rfl
 have d1:Tryz.prog.cellsOf 31=1:=by kernel_rfl
 rw [c2] at hlen
 obtain ⟨x,y,rfl⟩:=two_of hlen
 obtain ⟨u0,s,e0,h0,q0⟩:=(hel 0 _ rfl).slT un_23 (by kernel_rfl) (fun cs h=>(In.int un_3 h).imp fun _ h=>h.1)
 obtain ⟨u1,l,e1,h1,q1⟩:=(hel 1 _ rfl).slT un_31 (by kernel_rfl) (fun cs h=>In.num (BitVec.ofInt 32) i32 (fun _ h=>wf_i32 h) un_21 h)
 have k0:Tryz.prog.bytesOf 3=8:=by kernel_rfl
 have k1:Tryz.prog.bytesOf 21=4:=by kernel_rfl
 rw [k0] at q0
 rw [k1] at q1
 simp [c1,d1] at e0 e1
 subst e0 e1
 have hr:reachBytes≤140737488355328:=by decide
 exact ⟨⟨x,y,s,l⟩,rfl,⟨h0,h1⟩,by simp only;omega,by simp only;omega⟩

end Go.Proofs.YtmipoeanpnnjoaaGreatDoor

/-! A list of tensors as a statement's argument; how great it is. -/
namespace Go.Proofs.YtmipoeanpnnjoaaGreatDoor
open Go Go.Dd Go.RowKit Go.ChangeShapes Go.WideShapes
set_option maxRecDepth 100000

def fewT (a:T4):Prop:=a.s.length≤1125899906842624∧a.l.length≤1125899906842624
theorem tens_of {H:Type} {enc:TypeId×Value→H} {w:World}:∀{n:Nat} {xs:List Value},xs.length=n*2→(∀i,i<n→In enc Tryz.prog w 33 ((xs.drop (i*2)).take 2))→
  ∃ts:List T4,ts.length=n∧cellsOf ts=xs∧∀t ∈ ts,t.at w∧fewT t
 |0,xs,hl,_=>by
  obtain rfl:xs=[]:=List.eq_nil_of_length_eq_zero (by omega)
  exact ⟨[],rfl,rfl,fun t ht=>by simp at ht⟩
 |n+1,[],hl,_=>by simp at hl
 |n+1,[_],hl,_=>by simp at hl;omega
 |n+1,x::y::xs,hl,h=>by
  obtain ⟨a,ea,ha,b1,b2⟩:=in_ten (h 0 (by omega))
  obtain ⟨ts,h1,h2,h3⟩:=tens_of (n:=n) (xs:=xs) (by simp at hl;omega) fun i hi=>by
   have:=h (i+1) (by omega)
   rw [show (i+1)*2=i*2+1+1 by omega] at this
   simpa using this
  simp at ea
  refine ⟨a::ts,by simp [h1],by rw [cellsOf,h2,ea.1,ea.2],fun t ht=> ?_⟩
  rcases List.mem_cons.1 ht with rfl|ht
  ·exact ⟨ha,by omega,by omega⟩
  ·exact h3 t ht
theorem in_tens {H:Type} {enc:TypeId×Value→H} {w:World} {cs:List Value} (h:In enc Tryz.prog w 26 cs):∃v,cs=[v]∧∃ts:List T4,Tens w v ts∧ts.length≤1125899906842624∧∀t ∈ ts,fewT t:=by
 obtain ⟨v,n,xs,e,hs,hb,hi⟩:=h.slice un_26 (sz:=2) (by kernel_rfl)
 obtain ⟨ts,h1,h2,h3⟩:=tens_of hs.len hi
 subst h1 h2
 have hr:reachBytes≤140737488355328:=by decide
 have kb:Tryz.prog.bytesOf 33=48:=by kernel_rfl
 rw [kb] at hb
 exact ⟨v,e,ts,⟨hs,fun t ht=>(h3 t ht).1⟩,by omega,fun t ht=>(h3 t ht).2⟩
theorem arg_tens {H:Type} {enc:TypeId×Value→H} {w:World} {base:Nat} {v:Value} (ho:Value.okWide Tryz.prog w .any base 26 v) (h:In enc Tryz.prog w 26 v.cells.toList):
  ∃ts:List T4,Tens w v ts∧ts.length≤1125899906842624∧∀t ∈ ts,fewT t:=by
 obtain ⟨a,len,cap,rfl⟩:=okWide_slice un_26 ho
 obtain ⟨v,e,h⟩:=in_tens h
 simp [Value.cells] at e
 subst e
 exact h
/-! ### How great -/
def tot:Int→List Int→Int
 |n,[]=>n
 |n,x::l=>if n≤1048576 then tot (n+x) l else n
theorem tot_le:∀{l:List Int} {n:Int},(∀x ∈ l,0≤x)→n≤tot n l
 |[],n,_=>Int.le_refl _
 |x::l,n,h=>by
  unfold tot
  split
  ·have:=tot_le (n:=n+x) fun y hy=>h y (List.mem_cons_of_mem _ hy)
   have:=h x (by simp)
   omega
  ·exact Int.le_refl _
theorem tot_each:∀{l:List Int} {n:Int},(∀x ∈ l,0≤x)→tot n l≤1048576→∀x ∈ l,n+x≤tot n l
 |[],_,_,_,x,hx=>by simp at hx
 |y::l,n,h,hle,x,hx=>by
  have h2:∀z ∈ l,0≤z:=fun z hz=>h z (List.mem_cons_of_mem _ hz)
  have hn:=tot_le (n:=n) h
  have e:tot n (y::l)=tot (n+y) l:=by
   show (if n≤1048576 then tot (n+y) l else n)=_
   rw [if_pos (by omega)]
  rw [e] at hle ⊢
  rcases List.mem_cons.1 hx with rfl|hx
  ·exact tot_le h2
  ·have:=tot_each h2 hle x hx
   have:=h y (by simp)
   omega
theorem tsz_pos (s:List Int) (l:List (BitVec 32)):1≤tsz s l:=by unfold tsz;split<;>omega
theorem tsz_few {a:T4} (h:fewT a):tsz a.s a.l≤4503599627370496:=by have h1:=h.1;have h2:=h.2;unfold tsz;split<;>omega
theorem tot_drop {l:List Int} {i:Nat} {n:Int} (hi:i<l.length):tot n (l.drop i)=if n≤1048576 then tot (n+l.getD i default) (l.drop (i+1)) else n:=by
 rw [List.drop_eq_getElem_cons hi]
 simp only [tot,List.getD_eq_getElem?_getD,List.getElem?_eq_getElem hi,Option.getD_some]
theorem ten_cellsA {ts:List T4} {j:Nat} (h:j<ts.length):∀i,i<2→∃q,[ts[j].x,ts[j].y][i]? =some q∧(cellsOf ts)[j*2+i]? =some q:=two_cells (cells_at h).1 (cells_at h).2
theorem tsizes_c (v:Value) (ts:List T4) (w:World) (h:Tens w v ts) (hl:ts.length≤1125899906842624) (hf:∀t ∈ ts,fewT t):Fnc Tryz.prog 6 [v] w (fun r w' =>r= .int .i64 (tot (ts.length:Int) (ts.map fun t=>tsz t.s t.l))∧Below w.heap.size w w'):=by
 have sv:=h.1
 have lv:=sv.le
 obtain ⟨T,hT⟩:∃T,T=tot (ts.length:Int) (ts.map fun t=>tsz t.s t.l):=⟨_,rfl⟩
 rw [← hT]
 refine Ap (n:=25) Tryz.func6 (by kernel_rfl) O O O<|Ae<|Ab<|Lw.val (Ac O) O<|Af<|Aa<|Cw.out<|Ae<|Ab<|Lw.val (Ad O) O<|Lw.val (Av st_26 O (by assumption)) O ?_
 refine Lw.val (Ac O) O<|Af<|Aa<|Cw.out<|Ae<|Ae<|Ab<|Lw.val (Ac O) O<|Af<|Aa<|Cw.out<|Cw.block ?_
 refine Bj (S:=(Nat×Int)) (fun p=>[(0,v),(3, .int .i64 p.2),(4, .int .i64 (p.1:Int))]) (fun p w' =>p.1≤ts.length∧0≤p.2∧p.2≤1125899906842624+4503599627370496+1048576∧tot p.2 ((ts.map fun t=>tsz t.s t.l).drop p.1)=T∧Below w.heap.size w w') (fun p=>ts.length - p.1) ((0,(ts.length:Int))) ⟨rfl,rfl,rfl,trivial⟩ ?_ ?_
 ·exact ⟨Nat.zero_le _,by simp only;omega,by simp only;omega,hT.symm,Below.refl _ _⟩
 rintro ⟨i,n⟩ w1 ⟨hi,h0,h1,hE,hB⟩
 replace hi:i≤ts.length:=hi
 replace h0:0≤n:=h0
 replace h1:n≤1125899906842624+4503599627370496+1048576:=h1
 replace hE:tot n ((ts.map fun t=>tsz t.s t.l).drop i)=T:=hE
 have sv:=sv.bs hB
 refine Ae<|Ae<|Ab<|Lw.val (Ad O) O<|Lw.val (Ad O) O<|Lw.val (Av st_26 O (by assumption)) O ?_
 refine Lw.val (Bh O O) O<|Lw.val (Ad O) O ?_
 refine Bt 11 O ?_ ?_
 ·intro g
  have hi' :i<ts.length:=by have:=of_decide_eq_true g;omega
  have e1:=tot_drop (n:=n) (l:=ts.map fun t=>tsz t.s t.l) (i:=i) (by rw [List.length_map];exact hi')
  obtain ⟨a,ha⟩:∃a,a=ts[i]:=⟨_,rfl⟩
  have e2:(ts.map fun t=>tsz t.s t.l).getD i default=tsz a.s a.l:=by rw [List.getD_eq_getElem?_getD,List.getElem?_map,List.getElem?_eq_getElem hi',← ha];rfl
  have hm:a ∈ ts:=ha ▸ List.getElem_mem hi'
  have hfa:=hf a hm
  have b1:=tsz_pos a.s a.l
  have b2:=tsz_few hfa
  have hcs:=ten_cellsA hi'
  rw [← ha] at hcs
  rw [e1,e2] at hE
  refine Lw.take (dj:=11) O O<|Lw.val (Ad O) O<|Lw.take (dj:=11) O O<|Lw.val (C8 O O) O<|Lw.val (As O O) O<|Af<|Aa<|Cw.out<|Au O ?_ ?_
  ·intro g2
   have g2:n≤1048576:=of_decide_eq_true g2
   rw [if_pos g2] at hE
   refine Aq<|Aa<|Cw.out<|Ae<|Cw.block<|Ab<|Lw.val (Ad O) O<|Lw.val (Ad O) O<|Lw.val (Ad O) O<|Lw.val (Bz st_26 O O sv i O hi') O<|Lw.val (Cc (cs:=[a.x,a.y]) (ag_33 _) (sz_33 _) O sv O (by decide) hcs) O<|Al O O (tsize_c a w1 ((h.2 a hm).bs hB) hfa.1 hfa.2) ?_
   rintro _ w2 ⟨rfl,hn⟩
   refine Lw.val (Bc O O (by omega)) O<|Lw.val (Ac O) O<|Af<|Bo<|Aa<|Cw.out<|Ab<|Lw.val (Ad O) O<|Lw.val (Bc O O (by omega)) O<|Lw.val (Ac O) O<|Af ?_
   exact Aa (Bq ((i+1,n+tsz a.s a.l)) ⟨rfl,rfl,rfl,trivial⟩ (⟨hi',by simp only;omega,by simp only;omega,hE,bt hB hn⟩) (by simp only;omega))
  intro g2
  have g2:¬n≤1048576:=of_decide_eq_false g2
  rw [if_neg g2] at hE
  refine Bi<|Am<|Am<|Az<|Aa<|Cw.out<|Ae<|Ab<|Lw.val (Ad O) O<|Lw.val (Ac O) O<|Af<|Aa<|Cw.out<|An<|Bb O O ?_
  exact ⟨by rw [← hE],hB⟩
 intro g
 have hi' :i=ts.length:=by have:=of_decide_eq_false g;omega
 have hE2:n=T:=by
  rw [hi',List.drop_of_length_le (by simp)] at hE;exact hE
 refine Ai (dj:=11) O O O O<|Ai (dj:=11) O O O O<|Lw.val (Bd O O) O<|Af<|Aa<|Cw.out<|C9 O<|Bi<|Am<|Am<|Az<|Aa<|Cw.out<|Ae<|Ab<|Lw.val (Ad O) O<|Lw.val (Ac O) O<|Af<|Aa<|Cw.out<|An<|Bb O O ?_
 exact ⟨by rw [hE2],hB⟩
theorem tsz_leM {s:List Int} {l:List (BitVec 32)} {m:Int} (h:tsz s l≤m) (hm:m≤1048576):(s.length:Int)+l.length+1≤m:=by unfold tsz at h;split at h<;>omega
end Go.Proofs.YtmipoeanpnnjoaaGreatDoor

/-! Nodes, graphs and tensors as a statement's argument; how great they are. -/
namespace Go.Proofs.YtmipoeanpnnjoaaGreatDoor
open Go Go.Dd Go.RowKit Go.ChangeShapes Go.WideShapes
set_option maxRecDepth 100000

structure N5.few (a:N5):Prop where
 i:a.i.length≤1125899906842624
 s:a.s.length≤1125899906842624
 n: -9223372036854775808≤a.n∧a.n≤9223372036854775807
 p: -9223372036854775808≤a.p∧a.p≤9223372036854775807
theorem five_of {α:Type} {l:List α} (h:l.length=5):∃a b c d e,l=[a,b,c,d,e]:=by
 match l,h with
 |[a,b,c,d,e],_=>exact ⟨a,b,c,d,e,rfl⟩
theorem in_node {H:Type} {enc:TypeId×Value→H} {w:World} {cs:List Value} (h:In enc Tryz.prog w nodeT cs):∃a:N5,cs=a.cells∧N5.at w a∧a.few:=by
 obtain ⟨hlen,hel⟩:=h.struct Tryz.underlying25
 have c5:Tryz.prog.cellsOf nodeT=5:=by kernel_rfl
 have c1:Tryz.prog.cellsOf 23=1:=by kernel_rfl
 have d1:Tryz.prog.cellsOf 3=1:=by kernel_rfl
 have e1:Tryz.prog.cellsOf 22=1:=by kernel_rfl
 rw [c5] at hlen
 obtain ⟨k0,x0,y0,n0,p0,rfl⟩:=five_of hlen
 obtain ⟨k,ek⟩:=In.num (BitVec.ofInt 8) b8 (fun _ h=>wf_u8 h) un_22 (hel 0 _ rfl)
 obtain ⟨u0,i,e0,h0,q0⟩:=(hel 1 _ rfl).slT un_23 (by kernel_rfl) (fun cs h=>(In.int un_3 h).imp fun _ h=>h.1)
 obtain ⟨u1,s,e2,h1,q1⟩:=(hel 2 _ rfl).slT un_23 (by kernel_rfl) (fun cs h=>(In.int un_3 h).imp fun _ h=>h.1)
 obtain ⟨n,en,wn⟩:=In.int un_3 (hel 3 _ rfl)
 obtain ⟨p,ep,wp⟩:=In.int un_3 (hel 4 _ rfl)
 have k0:Tryz.prog.bytesOf 3=8:=by kernel_rfl
 rw [k0] at q0 q1
 simp [c1,d1,e1] at ek e0 e2 en ep
 subst e0 e2 ek en ep
 have hr:reachBytes≤140737488355328:=by decide
 exact ⟨⟨k,x0,y0,i,s,n,p⟩,rfl,⟨h0,h1⟩,⟨by simp only;omega,by simp only;omega,wf_i64 wn,wf_i64 wp⟩⟩
theorem arg_node {H:Type} {enc:TypeId×Value→H} {w:World} {base:Nat} {v:Value} (ho:Value.okWide Tryz.prog w .any base nodeT v) (h:In enc Tryz.prog w nodeT v.cells.toList):∃a:N5,v=a.v∧N5.at w a∧a.few:=by
 obtain ⟨cs,rfl,hin⟩:=arg_struct Tryz.underlying25 ho h
 obtain ⟨a,rfl,h1⟩:=in_node hin
 exact ⟨a,rfl,h1⟩
def nsz (a:N5):Int:=if 1+(a.i.length:Int)≤1048576 then 1+(a.i.length:Int)+(a.s.length:Int) else 1+(a.i.length:Int)
theorem nsz_le {a:N5} {m:Int} (h:nsz a≤m) (hm:m≤1048576):(a.i.length:Int)+a.s.length+1≤m:=by unfold nsz at h;split at h<;>omega
theorem nsize_c (a:N5) (w:World) (ha:N5.at w a) (hf:a.few):Fnc Tryz.prog 5 [a.v] w (fun r w' =>r= .int .i64 (nsz a)∧Below w.heap.size w w'):=by
 have hB:=Below.refl w.heap.size w
 have h_i:=ha.i
 have h_s:=ha.s
 have f_i:=hf.i
 have f_s:=hf.s
 refine Ap (n:=19) Tryz.func5 (by kernel_rfl) O O O<|Ae<|Ab<|Bv (cs:=a.cells) O O O ?_
 rintro A_n w eA_n b_n hn -
 replace hB:=hB.bs hn
 replace h_i:=h_i.bs hn
 replace h_s:=h_s.bs hn
 clear hn
 refine Lw.val (Ac O) O<|Af<|Aa<|Cw.out<|Ae<|Ab<|Lw.val (Ac O) O<|Af<|Aa<|Cw.out<|Ae<|Ae<|Ab<|Lw.val (Ad O) O<|Lw.val (C8 O O) O<|Af<|Aa<|Cw.out<|Bs O true (by decide)<|Ab<|Lw.val (Ad O) O<|Lw.val (Ag (q:=0) Tryz.underlying25 O (sz_23 _) O) O<|Lw.val (Aj (ag_23 _) O (by assumption) O) O ?_
 refine Al O O (intsSize_c a.x a.i _ h_i) ?_
 rintro _ w2 ⟨rfl,hn⟩
 replace hB:=hB.bs hn
 replace h_i:=h_i.bs hn
 replace h_s:=h_s.bs hn
 replace b_n:=b_n.bs hn
 refine Lw.val (Bc O O (by omega)) O<|Lw.val (Ac O) O<|Af<|Aa<|Cw.out<|Ae<|Ae<|Ab<|Lw.val (Ad O) O<|Lw.val (C8 O O) O<|Af<|Aa<|Cw.out<|Au O ?_ ?_
 ·intro g
  have g' :=of_decide_eq_true g
  refine Ab<|Lw.val (Ad O) O<|Lw.val (Ag (q:=0) Tryz.underlying25 O (sz_23 _) O) O<|Lw.val (Aj (ag_23 _) O (by assumption) O) O ?_
  refine Al O O (intsSize_c a.y a.s w2 h_s) ?_
  rintro _ w3 ⟨rfl,hn⟩
  replace hB:=hB.bs hn
  replace h_i:=h_i.bs hn
  replace h_s:=h_s.bs hn
  replace b_n:=b_n.bs hn
  refine Lw.val (Bc O O (by omega)) O<|Lw.val (Ac O) O<|Af<|Aa<|Cw.out<|Ae<|Ab<|Lw.val (Ad O) O<|Lw.val (Ac O) O<|Af<|Aa<|Cw.out<|An<|Bb O O ?_
  exact ⟨by rw [nsz,if_pos g'],hB⟩
 ·intro g
  have g' :=of_decide_eq_false g
  refine Aq<|Aa<|Cw.out<|Ae<|Ab<|Lw.val (Ad O) O<|Lw.val (Ac O) O<|Af<|Aa<|Cw.out<|An<|Bb O O ?_
  exact ⟨by rw [nsz,if_neg g'],hB⟩
end Go.Proofs.YtmipoeanpnnjoaaGreatDoor

/-! Contract: a tensor's twin, in memory of its own. -/
namespace Go.Proofs.YtmipoeanpnnjoaaGreatDoor
open Go Go.Dd Go.RowKit
set_option maxRecDepth 100000

theorem _root_.Go.Dd.Twn.own {α:Type} {w:World} {base:Nat} {T:TypeId} {enc:α→Value} {mark v:Value} {l:List α} (h:Twn w base T enc mark v l):w.ownsRow base T 1 v l.length (l.map enc):=by
 obtain ⟨b,cap,rfl,ho⟩:=h
 exact own_short ho (by simp)


end Go.Proofs.YtmipoeanpnnjoaaGreatDoor

/-! Contract: a node's twin, in memory of its own. -/
namespace Go.Proofs.YtmipoeanpnnjoaaGreatDoor
open Go Go.Dd Go.RowKit
set_option maxRecDepth 100000

theorem twn_mono {α:Type} {w:World} {B B' :Nat} {T:TypeId} {enc:α→Value} {mark v:Value} {l:List α} (h:Go.Dd.Twn w B T enc mark v l) (hb:B' ≤B):Go.Dd.Twn w B' T enc mark v l:=by
 obtain ⟨b,cap,e,ho⟩:=h
 exact ⟨b,cap,e,own_mono ho hb⟩
theorem twn_by {α:Type} {w w' :World} {B:Nat} {r:Option Nat} {T:TypeId} {enc:α→Value} {mark v:Value} {l:List α} (h:Go.Dd.Twn w B T enc mark v l) (hg:w.grownBy w' r) (hr:v.ownBlock≠r):Go.Dd.Twn w' B T enc mark v l:=by
 obtain ⟨b,cap,rfl,ho⟩:=h
 exact ⟨b,cap,rfl,ho.kept hg (.inr fun e=>hr e)⟩
abbrev tI (w:World) (B:Nat) (v:Value) (l:List Int):Prop:=Go.Dd.Twn w B 3 (Value.int .i64) (Value.int .i64 77) v l
/-- A node's lists, twinned. -/
structure TwinN (w:World) (lo hi:Nat) (x y:Value) (a:N5):Prop where
 tx:tI w lo x a.i
 ty:tI w lo y a.s
 bx:∀b,x.ownBlock=some b→lo≤b∧b<hi
 by' :∀b,y.ownBlock=some b→lo≤b∧b<hi
 apart:∀b,x.ownBlock=some b→y.ownBlock≠some b
theorem TwinN.bs {w w' :World} {lo hi:Nat} {x y:Value} {a:N5} (h:TwinN w lo hi x y a) (g:Below w.heap.size w w'):TwinN w' lo hi x y a:=⟨h.tx.bs g,h.ty.bs g,h.bx,h.by',h.apart⟩
theorem TwinN.at {w:World} {lo hi:Nat} {x y:Value} {a:N5} (h:TwinN w lo hi x y a) (k:BitVec 8) (n p:Int):N5.at w ⟨k,x,y,a.i,a.s,n,p⟩:=⟨h.tx.sl,h.ty.sl⟩
theorem bt_node5 (k:BitVec 8) (x y:Value) (n p:Int) (hx:x.cells=[x].toArray) (hy:y.cells=[y].toArray):Tryz.prog.built nodeT [(0,b8 k),(1,x),(2,y),(3, .int .i64 n),(4, .int .i64 p)]=some [b8 k,x,y, .int .i64 n, .int .i64 p].toArray:=by
 have h1:Tryz.prog.info? nodeT=some Tryz.t25:=by kernel_rfl
 have h2:Tryz.prog.info? 3=some Tryz.t3:=by kernel_rfl
 have h3:Tryz.prog.info? 22=some Tryz.t22:=by kernel_rfl
 have h4:Tryz.prog.info? 23=some Tryz.t23:=by kernel_rfl
 simp [Program.built,h1,Tryz.underlying25,h2,h3,h4,Instr.fill,hx,hy]
 rfl
theorem twinNode_c (a:N5) (W:World) (ha:N5.at W a) (hi:a.i.length≤4194304) (hs:a.s.length≤4194304):
  Fnc Tryz.prog 7 [a.v] W (fun r w' =>Below W.heap.size W w' ∧∃x y,r=(N5.mk a.k x y a.i a.s a.n a.p).v∧TwinN w' W.heap.size w'.heap.size x y a):=by
 have hB:=Below.refl W.heap.size W
 have h_i:=ha.i
 have h_s:=ha.s
 refine Ap (n:=16) Tryz.func7 (by kernel_rfl) O O O<|Ae<|Ab<|Bv (cs:=a.cells) O O O ?_
 rintro A_x w eA_x b_x hn -
 replace hB:=hB.bs hn
 replace h_i:=h_i.bs hn
 replace h_s:=h_s.bs hn
 clear hn
 have yx:=blk_lt b_x
 have z1:=below_size hB
 refine B8 it_25 O ?_
 rintro A_r w0 eA_r b_r hn zhn
 replace hB:=hB.bs hn
 replace h_i:=h_i.bs hn
 replace h_s:=h_s.bs hn
 replace b_x:=b_x.bs hn
 clear hn
 have z0:=below_size hB
 have yr:=blk_lt b_r
 refine Af<|Aa<|Cw.out<|Ae ?_
 refine Cw.any mixed (fun w hD _=> ?_)
 have b_x:=b_x.bs hD
 refine Cs (fun w' =>Blk w' A_x nodeT a.cells) (fun hC=> ?_) (b_x)
 have b_r0:=b_r
 refine AwC.take (i:=0) (Ah Ar) O (by kernel_rfl) (by kernel_rfl) (by kernel_rfl) (fun w1 hc=>Ag (q:=0) Tryz.underlying25 O (sz_22 _) O) O<|AwC.take (i:=1) (Ah Ar) O (by kernel_rfl) (by kernel_rfl) (by kernel_rfl) (fun w1 hc=>Aj (ag_22 _) O hc O) O<|AwC.take (i:=2) (Ah Ar) O (by kernel_rfl) (by kernel_rfl) (by kernel_rfl) (fun w1 hc=>Ag (q:=0) Tryz.underlying25 O (sz_23 _) O) O<|AwC.take (i:=3) (Ah Ar) O (by kernel_rfl) (by kernel_rfl) (by kernel_rfl) (fun w1 hc=>Aj (ag_23 _) O hc O) O<|AwC.take (i:=5) (Ah Ar) O (by kernel_rfl) (by kernel_rfl) (by kernel_rfl) (fun w1 hc=>Ag (q:=0) Tryz.underlying25 O (sz_23 _) O) O<|AwC.take (i:=6) (Ah Ar) O (by kernel_rfl) (by kernel_rfl) (by kernel_rfl) (fun w1 hc=>Aj (ag_23 _) O hc O) O<|AwC.take (i:=8) (Ah Ar) O (by kernel_rfl) (by kernel_rfl) (by kernel_rfl) (fun w1 hc=>Ag (q:=0) Tryz.underlying25 O (sz_3 _) O) O<|AwC.take (i:=9) (Ah Ar) O (by kernel_rfl) (by kernel_rfl) (by kernel_rfl) (fun w1 hc=>Aj (ag_3 _) O hc O) O<|AwC.take (i:=10) (Ah Ar) O (by kernel_rfl) (by kernel_rfl) (by kernel_rfl) (fun w1 hc=>Ag (q:=0) Tryz.underlying25 O (sz_3 _) O) O<|AwC.take (i:=11) (Ah Ar) O (by kernel_rfl) (by kernel_rfl) (by kernel_rfl) (fun w1 hc=>Aj (ag_3 _) O hc O) O ?_
 refine AwC.only (by assumption) (i:=4) (by kernel_rfl) O ?_
 refine Al O O (twinInts_c a.x a.i w (h_i.bs hD) hi) ?_
 rintro x w1 ⟨t_x,hn⟩
 have zc:=hD.size
 have hD:=bt hD hn
 have b_x:=b_x.bs hn
 have n_x:=fun b hb=>own_block t_x.own b hb
 clear hn
 refine AwC.back<|AwC.only (by assumption) (i:=7) (by kernel_rfl) O ?_
 refine Al O O (twinInts_c a.y a.s w1 (h_s.bs hD) hs) ?_
 rintro y w2 ⟨t_y,hn⟩
 have zc1:=hD.size
 have t_x:=t_x.bs hn
 have z12:=hn.size
 have hD:=bt hD hn
 have b_x:=b_x.bs hn
 have zc2:=hD.size
 have n_y:=fun b hb=>own_block t_y.own b hb
 clear hn
 refine AwC.back<|AwC.take (i:=12) (Ah Ar) O (by kernel_rfl) (by kernel_rfl) (by kernel_rfl) (fun w1 hc=>Bn (cs:=[b8 a.k,x,y, .int .i64 a.n, .int .i64 a.p]) O (bt_node5 a.k x y a.n a.p t_x.sl.one t_y.sl.one)) O<|AwC.only (by assumption) (i:=13) (by kernel_rfl) O ?_
 refine Ay (Bp (cs:=[b8 a.k,x,y, .int .i64 a.n, .int .i64 a.p]) (k:=5) (by kernel_rfl) O O O (by rw [List.all_cons,List.all_cons,List.all_cons,t_x.sl.one',t_y.sl.one'];rfl) (b_r0.bs hD) O) ?_
 rintro w3 ⟨b_r3,hg,hz⟩
 have hF:=(bt hB hD).grown hg (below_size (bt hB hD)) (by rintro _ ⟨⟩;omega)
 have zf:=hg.size
 have b_x:=b_x.by hg (by rintro ⟨⟩;omega)
 have t_x:=twn_by t_x hg fun e=>by have:=n_x A_r e;omega
 have t_y:=twn_by t_y hg fun e=>by have:=n_y A_r e;omega
 have hT:TwinN w3 W.heap.size w3.heap.size x y a:=⟨twn_mono t_x (by omega),twn_mono t_y (by omega),fun b e=>by have:=n_x b e;omega,fun b e=>by have:=n_y b e;omega,fun b e e2=>by have:=n_x b e;have:=n_y b e2;omega⟩
 refine AwC.back<|Ck (by assumption) (by kernel_rfl) ?_
 refine Aa<|Cw.out<|An<|Pw.retC O O (by assumption) (Tryz.underlying25) O O O ?_
 exact ⟨hF,x,y,rfl,hT⟩
end Go.Proofs.YtmipoeanpnnjoaaGreatDoor

/-! Contracts: a book of lists: what it keeps, how it fills them, grows them, and looks at them. Printed by a program of ours. -/
namespace Go.Proofs.YtmipoeanpnnjoaaGreatDoor
open Go Go.Dd Go.RowKit
set_option maxRecDepth 100000

abbrev bookT:TypeId:=56


/-! ### Byte -/
abbrev mkByte (n:Int):Value:=b8 (BitVec.ofInt 8 n)
theorem markByte_c (n:Int) (w:World) (_hn:0≤n∧n≤4000000):Fnc Tryz.prog 155 [.int .i64 n] w (fun r w' =>r=mkByte n∧Below w.heap.size w w'):=by
 refine Ap (n:=5) Tryz.func155 (by kernel_rfl) O O O<|Ae<|Ab<|Lw.val (Ac (show _=some (b8 (0#8)) from rfl)) O<|Af<|Aa<|Cw.out<|Ae<|Ab<|Lw.val (Ad O) O<|Lw.val (Ex.conv8 us_3 un_5 O) O<|Lw.val (Ac O) O<|Af<|Aa<|Cw.out<|An<|Bb O O ?_
 exact ⟨rfl,Below.refl _ _⟩
theorem isByte_c (n:Int) (w:World) (_hn:0≤n∧n≤4000000):Fnc Tryz.prog 170 [mkByte n, .int .i64 n] w (fun r w' =>r= .bool true∧Below w.heap.size w w'):=by
 refine Ap (n:=9) Tryz.func170 (by kernel_rfl) O O O<|Ae<|Ab<|Lw.val (Ac O) O<|Af<|Aa<|Cw.out<|Ae<|Ab<|Lw.val (Ad O) O<|Lw.val (Ad O) O<|Lw.val (Ex.conv8 us_3 un_5 O) O<|Lw.val (Ce O O) O<|Lw.val (Ac O) O<|Af<|Aa<|Cw.out<|An<|Bb O O ?_
 exact ⟨congrArg Value.bool (by simp),Below.refl _ _⟩

theorem fillByte_c (A:Nat) (book:List Value) (u:Value) (hs:List Hd) (lo base:Nat) (w:World) (hA:Blk w A bookT book) (hu:book[1]? =some u) (ho:w.ownsRow lo 132 3 u hs.length (hcells hs)) (hk:Kept w base 5 1 hs)
  (hb1:¬blks hs A) (hb2:∀b,u.ownBlock=some b→¬blks hs b):
  Fnc Tryz.prog 52 [.pointer (some ⟨A,0,none⟩)] w (fun r w' =>r= .tuple #[]∧Chg (blks hs) w w' ∧Full w' base 5 mkByte hs):=by
 have hle:=(own_sl ho).le
 refine Ap (n:=35) Tryz.func52 (by kernel_rfl) O O O<|Ae<|Ab<|Lw.val (Ac O) O<|Af<|Aa<|Cw.out<|Cw.block ?_
 refine Bj (S:=Nat) (fun i=>[(0, .pointer (some ⟨A,0,none⟩)),(2, .int .i64 (i:Int))]) (fun i w' =>i≤hs.length∧Chg (blks hs) w w' ∧(∀j (hj:j<hs.length),j<i→KRow w' base 5 1 hs[j].v hs[j].k (marks mkByte hs[j].k hs[j].n))∧(∀j (hj:j<hs.length),i≤j→KRow w' base 5 1 hs[j].v hs[j].k hs[j].xs)) (fun i=>hs.length - i) (0) ⟨rfl,rfl,trivial⟩ ?_ ?_
 ·exact ⟨by omega,Chg.refl _ _,fun j hj h=>by omega,fun j hj _=>hk.own _ (List.getElem_mem hj)⟩
 rintro i w1 ⟨hi,hc,hd,ht⟩
 have b1:=hA.chg hc hb1
 have o1:=own_sl (own_chg ho hc hb2)
 refine Ae<|Ae<|Ab<|Lw.val (Ad O) O<|Lw.val (Ad O) O<|Lw.val (Be O) O<|Lw.val (Ag (q:=0) Tryz.underlying56 O (sz_40 _) O) O<|Lw.val (Aj (ag_40 _) O b1 hu) O<|Lw.val (Av (sz:=3) st_40 O o1) O<|Lw.val (Bh O O) O<|Af<|Aa<|Cw.out<|Au O ?_ ?_
 ·intro h
  have hi' :i<hs.length:=by simp at h;omega
  have hm:=List.getElem_mem hi'
  have hfew:=hk.few _ hm
  have hnum:=hk.num _ hm
  have hone:hs[i].g.oneCell' =true:=by rw [hk.new _ hm];rfl
  have hxl:=(hk.own _ hm).len
  have hvb:∀b,hs[i].v.ownBlock=some b→b<w.heap.size:=fun b e=>(hk.blk ⟨_,hm,e⟩).2
  refine Aq<|Aa<|Cw.out<|Ae<|Cw.block<|Ae<|Ab<|Lw.val (Ad O) O<|Lw.val (Be O) O<|Lw.val (Ag (q:=0) Tryz.underlying56 O (sz_40 _) O) O<|Lw.val (Aj (ag_40 _) O b1 hu) O<|Lw.val (Ad O) O<|Lw.val (Bz st_40 O O o1 i O hi') O<|Lw.val (Cc (cs:=hs[i].cells) (ag_132 _) (sz_132 _) O o1 O (by decide) (hcells_three hi')) O<|Cb (cs:=hs[i].cells) it_132 O O O O (fun _=>rfl) (by simp [Hd.cells,(hk.own _ hm).sl.one',hone,int_one]) ?_
  rintro A_h w2 eA_h b_h hn2 zhn2
  have hc2:=hc.below hn2
  have z1:=hc.size
  have r0:=(ht i hi' (Nat.le_refl _)).bs hn2
  refine Af<|Aa<|Cw.out<|Ae<|Ab<|Lw.val (Ac O) O<|Af<|Aa<|Cw.out<|Cw.block ?_
  refine Bj (S:=Nat) (fun k=>[(0, .pointer (some ⟨A,0,none⟩)),(2, .int .i64 (i:Int)),(3, .pointer (some ⟨A_h,0,none⟩)),(4, .int .i64 (k:Int))]) (fun k w' =>k≤hs[i].k∧Blk w' A_h 132 hs[i].cells∧Chg (blks hs) w w' ∧Chg (fun b=>hs[i].v.ownBlock=some b) w2 w' ∧KRow w' base 5 1 hs[i].v hs[i].k (marks mkByte k hs[i].n++hs[i].xs.drop k)) (fun k=>hs[i].k - k) (0) ⟨rfl,rfl,rfl,rfl,trivial⟩ ?_ ?_
  ·exact ⟨by omega,b_h,hc2,Chg.refl _ _,by simpa [marks] using r0⟩
  clear b_h r0
  rintro k w3 ⟨hk3,b_h,hc3,hd3,r3⟩
  refine Ae<|Ae<|Ab<|Lw.val (Ad O) O<|Lw.val (Ag (q:=0) Tryz.underlying132 O (sz_130 _) O) O<|Lw.val (Aj (ag_130 _) O (by assumption) O) O ?_
  refine Lw.val (Av (sz:=1) st_130 O r3.sl) O<|Lw.val (Bh O O) O<|Af<|Aa<|Cw.out<|Au O ?_ ?_
  ·intro h
   have hk' :k<hs[i].k:=by simp at h;omega
   refine Aq<|Aa<|Cw.out<|Ae<|Cw.block<|Cw.tail 7 mixed (by kernel_rfl)<|Qw.val (fun w1 hq=>Ag (q:=0) Tryz.underlying132 O (sz_130 _) O) O<|Qw.val (fun w1 hq=>Aj (ag_130 _) O (Blk.bs (by assumption) hq) O) O ?_
   refine Qw.val (fun w1 hq=>Ad O) O<|Qw.val (fun w1 hq=>Ag (q:=0) Tryz.underlying132 O (sz_3 _) O) O<|Qw.val (fun w1 hq=>Aj (ag_3 _) O (Blk.bs (by assumption) hq) O) O ?_
   refine B9 O O (fun w1 hq=>(markByte_c hs[i].n w1 hnum).q hq)<|Qw.val (fun w1 hq=>Cm st_130 O O r3.sl.shp k O hk') O ?_
   refine Cj (fun w4 hq=> ?_)
   refine Ay (Xu.stK (sz_5 _) O O O (r3.bs hq) (by rw [marks_len (by simpa using hxl) hk3];exact hk')) ?_
   rintro w5 ⟨r5,hg5, -⟩
   rw [marks_step (by simpa using hxl) hk'] at r5
   have b5:=(b_h.bs hq).by hg5 (fun e=>by have:=hvb _ e.symm;omega)
   refine Af<|Bo<|Aa<|Cw.out<|Ab<|Lw.val (Ad O) O<|Lw.val (Bc O O (by omega)) O<|Lw.val (Ac O) O<|Af ?_
   exact Aa (Bq (k+1) ⟨rfl,rfl,rfl,rfl,trivial⟩ (⟨hk',b5,(hc3.below hq).grown hg5 (fun b e=> .inl ⟨_,hm,e⟩),(hd3.below hq).grown hg5 (fun b e=> .inl e),r5⟩) (by omega))
  intro h
  have hk' :k=hs[i].k:=by simp at h;omega
  rw [List.drop_of_length_le (by omega),List.append_nil,hk'] at r3
  have hall:Chg (fun b=>hs[i].v.ownBlock=some b) w1 w3:=(Chg.of_below hn2).trans hd3
  refine Bi<|Am<|Am<|Az<|Bo<|Aa<|Cw.out<|Ab<|Lw.val (Ad O) O<|Lw.val (Bc O O (by omega)) O<|Lw.val (Ac O) O<|Af ?_
  exact Aa (Bq (i+1) ⟨rfl,rfl,trivial⟩ (⟨hi',hc3,fun j hj hji=>(if e:j=i then by subst e;exact r3 else (hd j hj (by omega)).chg hall fun b e1 e2=>apart_ne hk.apart hi' hj (Ne.symm e) b e2 e1),fun j hj hji=>(ht j hj (by omega)).chg hall fun b e1 e2=>apart_ne hk.apart hi' hj (by omega) b e2 e1⟩) (by omega))
 intro h
 have hi' :i=hs.length:=by simp at h;omega
 refine Bi<|Am<|Am<|Az<|Cf O ?_
 refine ⟨rfl,hc,fun x hx=> ?_⟩
 obtain ⟨j,hj,rfl⟩:=List.mem_iff_getElem.1 hx
 exact hd j hj (by omega)

theorem growByte_c (A:Nat) (book:List Value) (u:Value) (hs:List Hd) (lo base:Nat) (w:World) (hA:Blk w A bookT book) (hu:book[1]? =some u) (ho:w.ownsRow lo 132 3 u hs.length (hcells hs)) (hk:KOk hs) (hf:Full w base 5 mkByte hs)
  (hb1:¬blks hs A) (hb2:∀b,u.ownBlock=some b→¬blks hs b) (hb3:u.ownBlock≠some A) (hbase:base≤w.heap.size):
  Fnc Tryz.prog 67 [.pointer (some ⟨A,0,none⟩)] w (fun r w' =>r= .tuple #[]∧Chg (fun b=>blks hs b∨u.ownBlock=some b) w w' ∧∃ts,Grown w hs ts∧w'.ownsRow lo 132 3 u hs.length (hcells ts)∧∀t ∈ ts,Tall w' mkByte t):=by
 have hle:=(own_sl ho).le
 refine Ap (n:=42) Tryz.func67 (by kernel_rfl) O O O<|Ae<|Ab<|Lw.val (Ac O) O<|Af<|Aa<|Cw.out<|Cw.block ?_
 refine Bj (S:=(Nat×List Hd)) (fun s=>[(0, .pointer (some ⟨A,0,none⟩)),(2, .int .i64 (s.1:Int))]) (fun s w' =>s.1≤hs.length∧Grown w hs s.2∧(∀t ∈ s.2,t.g.oneCell' =true)∧Chg (fun b=>blks hs b∨u.ownBlock=some b) w w' ∧w'.ownsRow lo 132 3 u hs.length (hcells s.2)∧(∀j (hj:j<s.2.length),j<s.1→Tall w' mkByte s.2[j])∧(∀j (hj:j<hs.length),s.1≤j→KRow w' base 5 1 hs[j].v hs[j].k (marks mkByte hs[j].k hs[j].n))) (fun s=>hs.length - s.1) ((0,hs)) ⟨rfl,rfl,trivial⟩ ?_ ?_
 ·exact ⟨by simp,Grown.refl w hk.new,fun t ht=>(by rw [hk.new t ht];rfl),Chg.refl _ _,ho,fun j hj h=>by simp at h,fun j hj _=>hf _ (List.getElem_mem hj)⟩
 rintro ⟨i,ts⟩ w1 ⟨hi,hG,h1,hc,o1,hd,ht⟩
 dsimp only at hi hG h1 hc o1 hd ht ⊢
 have b1:=hA.chg hc (fun e=>e.elim hb1 hb3)
 have s1:=own_sl o1
 have hlen:=hG.len
 refine Ae<|Ae<|Ab<|Lw.val (Ad O) O<|Lw.val (Ad O) O<|Lw.val (Be O) O<|Lw.val (Ag (q:=0) Tryz.underlying56 O (sz_40 _) O) O<|Lw.val (Aj (ag_40 _) O b1 hu) O<|Lw.val (Av (sz:=3) st_40 O s1) O<|Lw.val (Bh O O) O<|Af<|Aa<|Cw.out<|Au O ?_ ?_
 ·intro h
  have hi' :i<hs.length:=by simp at h;omega
  have hit:i<ts.length:=by omega
  obtain ⟨ev,ek,en,eg⟩:=hG.all i hi' hit
  have hm:=List.getElem_mem hi'
  have hmt:=List.getElem_mem hit
  have hfew:=hk.few _ hm
  have hnum:=hk.num _ hm
  have hone:=h1 _ hmt
  have hvb:∀b,hs[i].v.ownBlock=some b→b<w.heap.size:=fun b e=>(hf.blk ⟨_,hm,e⟩).2
  refine Aq<|Aa<|Cw.out<|Ae<|Cw.block<|Ae<|Ab<|Lw.val (Ad O) O<|Lw.val (Be O) O<|Lw.val (Ag (q:=0) Tryz.underlying56 O (sz_40 _) O) O<|Lw.val (Aj (ag_40 _) O b1 hu) O<|Lw.val (Ad O) O<|Lw.val (Bz st_40 O O s1 i O hi') O<|Lw.val (Cc (cs:=ts[i].cells) (ag_132 _) (sz_132 _) O s1 O (by decide) (hcells_three hit)) O<|Cb (cs:=ts[i].cells) it_132 O O O O (fun _=>rfl) (by simp [Hd.cells,ev,(hf _ hm).sl.one',hone,int_one]) ?_
  rintro A_h w2 eA_h b_h hn2 zhn2
  have hc2:=hc.below hn2
  have z1:=hc.size
  have z2:=hc2.size
  have r0:=(ht i hi' (Nat.le_refl _)).bs hn2
  refine Af<|Aa<|Cw.out<|Ae<|Ab<|Lw.val (Ag (q:=0) Tryz.underlying132 O (sz_130 _) O) O<|Lw.val (Aj (ag_130 _) O (by assumption) O) O ?_
  refine Lw.val (Ac O) O<|Af<|Aa<|Cw.out<|Ae<|Ae<|Ab<|Lw.val (Ac O) O<|Af<|Aa<|Cw.out<|Cw.block<|C3 4 (v' :=hs[i].v) O (ev) ?_
  refine Bj (S:=(Nat×Value)) (fun s=>[(0, .pointer (some ⟨A,0,none⟩)),(2, .int .i64 (i:Int)),(3, .pointer (some ⟨A_h,0,none⟩)),(4,s.2),(5, .int .i64 (s.1:Int))]) (fun s w' =>s.1≤40∧Blk w' A_h 132 ts[i].cells∧Chg (fun b=>hs[i].v.ownBlock=some b) w2 w' ∧KRow w' base 5 1 s.2 (hs[i].k+s.1) (marks mkByte (hs[i].k+s.1) hs[i].n)∧(∀b,s.2.ownBlock=some b→hs[i].v.ownBlock=some b∨w2.heap.size≤b)∧Sl w' 1 hs[i].v hs[i].k (marks mkByte hs[i].k hs[i].n)) (fun s=>40 - s.1) ((0,hs[i].v)) ⟨rfl,rfl,rfl,rfl,rfl,trivial⟩ ?_ ?_
  ·exact ⟨by simp,b_h,Chg.refl _ _,r0,fun b e=> .inl e,r0.sl⟩
  clear b_h
  rintro ⟨k,g⟩ w3 ⟨hk3,b_h,hd3,r3,hgb,l3⟩
  dsimp only at hk3 r3 hgb ⊢
  have z3:=hd3.size
  refine Ae<|Ae<|Ab<|Lw.val (Ad O) O<|Lw.val (Bh O O) O<|Af<|Aa<|Cw.out<|Au O ?_ ?_
  ·intro h
   have hk' :k<40:=by simp at h;omega
   refine Aq<|Aa<|Cw.out<|Ae<|Cw.block<|Ab<|Lw.val (Ad O) O<|Lw.val (Ag (q:=0) Tryz.underlying132 O (sz_3 _) O) O<|Lw.val (Aj (ag_3 _) O (by assumption) O) O ?_
   refine Cd 30 (v' := .int .i64 hs[i].n) O (congrArg (Value.int .i64) en)<|Al O O (markByte_c hs[i].n w3 hnum) ?_
   rintro _ w4 ⟨rfl,hn4⟩
   refine Bl (Cp (vs:=[mkByte hs[i].n]) st_130 it_5 O O O O O) O ?_
   rintro nv w5 ⟨o5, -,hn5, -⟩
   have hn35:=bt hn4 hn5
   have z5:=hn35.size
   have r5:=r3.bs hn35
   refine Bl (Xw.appendK (base:=base) st_130 it_5 O (by decide) O O r5 (own_sl o5) O (by omega) (by omega) (by omega) (Nat.le_refl _)) O ?_
   rintro g' w6 ⟨r6,hg6,hcase⟩
   have l5:=l3.bs hn35
   have b5:=b_h.bs hn35
   have e6:marks mkByte (hs[i].k+k) hs[i].n++[mkByte hs[i].n]=marks mkByte (hs[i].k+(k+1)) hs[i].n:=marks_more
   rw [e6] at r6
   have hgA:some A_h≠g.ownBlock:=fun e=>by
    rcases hgb _ e.symm with h2|h2
    ·have:=hvb _ h2;omega
    ·omega
   have l6:Sl w6 1 hs[i].v hs[i].k (marks mkByte hs[i].k hs[i].n):=grow_keeps r0 (.inl r6) hg6 hcase l5 (by omega) (by simp [marks])
   have hgb' :∀b,g'.ownBlock=some b→hs[i].v.ownBlock=some b∨w2.heap.size≤b:=fun b e=>by
    rcases hcase with h2|⟨h2, -⟩
    ·rw [h2] at e;exact hgb b e
    ·exact .inr (by have:=h2 b e;omega)
   refine Lw.val (Ac O) O<|Af<|Bo<|Aa<|Cw.out<|Ab<|Lw.val (Ad O) O<|Lw.val (Bc O O (by omega)) O<|Lw.val (Ac O) O<|Af ?_
   exact Aa (Bq ((k+1,g')) ⟨rfl,rfl,rfl,rfl,rfl,trivial⟩ (⟨hk',b5.by hg6 hgA,(hd3.below hn35).grown hg6 hgb, .inl r6,hgb',l6⟩) (by simp only;omega))
  intro h
  have hk' :k=40:=by simp at h;omega
  subst hk'
  have hall:Chg (fun b=>hs[i].v.ownBlock=some b) w1 w3:=(Chg.of_below hn2).trans hd3
  have hcS:Chg (fun b=>blks hs b∨u.ownBlock=some b) w w3:=hc.trans (hall.mono fun b e=> .inl ⟨_,hm,e⟩)
  have b3:=hA.chg hcS (fun e=>e.elim hb1 hb3)
  have o3:=own_chg o1 hall (fun b e1 e2=>hb2 b e1 ⟨_,hm,e2⟩)
  refine Bi<|Am<|Am<|Az<|Aa<|Cw.out<|Ab<|Lw.val (Ad O) O<|Lw.val (Be O) O<|Lw.val (Ag (q:=0) Tryz.underlying56 O (sz_40 _) O) O<|Lw.val (Aj (ag_40 _) O b3 hu) O<|Lw.val (Ad O) O<|Lw.val (Ad O) O<|Lw.val (Bz st_40 O O (own_sl o3) i O hi') O<|Lw.val (Ch Tryz.underlying132 O (sz_130 _) O (own_some o3 (by omega))) O<|Ay (Cv (j:=i*3+1) (sz_130 _) O O r3.sl.one' o3 (by rw [hcells_len];omega)) ?_
  rintro w4 ⟨o4,hg4, -⟩
  have e4:=hcells_set hit g
  have o4:w4.ownsRow lo 132 3 u hs.length (hcells (ts.set i {ts[i] with g:=g})):=by rw [← e4];exact o4
  have hG4:=hG.set hi' hit (g:=g) (fun b e=>by
   rcases hgb b e with h2|h2
   ·exact .inl h2
   ·exact .inr (by omega))
  have hall4:Chg (fun b=>hs[i].v.ownBlock=some b∨u.ownBlock=some b) w1 w4:=(hall.mono fun b e=> .inl e).grown hg4 (fun b e=> .inl (.inr e))
  have hS4:Chg (fun b=>blks hs b∨u.ownBlock=some b) w w4:=hcS.grown hg4 (fun b e=> .inl (.inr e))
  have t4:Tall w4 mkByte {ts[i] with g:=g}:=by
   refine ⟨?_, ?_⟩
   ·simp only;rw [ev,ek,en]
    refine l3.by hg4 ?_
    cases hv:hs[i].v.ownBlock with
    |none=>exact .inl rfl
    |some b=>exact .inr fun e=>hb2 b e.symm ⟨_,hm,hv⟩
   ·simp only;rw [ek,en]
    refine r3.sl.by hg4 ?_
    cases hv:g.ownBlock with
    |none=>exact .inl rfl
    |some b=>
     refine .inr fun e=> ?_
     rcases hgb b hv with h2|h2
     ·exact hb2 b e.symm ⟨_,hm,h2⟩
     ·have:=(own_block ho b e.symm).2;omega
  have h14:∀t ∈ ts.set i {ts[i] with g:=g},t.g.oneCell' =true:=fun t htm=>by
   rcases List.mem_or_eq_of_mem_set htm with h2|h2
   ·exact h1 t h2
   ·rw [h2];exact r3.sl.one'
  have hd4:∀j (hj:j<(ts.set i {ts[i] with g:=g}).length),j<i+1→Tall w4 mkByte (ts.set i {ts[i] with g:=g})[j]:=fun j hj hji=>by
    rw [List.getElem_set]
    split
    ·exact t4
    ·rename_i hne
     have hj' :j<ts.length:=by simpa using hj
     obtain ⟨fv,_,_,fg⟩:=hG.all j (by omega) hj'
     refine (hd j hj' (by omega)).chg hall4 (fun b e1 _ e2=> ?_) (fun b e1 _ e2=> ?_)
     ·rw [fv] at e1
      rcases e2 with e2|e2
      ·exact apart_ne hk.apart hi' (show j<hs.length by omega) hne b e2 e1
      ·exact hb2 b e2 ⟨_,List.getElem_mem _,e1⟩
     ·rcases e2 with e2|e2
      ·rcases fg b e1 with h2|h2
       ·exact apart_ne hk.apart hi' (show j<hs.length by omega) hne b e2 h2
       ·have:=hvb b e2;omega
      ·rcases fg b e1 with h2|h2
       ·exact hb2 b e2 ⟨_,List.getElem_mem _,h2⟩
       ·have:=(own_block ho b e2).2;omega
  have ht4:∀j (hj:j<hs.length),i+1≤j→KRow w4 base 5 1 hs[j].v hs[j].k (marks mkByte hs[j].k hs[j].n):=fun j hj hji=>(ht j hj (by omega)).chg hall4 (fun b e1 e2=>(by
    rcases e2 with e2|e2
    ·exact apart_ne hk.apart hi' hj (by omega) b e2 e1
    ·exact hb2 b e2 ⟨_,List.getElem_mem _,e1⟩))
  refine Af<|Bo<|Aa<|Cw.out<|Ab<|Lw.val (Ad O) O<|Lw.val (Bc O O (by omega)) O<|Lw.val (Ac O) O<|Af ?_
  exact Aa (Bq ((i+1,ts.set i {ts[i] with g:=g})) ⟨rfl,rfl,trivial⟩ (⟨hi',hG4,h14,hS4,o4,hd4,ht4⟩) (by simp only;omega))
 intro h
 have hi' :i=hs.length:=by simp at h;omega
 refine Bi<|Am<|Am<|Az<|Cf O ?_
 refine ⟨rfl,hc,ts,hG,o1,fun t htm=> ?_⟩
 obtain ⟨j,hj,rfl⟩:=List.mem_iff_getElem.1 htm
 exact hd j hj (by omega)

theorem lookByte_c (A:Nat) (book:List Value) (u:Value) (ts:List Hd) (lo:Nat) (w:World) (hA:Blk w A bookT book) (hu:book[1]? =some u) (ho:w.ownsRow lo 132 3 u ts.length (hcells ts)) (ht:∀t ∈ ts,Tall w mkByte t) (hn:∀t ∈ ts,(0≤t.n∧t.n≤4000000)∧t.k≤16777216):
  Fnc Tryz.prog 82 [.pointer (some ⟨A,0,none⟩)] w (fun r w' =>r= .bool true∧Below w.heap.size w w'):=by
 have hle:=(own_sl ho).le
 refine Ap (n:=64) Tryz.func82 (by kernel_rfl) O O O<|Ae<|Ab<|Lw.val (Ac O) O<|Af<|Aa<|Cw.out<|Ae<|Ae<|Ab<|Lw.val (Ac O) O<|Af<|Aa<|Cw.out<|Cw.block ?_
 refine Bj (S:=Nat) (fun i=>[(0, .pointer (some ⟨A,0,none⟩)),(2, .bool false),(3, .int .i64 (i:Int))]) (fun i w' =>i≤ts.length∧Below w.heap.size w w') (fun i=>ts.length - i) (0) ⟨rfl,rfl,rfl,trivial⟩ ?_ ?_
 ·exact ⟨by omega,Below.refl _ _⟩
 rintro i w1 ⟨hi,hw1⟩
 have b1:=hA.bs hw1
 have s1:=(own_sl ho).bs hw1
 refine Ae<|Ae<|Ab<|Lw.val (Ad O) O<|Lw.val (Ad O) O<|Lw.val (Be O) O<|Lw.val (Ag (q:=0) Tryz.underlying56 O (sz_40 _) O) O<|Lw.val (Aj (ag_40 _) O b1 hu) O<|Lw.val (Av (sz:=3) st_40 O s1) O<|Lw.val (Bh O O) O<|Af<|Aa<|Cw.out<|Au O ?_ ?_
 ·intro h
  have hi' :i<ts.length:=by simp at h;omega
  have hm:=List.getElem_mem hi'
  obtain ⟨hnum,hfew⟩:=hn _ hm
  have t1:=ht _ hm
  refine Aq<|Aa<|Cw.out<|Ae<|Cw.block<|Ae<|Ab<|Lw.val (Ad O) O<|Lw.val (Be O) O<|Lw.val (Ag (q:=0) Tryz.underlying56 O (sz_40 _) O) O<|Lw.val (Aj (ag_40 _) O b1 hu) O<|Lw.val (Ad O) O<|Lw.val (Bz st_40 O O s1 i O hi') O<|Lw.val (Cc (cs:=ts[i].cells) (ag_132 _) (sz_132 _) O s1 O (by decide) (hcells_three hi')) O<|Cb (cs:=ts[i].cells) it_132 O O O O (fun _=>rfl) (by simp [Hd.cells,t1.l.one',t1.g.one',int_one]) ?_
  rintro A_h w2 eA_h b_h hn2 zhn2
  have hw2:=bt hw1 hn2
  have l2:=t1.l.bs hw2
  have g2:=t1.g.bs hw2
  refine Af<|Aa<|Cw.out<|Ae<|Ae<|Ab<|Lw.val (Ag (q:=0) Tryz.underlying132 O (sz_130 _) O) O<|Lw.val (Aj (ag_130 _) O (by assumption) O) O ?_
  refine Lw.val (Av (sz:=1) st_130 O g2) O<|Lw.val (Ag (q:=0) Tryz.underlying132 O (sz_130 _) O) O<|Lw.val (Aj (ag_130 _) O (by assumption) O) O ?_
  refine Lw.val (Av (sz:=1) st_130 O l2) O<|Lw.val (Bc O O (by omega)) O<|Lw.val (B7 O O) O<|Af<|Aa<|Cw.out<|Bs O false (by simp)<|Aq<|Aa<|Cw.out<|Ae<|Ab<|Lw.val (Ac O) O<|Af<|Aa<|Cw.out<|Cw.block ?_
  refine Bj (S:=Nat) (fun k=>[(0, .pointer (some ⟨A,0,none⟩)),(2, .bool false),(3, .int .i64 (i:Int)),(4, .pointer (some ⟨A_h,0,none⟩)),(5, .int .i64 (k:Int))]) (fun k w' =>k≤ts[i].k+40∧Below w2.heap.size w2 w') (fun k=>ts[i].k+40 - k) (0) ⟨rfl,rfl,rfl,rfl,rfl,trivial⟩ ?_ ?_
  ·exact ⟨by omega,Below.refl _ _⟩
  rintro k w3 ⟨hk3,hw3⟩
  have l3:=l2.bs hw3
  have g3:=g2.bs hw3
  have b3:=b_h.bs hw3
  refine Ae<|Ae<|Ab<|Lw.val (Ad O) O<|Lw.val (Ag (q:=0) Tryz.underlying132 O (sz_130 _) O) O<|Lw.val (Aj (ag_130 _) O (by assumption) O) O ?_
  refine Lw.val (Av (sz:=1) st_130 O g3) O<|Lw.val (Bh O O) O<|Af<|Aa<|Cw.out<|Au O ?_ ?_
  ·intro h
   have hk' :k<ts[i].k+40:=by simp at h;omega
   refine Aq<|Aa<|Cw.out<|Ae<|Cw.block<|Ae<|B5 mixed (by kernel_rfl)<|Qw.val (fun w1 hq=>Ag (q:=0) Tryz.underlying132 O (sz_130 _) O) O<|Qw.val (fun w1 hq=>Aj (ag_130 _) O (Blk.bs (by assumption) hq) O) O ?_
   refine Qw.val (fun w1 hq=>Ad O) O<|Qw.val (fun w1 hq=>Cm st_130 O O g3.shp k O hk') O<|Qw.val (fun w1 hq=>C6 (u:=mkByte ts[i].n) (ag_5 _) O (g3.bs hq) (marks_get hk')) O<|Qw.val (fun w1 hq=>Ag (q:=0) Tryz.underlying132 O (sz_3 _) O) O<|Qw.val (fun w1 hq=>Aj (ag_3 _) O (Blk.bs (by assumption) hq) O) O ?_
   refine B9 O O (fun w1 hq=>(isByte_c ts[i].n w1 hnum).q hq)<|Qw.val (fun w1 hq=>Bx O) O<|Qw.val (fun w1 hq=>Ad O) O<|Qw.know 46 (v' := .bool false) O (congrArg Value.bool (rfl))<|Qw.take (dj:=46) O O<|Qw.val (fun w1 hq=>Ad O) O<|Qw.take (dj:=46) O O<|Qw.val (fun w1 hq=>Ag (q:=0) Tryz.underlying132 O (sz_130 _) O) O<|Qw.take (dj:=46) O O<|Qw.val (fun w1 hq=>Aj (ag_130 _) O (Blk.bs (by assumption) hq) O) O ?_
   refine Qw.take (dj:=46) O O<|Qw.val (fun w1 hq=>Av (sz:=1) st_130 O (l3.bs hq)) O<|Qw.take (dj:=46) O O<|Qw.val (fun w1 hq=>Bh O O) O<|Qw.take (dj:=46) O O<|Qw.val (fun w1 hq=>Ad O) O ?_
   refine Cl 52 O ?_ ?_
   ·intro g
    have hkl:k<ts[i].k:=by simpa using g
    refine Qw.take (dj:=52) O O<|Qw.val (fun w1 hq=>Ag (q:=0) Tryz.underlying132 O (sz_130 _) O) O<|Qw.take (dj:=52) O O<|Qw.val (fun w1 hq=>Aj (ag_130 _) O (Blk.bs (by assumption) hq) O) O ?_
    refine Qw.take (dj:=52) O O<|Qw.val (fun w1 hq=>Ad O) O<|Qw.take (dj:=52) O O<|Qw.val (fun w1 hq=>Cm st_130 O O l3.shp k O hkl) O<|Qw.take (dj:=52) O O<|Qw.val (fun w1 hq=>C6 (u:=mkByte ts[i].n) (ag_5 _) O (l3.bs hq) (marks_get hkl)) O<|Qw.take (dj:=52) O O<|Qw.val (fun w1 hq=>Ag (q:=0) Tryz.underlying132 O (sz_3 _) O) O<|Qw.take (dj:=52) O O<|Qw.val (fun w1 hq=>Aj (ag_3 _) O (Blk.bs (by assumption) hq) O) O ?_
    refine Qw.take (dj:=52) O O<|B9 O O (fun w1 hq=>(isByte_c ts[i].n w1 hnum).q hq)<|Qw.take (dj:=52) O O<|Qw.val (fun w1 hq=>Bx O) O<|Qw.take (dj:=46) O O<|Qw.val (fun w1 hq=>As O O) O<|Qw.val (fun w1 hq=>Bd O O) O ?_
    refine B3 (fun w4 hq=> ?_)
    refine Aa<|Cw.out<|Bs O false (rfl)<|Aq<|Bo<|Aa<|Cw.out<|Ab<|Lw.val (Ad O) O<|Lw.val (Bc O O (by omega)) O<|Lw.val (Ac O) O<|Af ?_
    exact Aa (Bq (k+1) ⟨rfl,rfl,rfl,rfl,rfl,trivial⟩ (⟨hk',bt hw3 hq⟩) (by omega))
   ·intro g
    refine Ao (dj:=52) O O O O<|Ao (dj:=52) O O O O<|Ao (dj:=52) O O O O<|Ao (dj:=52) O O O O<|Ao (dj:=52) O O O O<|Ao (dj:=52) O O O O<|Ao (dj:=52) O O O O<|Ao (dj:=52) O O O O<|Ao (dj:=52) O O O O<|Qw.take (dj:=46) O O<|Qw.val (fun w1 hq=>Bd O O) O<|Qw.val (fun w1 hq=>Bd O O) O ?_
    refine B3 (fun w4 hq=> ?_)
    refine Aa<|Cw.out<|C9 O<|Aq<|Bo<|Aa<|Cw.out<|Ab<|Lw.val (Ad O) O<|Lw.val (Bc O O (by omega)) O<|Lw.val (Ac O) O<|Af ?_
    exact Aa (Bq (k+1) ⟨rfl,rfl,rfl,rfl,rfl,trivial⟩ (⟨hk',bt hw3 hq⟩) (by omega))
  intro h
  refine Bi<|Am<|Am<|Az<|Bo<|Aa<|Cw.out<|Ab<|Lw.val (Ad O) O<|Lw.val (Bc O O (by omega)) O<|Lw.val (Ac O) O<|Af ?_
  exact Aa (Bq (i+1) ⟨rfl,rfl,rfl,trivial⟩ (⟨hi',bt hw2 hw3⟩) (by omega))
 intro h
 refine Bi<|Am<|Am<|Az<|Aa<|Cw.out<|Ae<|Ab<|Lw.val (Ac O) O<|Af<|Aa<|Cw.out<|An<|Bb O O ?_
 exact ⟨rfl,hw1⟩


/-! ### Int -/
abbrev mkInt (n:Int):Value:= .int .i64 (-n)
theorem markInt_c (n:Int) (w:World) (_hn:0≤n∧n≤4000000):Fnc Tryz.prog 156 [.int .i64 n] w (fun r w' =>r=mkInt n∧Below w.heap.size w w'):=by
 refine Ap (n:=5) Tryz.func156 (by kernel_rfl) O O O<|Ae<|Ab<|Lw.val (Ac O) O<|Af<|Aa<|Cw.out<|Ae<|Ab<|Lw.val (Ad O) O<|Lw.val (Ex.negI O (by omega)) O<|Lw.val (Ac O) O<|Af<|Aa<|Cw.out<|An<|Bb O O ?_
 exact ⟨rfl,Below.refl _ _⟩
theorem isInt_c (n:Int) (w:World) (_hn:0≤n∧n≤4000000):Fnc Tryz.prog 171 [mkInt n, .int .i64 n] w (fun r w' =>r= .bool true∧Below w.heap.size w w'):=by
 refine Ap (n:=9) Tryz.func171 (by kernel_rfl) O O O<|Ae<|Ab<|Lw.val (Ac O) O<|Af<|Aa<|Cw.out<|Ae<|Ab<|Lw.val (Ad O) O<|Lw.val (Ad O) O<|Lw.val (Ex.negI O (by omega)) O<|Lw.val (Cn O O) O<|Lw.val (Ac O) O<|Af<|Aa<|Cw.out<|An<|Bb O O ?_
 exact ⟨congrArg Value.bool (by simp),Below.refl _ _⟩

theorem fillInt_c (A:Nat) (book:List Value) (u:Value) (hs:List Hd) (lo base:Nat) (w:World) (hA:Blk w A bookT book) (hu:book[2]? =some u) (ho:w.ownsRow lo 135 3 u hs.length (hcells hs)) (hk:Kept w base 3 1 hs)
  (hb1:¬blks hs A) (hb2:∀b,u.ownBlock=some b→¬blks hs b):
  Fnc Tryz.prog 53 [.pointer (some ⟨A,0,none⟩)] w (fun r w' =>r= .tuple #[]∧Chg (blks hs) w w' ∧Full w' base 3 mkInt hs):=by
 have hle:=(own_sl ho).le
 refine Ap (n:=35) Tryz.func53 (by kernel_rfl) O O O<|Ae<|Ab<|Lw.val (Ac O) O<|Af<|Aa<|Cw.out<|Cw.block ?_
 refine Bj (S:=Nat) (fun i=>[(0, .pointer (some ⟨A,0,none⟩)),(2, .int .i64 (i:Int))]) (fun i w' =>i≤hs.length∧Chg (blks hs) w w' ∧(∀j (hj:j<hs.length),j<i→KRow w' base 3 1 hs[j].v hs[j].k (marks mkInt hs[j].k hs[j].n))∧(∀j (hj:j<hs.length),i≤j→KRow w' base 3 1 hs[j].v hs[j].k hs[j].xs)) (fun i=>hs.length - i) (0) ⟨rfl,rfl,trivial⟩ ?_ ?_
 ·exact ⟨by omega,Chg.refl _ _,fun j hj h=>by omega,fun j hj _=>hk.own _ (List.getElem_mem hj)⟩
 rintro i w1 ⟨hi,hc,hd,ht⟩
 have b1:=hA.chg hc hb1
 have o1:=own_sl (own_chg ho hc hb2)
 refine Ae<|Ae<|Ab<|Lw.val (Ad O) O<|Lw.val (Ad O) O<|Lw.val (Be O) O<|Lw.val (Ag (q:=0) Tryz.underlying56 O (sz_41 _) O) O<|Lw.val (Aj (ag_41 _) O b1 hu) O<|Lw.val (Av (sz:=3) st_41 O o1) O<|Lw.val (Bh O O) O<|Af<|Aa<|Cw.out<|Au O ?_ ?_
 ·intro h
  have hi' :i<hs.length:=by simp at h;omega
  have hm:=List.getElem_mem hi'
  have hfew:=hk.few _ hm
  have hnum:=hk.num _ hm
  have hone:hs[i].g.oneCell' =true:=by rw [hk.new _ hm];rfl
  have hxl:=(hk.own _ hm).len
  have hvb:∀b,hs[i].v.ownBlock=some b→b<w.heap.size:=fun b e=>(hk.blk ⟨_,hm,e⟩).2
  refine Aq<|Aa<|Cw.out<|Ae<|Cw.block<|Ae<|Ab<|Lw.val (Ad O) O<|Lw.val (Be O) O<|Lw.val (Ag (q:=0) Tryz.underlying56 O (sz_41 _) O) O<|Lw.val (Aj (ag_41 _) O b1 hu) O<|Lw.val (Ad O) O<|Lw.val (Bz st_41 O O o1 i O hi') O<|Lw.val (Cc (cs:=hs[i].cells) (ag_135 _) (sz_135 _) O o1 O (by decide) (hcells_three hi')) O<|Cb (cs:=hs[i].cells) it_135 O O O O (fun _=>rfl) (by simp [Hd.cells,(hk.own _ hm).sl.one',hone,int_one]) ?_
  rintro A_h w2 eA_h b_h hn2 zhn2
  have hc2:=hc.below hn2
  have z1:=hc.size
  have r0:=(ht i hi' (Nat.le_refl _)).bs hn2
  refine Af<|Aa<|Cw.out<|Ae<|Ab<|Lw.val (Ac O) O<|Af<|Aa<|Cw.out<|Cw.block ?_
  refine Bj (S:=Nat) (fun k=>[(0, .pointer (some ⟨A,0,none⟩)),(2, .int .i64 (i:Int)),(3, .pointer (some ⟨A_h,0,none⟩)),(4, .int .i64 (k:Int))]) (fun k w' =>k≤hs[i].k∧Blk w' A_h 135 hs[i].cells∧Chg (blks hs) w w' ∧Chg (fun b=>hs[i].v.ownBlock=some b) w2 w' ∧KRow w' base 3 1 hs[i].v hs[i].k (marks mkInt k hs[i].n++hs[i].xs.drop k)) (fun k=>hs[i].k - k) (0) ⟨rfl,rfl,rfl,rfl,trivial⟩ ?_ ?_
  ·exact ⟨by omega,b_h,hc2,Chg.refl _ _,by simpa [marks] using r0⟩
  clear b_h r0
  rintro k w3 ⟨hk3,b_h,hc3,hd3,r3⟩
  refine Ae<|Ae<|Ab<|Lw.val (Ad O) O<|Lw.val (Ag (q:=0) Tryz.underlying135 O (sz_23 _) O) O<|Lw.val (Aj (ag_23 _) O (by assumption) O) O ?_
  refine Lw.val (Av (sz:=1) st_23 O r3.sl) O<|Lw.val (Bh O O) O<|Af<|Aa<|Cw.out<|Au O ?_ ?_
  ·intro h
   have hk' :k<hs[i].k:=by simp at h;omega
   refine Aq<|Aa<|Cw.out<|Ae<|Cw.block<|Cw.tail 7 mixed (by kernel_rfl)<|Qw.val (fun w1 hq=>Ag (q:=0) Tryz.underlying135 O (sz_23 _) O) O<|Qw.val (fun w1 hq=>Aj (ag_23 _) O (Blk.bs (by assumption) hq) O) O ?_
   refine Qw.val (fun w1 hq=>Ad O) O<|Qw.val (fun w1 hq=>Ag (q:=0) Tryz.underlying135 O (sz_3 _) O) O<|Qw.val (fun w1 hq=>Aj (ag_3 _) O (Blk.bs (by assumption) hq) O) O ?_
   refine B9 O O (fun w1 hq=>(markInt_c hs[i].n w1 hnum).q hq)<|Qw.val (fun w1 hq=>Cm st_23 O O r3.sl.shp k O hk') O ?_
   refine Cj (fun w4 hq=> ?_)
   refine Ay (Xu.stK (sz_3 _) O O O (r3.bs hq) (by rw [marks_len (by simpa using hxl) hk3];exact hk')) ?_
   rintro w5 ⟨r5,hg5, -⟩
   rw [marks_step (by simpa using hxl) hk'] at r5
   have b5:=(b_h.bs hq).by hg5 (fun e=>by have:=hvb _ e.symm;omega)
   refine Af<|Bo<|Aa<|Cw.out<|Ab<|Lw.val (Ad O) O<|Lw.val (Bc O O (by omega)) O<|Lw.val (Ac O) O<|Af ?_
   exact Aa (Bq (k+1) ⟨rfl,rfl,rfl,rfl,trivial⟩ (⟨hk',b5,(hc3.below hq).grown hg5 (fun b e=> .inl ⟨_,hm,e⟩),(hd3.below hq).grown hg5 (fun b e=> .inl e),r5⟩) (by omega))
  intro h
  have hk' :k=hs[i].k:=by simp at h;omega
  rw [List.drop_of_length_le (by omega),List.append_nil,hk'] at r3
  have hall:Chg (fun b=>hs[i].v.ownBlock=some b) w1 w3:=(Chg.of_below hn2).trans hd3
  refine Bi<|Am<|Am<|Az<|Bo<|Aa<|Cw.out<|Ab<|Lw.val (Ad O) O<|Lw.val (Bc O O (by omega)) O<|Lw.val (Ac O) O<|Af ?_
  exact Aa (Bq (i+1) ⟨rfl,rfl,trivial⟩ (⟨hi',hc3,fun j hj hji=>(if e:j=i then by subst e;exact r3 else (hd j hj (by omega)).chg hall fun b e1 e2=>apart_ne hk.apart hi' hj (Ne.symm e) b e2 e1),fun j hj hji=>(ht j hj (by omega)).chg hall fun b e1 e2=>apart_ne hk.apart hi' hj (by omega) b e2 e1⟩) (by omega))
 intro h
 have hi' :i=hs.length:=by simp at h;omega
 refine Bi<|Am<|Am<|Az<|Cf O ?_
 refine ⟨rfl,hc,fun x hx=> ?_⟩
 obtain ⟨j,hj,rfl⟩:=List.mem_iff_getElem.1 hx
 exact hd j hj (by omega)

theorem growInt_c (A:Nat) (book:List Value) (u:Value) (hs:List Hd) (lo base:Nat) (w:World) (hA:Blk w A bookT book) (hu:book[2]? =some u) (ho:w.ownsRow lo 135 3 u hs.length (hcells hs)) (hk:KOk hs) (hf:Full w base 3 mkInt hs)
  (hb1:¬blks hs A) (hb2:∀b,u.ownBlock=some b→¬blks hs b) (hb3:u.ownBlock≠some A) (hbase:base≤w.heap.size):
  Fnc Tryz.prog 68 [.pointer (some ⟨A,0,none⟩)] w (fun r w' =>r= .tuple #[]∧Chg (fun b=>blks hs b∨u.ownBlock=some b) w w' ∧∃ts,Grown w hs ts∧w'.ownsRow lo 135 3 u hs.length (hcells ts)∧∀t ∈ ts,Tall w' mkInt t):=by
 have hle:=(own_sl ho).le
 refine Ap (n:=42) Tryz.func68 (by kernel_rfl) O O O<|Ae<|Ab<|Lw.val (Ac O) O<|Af<|Aa<|Cw.out<|Cw.block ?_
 refine Bj (S:=(Nat×List Hd)) (fun s=>[(0, .pointer (some ⟨A,0,none⟩)),(2, .int .i64 (s.1:Int))]) (fun s w' =>s.1≤hs.length∧Grown w hs s.2∧(∀t ∈ s.2,t.g.oneCell' =true)∧Chg (fun b=>blks hs b∨u.ownBlock=some b) w w' ∧w'.ownsRow lo 135 3 u hs.length (hcells s.2)∧(∀j (hj:j<s.2.length),j<s.1→Tall w' mkInt s.2[j])∧(∀j (hj:j<hs.length),s.1≤j→KRow w' base 3 1 hs[j].v hs[j].k (marks mkInt hs[j].k hs[j].n))) (fun s=>hs.length - s.1) ((0,hs)) ⟨rfl,rfl,trivial⟩ ?_ ?_
 ·exact ⟨by simp,Grown.refl w hk.new,fun t ht=>(by rw [hk.new t ht];rfl),Chg.refl _ _,ho,fun j hj h=>by simp at h,fun j hj _=>hf _ (List.getElem_mem hj)⟩
 rintro ⟨i,ts⟩ w1 ⟨hi,hG,h1,hc,o1,hd,ht⟩
 dsimp only at hi hG h1 hc o1 hd ht ⊢
 have b1:=hA.chg hc (fun e=>e.elim hb1 hb3)
 have s1:=own_sl o1
 have hlen:=hG.len
 refine Ae<|Ae<|Ab<|Lw.val (Ad O) O<|Lw.val (Ad O) O<|Lw.val (Be O) O<|Lw.val (Ag (q:=0) Tryz.underlying56 O (sz_41 _) O) O<|Lw.val (Aj (ag_41 _) O b1 hu) O<|Lw.val (Av (sz:=3) st_41 O s1) O<|Lw.val (Bh O O) O<|Af<|Aa<|Cw.out<|Au O ?_ ?_
 ·intro h
  have hi' :i<hs.length:=by simp at h;omega
  have hit:i<ts.length:=by omega
  obtain ⟨ev,ek,en,eg⟩:=hG.all i hi' hit
  have hm:=List.getElem_mem hi'
  have hmt:=List.getElem_mem hit
  have hfew:=hk.few _ hm
  have hnum:=hk.num _ hm
  have hone:=h1 _ hmt
  have hvb:∀b,hs[i].v.ownBlock=some b→b<w.heap.size:=fun b e=>(hf.blk ⟨_,hm,e⟩).2
  refine Aq<|Aa<|Cw.out<|Ae<|Cw.block<|Ae<|Ab<|Lw.val (Ad O) O<|Lw.val (Be O) O<|Lw.val (Ag (q:=0) Tryz.underlying56 O (sz_41 _) O) O<|Lw.val (Aj (ag_41 _) O b1 hu) O<|Lw.val (Ad O) O<|Lw.val (Bz st_41 O O s1 i O hi') O<|Lw.val (Cc (cs:=ts[i].cells) (ag_135 _) (sz_135 _) O s1 O (by decide) (hcells_three hit)) O<|Cb (cs:=ts[i].cells) it_135 O O O O (fun _=>rfl) (by simp [Hd.cells,ev,(hf _ hm).sl.one',hone,int_one]) ?_
  rintro A_h w2 eA_h b_h hn2 zhn2
  have hc2:=hc.below hn2
  have z1:=hc.size
  have z2:=hc2.size
  have r0:=(ht i hi' (Nat.le_refl _)).bs hn2
  refine Af<|Aa<|Cw.out<|Ae<|Ab<|Lw.val (Ag (q:=0) Tryz.underlying135 O (sz_23 _) O) O<|Lw.val (Aj (ag_23 _) O (by assumption) O) O ?_
  refine Lw.val (Ac O) O<|Af<|Aa<|Cw.out<|Ae<|Ae<|Ab<|Lw.val (Ac O) O<|Af<|Aa<|Cw.out<|Cw.block<|C3 4 (v' :=hs[i].v) O (ev) ?_
  refine Bj (S:=(Nat×Value)) (fun s=>[(0, .pointer (some ⟨A,0,none⟩)),(2, .int .i64 (i:Int)),(3, .pointer (some ⟨A_h,0,none⟩)),(4,s.2),(5, .int .i64 (s.1:Int))]) (fun s w' =>s.1≤40∧Blk w' A_h 135 ts[i].cells∧Chg (fun b=>hs[i].v.ownBlock=some b) w2 w' ∧KRow w' base 3 1 s.2 (hs[i].k+s.1) (marks mkInt (hs[i].k+s.1) hs[i].n)∧(∀b,s.2.ownBlock=some b→hs[i].v.ownBlock=some b∨w2.heap.size≤b)∧Sl w' 1 hs[i].v hs[i].k (marks mkInt hs[i].k hs[i].n)) (fun s=>40 - s.1) ((0,hs[i].v)) ⟨rfl,rfl,rfl,rfl,rfl,trivial⟩ ?_ ?_
  ·exact ⟨by simp,b_h,Chg.refl _ _,r0,fun b e=> .inl e,r0.sl⟩
  clear b_h
  rintro ⟨k,g⟩ w3 ⟨hk3,b_h,hd3,r3,hgb,l3⟩
  dsimp only at hk3 r3 hgb ⊢
  have z3:=hd3.size
  refine Ae<|Ae<|Ab<|Lw.val (Ad O) O<|Lw.val (Bh O O) O<|Af<|Aa<|Cw.out<|Au O ?_ ?_
  ·intro h
   have hk' :k<40:=by simp at h;omega
   refine Aq<|Aa<|Cw.out<|Ae<|Cw.block<|Ab<|Lw.val (Ad O) O<|Lw.val (Ag (q:=0) Tryz.underlying135 O (sz_3 _) O) O<|Lw.val (Aj (ag_3 _) O (by assumption) O) O ?_
   refine Cd 30 (v' := .int .i64 hs[i].n) O (congrArg (Value.int .i64) en)<|Al O O (markInt_c hs[i].n w3 hnum) ?_
   rintro _ w4 ⟨rfl,hn4⟩
   refine Bl (Cp (vs:=[mkInt hs[i].n]) st_23 it_3 O O O O O) O ?_
   rintro nv w5 ⟨o5, -,hn5, -⟩
   have hn35:=bt hn4 hn5
   have z5:=hn35.size
   have r5:=r3.bs hn35
   refine Bl (Xw.appendK (base:=base) st_23 it_3 O (by decide) O O r5 (own_sl o5) O (by omega) (by omega) (by omega) (Nat.le_refl _)) O ?_
   rintro g' w6 ⟨r6,hg6,hcase⟩
   have l5:=l3.bs hn35
   have b5:=b_h.bs hn35
   have e6:marks mkInt (hs[i].k+k) hs[i].n++[mkInt hs[i].n]=marks mkInt (hs[i].k+(k+1)) hs[i].n:=marks_more
   rw [e6] at r6
   have hgA:some A_h≠g.ownBlock:=fun e=>by
    rcases hgb _ e.symm with h2|h2
    ·have:=hvb _ h2;omega
    ·omega
   have l6:Sl w6 1 hs[i].v hs[i].k (marks mkInt hs[i].k hs[i].n):=grow_keeps r0 (.inl r6) hg6 hcase l5 (by omega) (by simp [marks])
   have hgb' :∀b,g'.ownBlock=some b→hs[i].v.ownBlock=some b∨w2.heap.size≤b:=fun b e=>by
    rcases hcase with h2|⟨h2, -⟩
    ·rw [h2] at e;exact hgb b e
    ·exact .inr (by have:=h2 b e;omega)
   refine Lw.val (Ac O) O<|Af<|Bo<|Aa<|Cw.out<|Ab<|Lw.val (Ad O) O<|Lw.val (Bc O O (by omega)) O<|Lw.val (Ac O) O<|Af ?_
   exact Aa (Bq ((k+1,g')) ⟨rfl,rfl,rfl,rfl,rfl,trivial⟩ (⟨hk',b5.by hg6 hgA,(hd3.below hn35).grown hg6 hgb, .inl r6,hgb',l6⟩) (by simp only;omega))
  intro h
  have hk' :k=40:=by simp at h;omega
  subst hk'
  have hall:Chg (fun b=>hs[i].v.ownBlock=some b) w1 w3:=(Chg.of_below hn2).trans hd3
  have hcS:Chg (fun b=>blks hs b∨u.ownBlock=some b) w w3:=hc.trans (hall.mono fun b e=> .inl ⟨_,hm,e⟩)
  have b3:=hA.chg hcS (fun e=>e.elim hb1 hb3)
  have o3:=own_chg o1 hall (fun b e1 e2=>hb2 b e1 ⟨_,hm,e2⟩)
  refine Bi<|Am<|Am<|Az<|Aa<|Cw.out<|Ab<|Lw.val (Ad O) O<|Lw.val (Be O) O<|Lw.val (Ag (q:=0) Tryz.underlying56 O (sz_41 _) O) O<|Lw.val (Aj (ag_41 _) O b3 hu) O<|Lw.val (Ad O) O<|Lw.val (Ad O) O<|Lw.val (Bz st_41 O O (own_sl o3) i O hi') O<|Lw.val (Ch Tryz.underlying135 O (sz_23 _) O (own_some o3 (by omega))) O<|Ay (Cv (j:=i*3+1) (sz_23 _) O O r3.sl.one' o3 (by rw [hcells_len];omega)) ?_
  rintro w4 ⟨o4,hg4, -⟩
  have e4:=hcells_set hit g
  have o4:w4.ownsRow lo 135 3 u hs.length (hcells (ts.set i {ts[i] with g:=g})):=by rw [← e4];exact o4
  have hG4:=hG.set hi' hit (g:=g) (fun b e=>by
   rcases hgb b e with h2|h2
   ·exact .inl h2
   ·exact .inr (by omega))
  have hall4:Chg (fun b=>hs[i].v.ownBlock=some b∨u.ownBlock=some b) w1 w4:=(hall.mono fun b e=> .inl e).grown hg4 (fun b e=> .inl (.inr e))
  have hS4:Chg (fun b=>blks hs b∨u.ownBlock=some b) w w4:=hcS.grown hg4 (fun b e=> .inl (.inr e))
  have t4:Tall w4 mkInt {ts[i] with g:=g}:=by
   refine ⟨?_, ?_⟩
   ·simp only;rw [ev,ek,en]
    refine l3.by hg4 ?_
    cases hv:hs[i].v.ownBlock with
    |none=>exact .inl rfl
    |some b=>exact .inr fun e=>hb2 b e.symm ⟨_,hm,hv⟩
   ·simp only;rw [ek,en]
    refine r3.sl.by hg4 ?_
    cases hv:g.ownBlock with
    |none=>exact .inl rfl
    |some b=>
     refine .inr fun e=> ?_
     rcases hgb b hv with h2|h2
     ·exact hb2 b e.symm ⟨_,hm,h2⟩
     ·have:=(own_block ho b e.symm).2;omega
  have h14:∀t ∈ ts.set i {ts[i] with g:=g},t.g.oneCell' =true:=fun t htm=>by
   rcases List.mem_or_eq_of_mem_set htm with h2|h2
   ·exact h1 t h2
   ·rw [h2];exact r3.sl.one'
  have hd4:∀j (hj:j<(ts.set i {ts[i] with g:=g}).length),j<i+1→Tall w4 mkInt (ts.set i {ts[i] with g:=g})[j]:=fun j hj hji=>by
    rw [List.getElem_set]
    split
    ·exact t4
    ·rename_i hne
     have hj' :j<ts.length:=by simpa using hj
     obtain ⟨fv,_,_,fg⟩:=hG.all j (by omega) hj'
     refine (hd j hj' (by omega)).chg hall4 (fun b e1 _ e2=> ?_) (fun b e1 _ e2=> ?_)
     ·rw [fv] at e1
      rcases e2 with e2|e2
      ·exact apart_ne hk.apart hi' (show j<hs.length by omega) hne b e2 e1
      ·exact hb2 b e2 ⟨_,List.getElem_mem _,e1⟩
     ·rcases e2 with e2|e2
      ·rcases fg b e1 with h2|h2
       ·exact apart_ne hk.apart hi' (show j<hs.length by omega) hne b e2 h2
       ·have:=hvb b e2;omega
      ·rcases fg b e1 with h2|h2
       ·exact hb2 b e2 ⟨_,List.getElem_mem _,h2⟩
       ·have:=(own_block ho b e2).2;omega
  have ht4:∀j (hj:j<hs.length),i+1≤j→KRow w4 base 3 1 hs[j].v hs[j].k (marks mkInt hs[j].k hs[j].n):=fun j hj hji=>(ht j hj (by omega)).chg hall4 (fun b e1 e2=>(by
    rcases e2 with e2|e2
    ·exact apart_ne hk.apart hi' hj (by omega) b e2 e1
    ·exact hb2 b e2 ⟨_,List.getElem_mem _,e1⟩))
  refine Af<|Bo<|Aa<|Cw.out<|Ab<|Lw.val (Ad O) O<|Lw.val (Bc O O (by omega)) O<|Lw.val (Ac O) O<|Af ?_
  exact Aa (Bq ((i+1,ts.set i {ts[i] with g:=g})) ⟨rfl,rfl,trivial⟩ (⟨hi',hG4,h14,hS4,o4,hd4,ht4⟩) (by simp only;omega))
 intro h
 have hi' :i=hs.length:=by simp at h;omega
 refine Bi<|Am<|Am<|Az<|Cf O ?_
 refine ⟨rfl,hc,ts,hG,o1,fun t htm=> ?_⟩
 obtain ⟨j,hj,rfl⟩:=List.mem_iff_getElem.1 htm
 exact hd j hj (by omega)

theorem lookInt_c (A:Nat) (book:List Value) (u:Value) (ts:List Hd) (lo:Nat) (w:World) (hA:Blk w A bookT book) (hu:book[2]? =some u) (ho:w.ownsRow lo 135 3 u ts.length (hcells ts)) (ht:∀t ∈ ts,Tall w mkInt t) (hn:∀t ∈ ts,(0≤t.n∧t.n≤4000000)∧t.k≤16777216):
  Fnc Tryz.prog 83 [.pointer (some ⟨A,0,none⟩)] w (fun r w' =>r= .bool true∧Below w.heap.size w w'):=by
 have hle:=(own_sl ho).le
 refine Ap (n:=64) Tryz.func83 (by kernel_rfl) O O O<|Ae<|Ab<|Lw.val (Ac O) O<|Af<|Aa<|Cw.out<|Ae<|Ae<|Ab<|Lw.val (Ac O) O<|Af<|Aa<|Cw.out<|Cw.block ?_
 refine Bj (S:=Nat) (fun i=>[(0, .pointer (some ⟨A,0,none⟩)),(2, .bool false),(3, .int .i64 (i:Int))]) (fun i w' =>i≤ts.length∧Below w.heap.size w w') (fun i=>ts.length - i) (0) ⟨rfl,rfl,rfl,trivial⟩ ?_ ?_
 ·exact ⟨by omega,Below.refl _ _⟩
 rintro i w1 ⟨hi,hw1⟩
 have b1:=hA.bs hw1
 have s1:=(own_sl ho).bs hw1
 refine Ae<|Ae<|Ab<|Lw.val (Ad O) O<|Lw.val (Ad O) O<|Lw.val (Be O) O<|Lw.val (Ag (q:=0) Tryz.underlying56 O (sz_41 _) O) O<|Lw.val (Aj (ag_41 _) O b1 hu) O<|Lw.val (Av (sz:=3) st_41 O s1) O<|Lw.val (Bh O O) O<|Af<|Aa<|Cw.out<|Au O ?_ ?_
 ·intro h
  have hi' :i<ts.length:=by simp at h;omega
  have hm:=List.getElem_mem hi'
  obtain ⟨hnum,hfew⟩:=hn _ hm
  have t1:=ht _ hm
  refine Aq<|Aa<|Cw.out<|Ae<|Cw.block<|Ae<|Ab<|Lw.val (Ad O) O<|Lw.val (Be O) O<|Lw.val (Ag (q:=0) Tryz.underlying56 O (sz_41 _) O) O<|Lw.val (Aj (ag_41 _) O b1 hu) O<|Lw.val (Ad O) O<|Lw.val (Bz st_41 O O s1 i O hi') O<|Lw.val (Cc (cs:=ts[i].cells) (ag_135 _) (sz_135 _) O s1 O (by decide) (hcells_three hi')) O<|Cb (cs:=ts[i].cells) it_135 O O O O (fun _=>rfl) (by simp [Hd.cells,t1.l.one',t1.g.one',int_one]) ?_
  rintro A_h w2 eA_h b_h hn2 zhn2
  have hw2:=bt hw1 hn2
  have l2:=t1.l.bs hw2
  have g2:=t1.g.bs hw2
  refine Af<|Aa<|Cw.out<|Ae<|Ae<|Ab<|Lw.val (Ag (q:=0) Tryz.underlying135 O (sz_23 _) O) O<|Lw.val (Aj (ag_23 _) O (by assumption) O) O ?_
  refine Lw.val (Av (sz:=1) st_23 O g2) O<|Lw.val (Ag (q:=0) Tryz.underlying135 O (sz_23 _) O) O<|Lw.val (Aj (ag_23 _) O (by assumption) O) O ?_
  refine Lw.val (Av (sz:=1) st_23 O l2) O<|Lw.val (Bc O O (by omega)) O<|Lw.val (B7 O O) O<|Af<|Aa<|Cw.out<|Bs O false (by simp)<|Aq<|Aa<|Cw.out<|Ae<|Ab<|Lw.val (Ac O) O<|Af<|Aa<|Cw.out<|Cw.block ?_
  refine Bj (S:=Nat) (fun k=>[(0, .pointer (some ⟨A,0,none⟩)),(2, .bool false),(3, .int .i64 (i:Int)),(4, .pointer (some ⟨A_h,0,none⟩)),(5, .int .i64 (k:Int))]) (fun k w' =>k≤ts[i].k+40∧Below w2.heap.size w2 w') (fun k=>ts[i].k+40 - k) (0) ⟨rfl,rfl,rfl,rfl,rfl,trivial⟩ ?_ ?_
  ·exact ⟨by omega,Below.refl _ _⟩
  rintro k w3 ⟨hk3,hw3⟩
  have l3:=l2.bs hw3
  have g3:=g2.bs hw3
  have b3:=b_h.bs hw3
  refine Ae<|Ae<|Ab<|Lw.val (Ad O) O<|Lw.val (Ag (q:=0) Tryz.underlying135 O (sz_23 _) O) O<|Lw.val (Aj (ag_23 _) O (by assumption) O) O ?_
  refine Lw.val (Av (sz:=1) st_23 O g3) O<|Lw.val (Bh O O) O<|Af<|Aa<|Cw.out<|Au O ?_ ?_
  ·intro h
   have hk' :k<ts[i].k+40:=by simp at h;omega
   refine Aq<|Aa<|Cw.out<|Ae<|Cw.block<|Ae<|B5 mixed (by kernel_rfl)<|Qw.val (fun w1 hq=>Ag (q:=0) Tryz.underlying135 O (sz_23 _) O) O<|Qw.val (fun w1 hq=>Aj (ag_23 _) O (Blk.bs (by assumption) hq) O) O ?_
   refine Qw.val (fun w1 hq=>Ad O) O<|Qw.val (fun w1 hq=>Cm st_23 O O g3.shp k O hk') O<|Qw.val (fun w1 hq=>C6 (u:=mkInt ts[i].n) (ag_3 _) O (g3.bs hq) (marks_get hk')) O<|Qw.val (fun w1 hq=>Ag (q:=0) Tryz.underlying135 O (sz_3 _) O) O<|Qw.val (fun w1 hq=>Aj (ag_3 _) O (Blk.bs (by assumption) hq) O) O ?_
   refine B9 O O (fun w1 hq=>(isInt_c ts[i].n w1 hnum).q hq)<|Qw.val (fun w1 hq=>Bx O) O<|Qw.val (fun w1 hq=>Ad O) O<|Qw.know 46 (v' := .bool false) O (congrArg Value.bool (rfl))<|Qw.take (dj:=46) O O<|Qw.val (fun w1 hq=>Ad O) O<|Qw.take (dj:=46) O O<|Qw.val (fun w1 hq=>Ag (q:=0) Tryz.underlying135 O (sz_23 _) O) O<|Qw.take (dj:=46) O O<|Qw.val (fun w1 hq=>Aj (ag_23 _) O (Blk.bs (by assumption) hq) O) O ?_
   refine Qw.take (dj:=46) O O<|Qw.val (fun w1 hq=>Av (sz:=1) st_23 O (l3.bs hq)) O<|Qw.take (dj:=46) O O<|Qw.val (fun w1 hq=>Bh O O) O<|Qw.take (dj:=46) O O<|Qw.val (fun w1 hq=>Ad O) O ?_
   refine Cl 52 O ?_ ?_
   ·intro g
    have hkl:k<ts[i].k:=by simpa using g
    refine Qw.take (dj:=52) O O<|Qw.val (fun w1 hq=>Ag (q:=0) Tryz.underlying135 O (sz_23 _) O) O<|Qw.take (dj:=52) O O<|Qw.val (fun w1 hq=>Aj (ag_23 _) O (Blk.bs (by assumption) hq) O) O ?_
    refine Qw.take (dj:=52) O O<|Qw.val (fun w1 hq=>Ad O) O<|Qw.take (dj:=52) O O<|Qw.val (fun w1 hq=>Cm st_23 O O l3.shp k O hkl) O<|Qw.take (dj:=52) O O<|Qw.val (fun w1 hq=>C6 (u:=mkInt ts[i].n) (ag_3 _) O (l3.bs hq) (marks_get hkl)) O<|Qw.take (dj:=52) O O<|Qw.val (fun w1 hq=>Ag (q:=0) Tryz.underlying135 O (sz_3 _) O) O<|Qw.take (dj:=52) O O<|Qw.val (fun w1 hq=>Aj (ag_3 _) O (Blk.bs (by assumption) hq) O) O ?_
    refine Qw.take (dj:=52) O O<|B9 O O (fun w1 hq=>(isInt_c ts[i].n w1 hnum).q hq)<|Qw.take (dj:=52) O O<|Qw.val (fun w1 hq=>Bx O) O<|Qw.take (dj:=46) O O<|Qw.val (fun w1 hq=>As O O) O<|Qw.val (fun w1 hq=>Bd O O) O ?_
    refine B3 (fun w4 hq=> ?_)
    refine Aa<|Cw.out<|Bs O false (rfl)<|Aq<|Bo<|Aa<|Cw.out<|Ab<|Lw.val (Ad O) O<|Lw.val (Bc O O (by omega)) O<|Lw.val (Ac O) O<|Af ?_
    exact Aa (Bq (k+1) ⟨rfl,rfl,rfl,rfl,rfl,trivial⟩ (⟨hk',bt hw3 hq⟩) (by omega))
   ·intro g
    refine Ao (dj:=52) O O O O<|Ao (dj:=52) O O O O<|Ao (dj:=52) O O O O<|Ao (dj:=52) O O O O<|Ao (dj:=52) O O O O<|Ao (dj:=52) O O O O<|Ao (dj:=52) O O O O<|Ao (dj:=52) O O O O<|Ao (dj:=52) O O O O<|Qw.take (dj:=46) O O<|Qw.val (fun w1 hq=>Bd O O) O<|Qw.val (fun w1 hq=>Bd O O) O ?_
    refine B3 (fun w4 hq=> ?_)
    refine Aa<|Cw.out<|C9 O<|Aq<|Bo<|Aa<|Cw.out<|Ab<|Lw.val (Ad O) O<|Lw.val (Bc O O (by omega)) O<|Lw.val (Ac O) O<|Af ?_
    exact Aa (Bq (k+1) ⟨rfl,rfl,rfl,rfl,rfl,trivial⟩ (⟨hk',bt hw3 hq⟩) (by omega))
  intro h
  refine Bi<|Am<|Am<|Az<|Bo<|Aa<|Cw.out<|Ab<|Lw.val (Ad O) O<|Lw.val (Bc O O (by omega)) O<|Lw.val (Ac O) O<|Af ?_
  exact Aa (Bq (i+1) ⟨rfl,rfl,rfl,trivial⟩ (⟨hi',bt hw2 hw3⟩) (by omega))
 intro h
 refine Bi<|Am<|Am<|Az<|Aa<|Cw.out<|Ae<|Ab<|Lw.val (Ac O) O<|Af<|Aa<|Cw.out<|An<|Bb O O ?_
 exact ⟨rfl,hw1⟩


/-! ### Number -/
abbrev mkNumber (n:Int):Value:=i32 (BitVec.ofInt 32 (-n))
theorem markNumber_c (n:Int) (w:World) (_hn:0≤n∧n≤4000000):Fnc Tryz.prog 157 [.int .i64 n] w (fun r w' =>r=mkNumber n∧Below w.heap.size w w'):=by
 refine Ap (n:=6) Tryz.func157 (by kernel_rfl) O O O<|Ae<|Ab<|Lw.val (Ac (show _=some (i32 (0#32)) from rfl)) O<|Af<|Aa<|Cw.out<|Ae<|Ab<|Lw.val (Ad O) O<|Lw.val (Ex.negI O (by omega)) O<|Lw.val (Ex.convi32 us_3 un_21 O) O<|Lw.val (Ac O) O<|Af<|Aa<|Cw.out<|An<|Bb O O ?_
 exact ⟨rfl,Below.refl _ _⟩
theorem isNumber_c (n:Int) (w:World) (_hn:0≤n∧n≤4000000):Fnc Tryz.prog 172 [mkNumber n, .int .i64 n] w (fun r w' =>r= .bool true∧Below w.heap.size w w'):=by
 refine Ap (n:=10) Tryz.func172 (by kernel_rfl) O O O<|Ae<|Ab<|Lw.val (Ac O) O<|Af<|Aa<|Cw.out<|Ae<|Ab<|Lw.val (Ad O) O<|Lw.val (Ad O) O<|Lw.val (Ex.negI O (by omega)) O<|Lw.val (Ex.convi32 us_3 un_21 O) O<|Lw.val (Ex.eqli32 O O) O<|Lw.val (Ac O) O<|Af<|Aa<|Cw.out<|An<|Bb O O ?_
 exact ⟨congrArg Value.bool (by simp),Below.refl _ _⟩

theorem fillNumber_c (A:Nat) (book:List Value) (u:Value) (hs:List Hd) (lo base:Nat) (w:World) (hA:Blk w A bookT book) (hu:book[3]? =some u) (ho:w.ownsRow lo 138 3 u hs.length (hcells hs)) (hk:Kept w base 21 1 hs)
  (hb1:¬blks hs A) (hb2:∀b,u.ownBlock=some b→¬blks hs b):
  Fnc Tryz.prog 54 [.pointer (some ⟨A,0,none⟩)] w (fun r w' =>r= .tuple #[]∧Chg (blks hs) w w' ∧Full w' base 21 mkNumber hs):=by
 have hle:=(own_sl ho).le
 refine Ap (n:=35) Tryz.func54 (by kernel_rfl) O O O<|Ae<|Ab<|Lw.val (Ac O) O<|Af<|Aa<|Cw.out<|Cw.block ?_
 refine Bj (S:=Nat) (fun i=>[(0, .pointer (some ⟨A,0,none⟩)),(2, .int .i64 (i:Int))]) (fun i w' =>i≤hs.length∧Chg (blks hs) w w' ∧(∀j (hj:j<hs.length),j<i→KRow w' base 21 1 hs[j].v hs[j].k (marks mkNumber hs[j].k hs[j].n))∧(∀j (hj:j<hs.length),i≤j→KRow w' base 21 1 hs[j].v hs[j].k hs[j].xs)) (fun i=>hs.length - i) (0) ⟨rfl,rfl,trivial⟩ ?_ ?_
 ·exact ⟨by omega,Chg.refl _ _,fun j hj h=>by omega,fun j hj _=>hk.own _ (List.getElem_mem hj)⟩
 rintro i w1 ⟨hi,hc,hd,ht⟩
 have b1:=hA.chg hc hb1
 have o1:=own_sl (own_chg ho hc hb2)
 refine Ae<|Ae<|Ab<|Lw.val (Ad O) O<|Lw.val (Ad O) O<|Lw.val (Be O) O<|Lw.val (Ag (q:=0) Tryz.underlying56 O (sz_42 _) O) O<|Lw.val (Aj (ag_42 _) O b1 hu) O<|Lw.val (Av (sz:=3) st_42 O o1) O<|Lw.val (Bh O O) O<|Af<|Aa<|Cw.out<|Au O ?_ ?_
 ·intro h
  have hi' :i<hs.length:=by simp at h;omega
  have hm:=List.getElem_mem hi'
  have hfew:=hk.few _ hm
  have hnum:=hk.num _ hm
  have hone:hs[i].g.oneCell' =true:=by rw [hk.new _ hm];rfl
  have hxl:=(hk.own _ hm).len
  have hvb:∀b,hs[i].v.ownBlock=some b→b<w.heap.size:=fun b e=>(hk.blk ⟨_,hm,e⟩).2
  refine Aq<|Aa<|Cw.out<|Ae<|Cw.block<|Ae<|Ab<|Lw.val (Ad O) O<|Lw.val (Be O) O<|Lw.val (Ag (q:=0) Tryz.underlying56 O (sz_42 _) O) O<|Lw.val (Aj (ag_42 _) O b1 hu) O<|Lw.val (Ad O) O<|Lw.val (Bz st_42 O O o1 i O hi') O<|Lw.val (Cc (cs:=hs[i].cells) (ag_138 _) (sz_138 _) O o1 O (by decide) (hcells_three hi')) O<|Cb (cs:=hs[i].cells) it_138 O O O O (fun _=>rfl) (by simp [Hd.cells,(hk.own _ hm).sl.one',hone,int_one]) ?_
  rintro A_h w2 eA_h b_h hn2 zhn2
  have hc2:=hc.below hn2
  have z1:=hc.size
  have r0:=(ht i hi' (Nat.le_refl _)).bs hn2
  refine Af<|Aa<|Cw.out<|Ae<|Ab<|Lw.val (Ac O) O<|Af<|Aa<|Cw.out<|Cw.block ?_
  refine Bj (S:=Nat) (fun k=>[(0, .pointer (some ⟨A,0,none⟩)),(2, .int .i64 (i:Int)),(3, .pointer (some ⟨A_h,0,none⟩)),(4, .int .i64 (k:Int))]) (fun k w' =>k≤hs[i].k∧Blk w' A_h 138 hs[i].cells∧Chg (blks hs) w w' ∧Chg (fun b=>hs[i].v.ownBlock=some b) w2 w' ∧KRow w' base 21 1 hs[i].v hs[i].k (marks mkNumber k hs[i].n++hs[i].xs.drop k)) (fun k=>hs[i].k - k) (0) ⟨rfl,rfl,rfl,rfl,trivial⟩ ?_ ?_
  ·exact ⟨by omega,b_h,hc2,Chg.refl _ _,by simpa [marks] using r0⟩
  clear b_h r0
  rintro k w3 ⟨hk3,b_h,hc3,hd3,r3⟩
  refine Ae<|Ae<|Ab<|Lw.val (Ad O) O<|Lw.val (Ag (q:=0) Tryz.underlying138 O (sz_31 _) O) O<|Lw.val (Aj (ag_31 _) O (by assumption) O) O ?_
  refine Lw.val (Av (sz:=1) st_31 O r3.sl) O<|Lw.val (Bh O O) O<|Af<|Aa<|Cw.out<|Au O ?_ ?_
  ·intro h
   have hk' :k<hs[i].k:=by simp at h;omega
   refine Aq<|Aa<|Cw.out<|Ae<|Cw.block<|Cw.tail 7 mixed (by kernel_rfl)<|Qw.val (fun w1 hq=>Ag (q:=0) Tryz.underlying138 O (sz_31 _) O) O<|Qw.val (fun w1 hq=>Aj (ag_31 _) O (Blk.bs (by assumption) hq) O) O ?_
   refine Qw.val (fun w1 hq=>Ad O) O<|Qw.val (fun w1 hq=>Ag (q:=0) Tryz.underlying138 O (sz_3 _) O) O<|Qw.val (fun w1 hq=>Aj (ag_3 _) O (Blk.bs (by assumption) hq) O) O ?_
   refine B9 O O (fun w1 hq=>(markNumber_c hs[i].n w1 hnum).q hq)<|Qw.val (fun w1 hq=>Cm st_31 O O r3.sl.shp k O hk') O ?_
   refine Cj (fun w4 hq=> ?_)
   refine Ay (Xu.stK (sz_21 _) O O O (r3.bs hq) (by rw [marks_len (by simpa using hxl) hk3];exact hk')) ?_
   rintro w5 ⟨r5,hg5, -⟩
   rw [marks_step (by simpa using hxl) hk'] at r5
   have b5:=(b_h.bs hq).by hg5 (fun e=>by have:=hvb _ e.symm;omega)
   refine Af<|Bo<|Aa<|Cw.out<|Ab<|Lw.val (Ad O) O<|Lw.val (Bc O O (by omega)) O<|Lw.val (Ac O) O<|Af ?_
   exact Aa (Bq (k+1) ⟨rfl,rfl,rfl,rfl,trivial⟩ (⟨hk',b5,(hc3.below hq).grown hg5 (fun b e=> .inl ⟨_,hm,e⟩),(hd3.below hq).grown hg5 (fun b e=> .inl e),r5⟩) (by omega))
  intro h
  have hk' :k=hs[i].k:=by simp at h;omega
  rw [List.drop_of_length_le (by omega),List.append_nil,hk'] at r3
  have hall:Chg (fun b=>hs[i].v.ownBlock=some b) w1 w3:=(Chg.of_below hn2).trans hd3
  refine Bi<|Am<|Am<|Az<|Bo<|Aa<|Cw.out<|Ab<|Lw.val (Ad O) O<|Lw.val (Bc O O (by omega)) O<|Lw.val (Ac O) O<|Af ?_
  exact Aa (Bq (i+1) ⟨rfl,rfl,trivial⟩ (⟨hi',hc3,fun j hj hji=>(if e:j=i then by subst e;exact r3 else (hd j hj (by omega)).chg hall fun b e1 e2=>apart_ne hk.apart hi' hj (Ne.symm e) b e2 e1),fun j hj hji=>(ht j hj (by omega)).chg hall fun b e1 e2=>apart_ne hk.apart hi' hj (by omega) b e2 e1⟩) (by omega))
 intro h
 have hi' :i=hs.length:=by simp at h;omega
 refine Bi<|Am<|Am<|Az<|Cf O ?_
 refine ⟨rfl,hc,fun x hx=> ?_⟩
 obtain ⟨j,hj,rfl⟩:=List.mem_iff_getElem.1 hx
 exact hd j hj (by omega)

theorem growNumber_c (A:Nat) (book:List Value) (u:Value) (hs:List Hd) (lo base:Nat) (w:World) (hA:Blk w A bookT book) (hu:book[3]? =some u) (ho:w.ownsRow lo 138 3 u hs.length (hcells hs)) (hk:KOk hs) (hf:Full w base 21 mkNumber hs)
  (hb1:¬blks hs A) (hb2:∀b,u.ownBlock=some b→¬blks hs b) (hb3:u.ownBlock≠some A) (hbase:base≤w.heap.size):
  Fnc Tryz.prog 69 [.pointer (some ⟨A,0,none⟩)] w (fun r w' =>r= .tuple #[]∧Chg (fun b=>blks hs b∨u.ownBlock=some b) w w' ∧∃ts,Grown w hs ts∧w'.ownsRow lo 138 3 u hs.length (hcells ts)∧∀t ∈ ts,Tall w' mkNumber t):=by
 have hle:=(own_sl ho).le
 refine Ap (n:=42) Tryz.func69 (by kernel_rfl) O O O<|Ae<|Ab<|Lw.val (Ac O) O<|Af<|Aa<|Cw.out<|Cw.block ?_
 refine Bj (S:=(Nat×List Hd)) (fun s=>[(0, .pointer (some ⟨A,0,none⟩)),(2, .int .i64 (s.1:Int))]) (fun s w' =>s.1≤hs.length∧Grown w hs s.2∧(∀t ∈ s.2,t.g.oneCell' =true)∧Chg (fun b=>blks hs b∨u.ownBlock=some b) w w' ∧w'.ownsRow lo 138 3 u hs.length (hcells s.2)∧(∀j (hj:j<s.2.length),j<s.1→Tall w' mkNumber s.2[j])∧(∀j (hj:j<hs.length),s.1≤j→KRow w' base 21 1 hs[j].v hs[j].k (marks mkNumber hs[j].k hs[j].n))) (fun s=>hs.length - s.1) ((0,hs)) ⟨rfl,rfl,trivial⟩ ?_ ?_
 ·exact ⟨by simp,Grown.refl w hk.new,fun t ht=>(by rw [hk.new t ht];rfl),Chg.refl _ _,ho,fun j hj h=>by simp at h,fun j hj _=>hf _ (List.getElem_mem hj)⟩
 rintro ⟨i,ts⟩ w1 ⟨hi,hG,h1,hc,o1,hd,ht⟩
 dsimp only at hi hG h1 hc o1 hd ht ⊢
 have b1:=hA.chg hc (fun e=>e.elim hb1 hb3)
 have s1:=own_sl o1
 have hlen:=hG.len
 refine Ae<|Ae<|Ab<|Lw.val (Ad O) O<|Lw.val (Ad O) O<|Lw.val (Be O) O<|Lw.val (Ag (q:=0) Tryz.underlying56 O (sz_42 _) O) O<|Lw.val (Aj (ag_42 _) O b1 hu) O<|Lw.val (Av (sz:=3) st_42 O s1) O<|Lw.val (Bh O O) O<|Af<|Aa<|Cw.out<|Au O ?_ ?_
 ·intro h
  have hi' :i<hs.length:=by simp at h;omega
  have hit:i<ts.length:=by omega
  obtain ⟨ev,ek,en,eg⟩:=hG.all i hi' hit
  have hm:=List.getElem_mem hi'
  have hmt:=List.getElem_mem hit
  have hfew:=hk.few _ hm
  have hnum:=hk.num _ hm
  have hone:=h1 _ hmt
  have hvb:∀b,hs[i].v.ownBlock=some b→b<w.heap.size:=fun b e=>(hf.blk ⟨_,hm,e⟩).2
  refine Aq<|Aa<|Cw.out<|Ae<|Cw.block<|Ae<|Ab<|Lw.val (Ad O) O<|Lw.val (Be O) O<|Lw.val (Ag (q:=0) Tryz.underlying56 O (sz_42 _) O) O<|Lw.val (Aj (ag_42 _) O b1 hu) O<|Lw.val (Ad O) O<|Lw.val (Bz st_42 O O s1 i O hi') O<|Lw.val (Cc (cs:=ts[i].cells) (ag_138 _) (sz_138 _) O s1 O (by decide) (hcells_three hit)) O<|Cb (cs:=ts[i].cells) it_138 O O O O (fun _=>rfl) (by simp [Hd.cells,ev,(hf _ hm).sl.one',hone,int_one]) ?_
  rintro A_h w2 eA_h b_h hn2 zhn2
  have hc2:=hc.below hn2
  have z1:=hc.size
  have z2:=hc2.size
  have r0:=(ht i hi' (Nat.le_refl _)).bs hn2
  refine Af<|Aa<|Cw.out<|Ae<|Ab<|Lw.val (Ag (q:=0) Tryz.underlying138 O (sz_31 _) O) O<|Lw.val (Aj (ag_31 _) O (by assumption) O) O ?_
  refine Lw.val (Ac O) O<|Af<|Aa<|Cw.out<|Ae<|Ae<|Ab<|Lw.val (Ac O) O<|Af<|Aa<|Cw.out<|Cw.block<|C3 4 (v' :=hs[i].v) O (ev) ?_
  refine Bj (S:=(Nat×Value)) (fun s=>[(0, .pointer (some ⟨A,0,none⟩)),(2, .int .i64 (i:Int)),(3, .pointer (some ⟨A_h,0,none⟩)),(4,s.2),(5, .int .i64 (s.1:Int))]) (fun s w' =>s.1≤40∧Blk w' A_h 138 ts[i].cells∧Chg (fun b=>hs[i].v.ownBlock=some b) w2 w' ∧KRow w' base 21 1 s.2 (hs[i].k+s.1) (marks mkNumber (hs[i].k+s.1) hs[i].n)∧(∀b,s.2.ownBlock=some b→hs[i].v.ownBlock=some b∨w2.heap.size≤b)∧Sl w' 1 hs[i].v hs[i].k (marks mkNumber hs[i].k hs[i].n)) (fun s=>40 - s.1) ((0,hs[i].v)) ⟨rfl,rfl,rfl,rfl,rfl,trivial⟩ ?_ ?_
  ·exact ⟨by simp,b_h,Chg.refl _ _,r0,fun b e=> .inl e,r0.sl⟩
  clear b_h
  rintro ⟨k,g⟩ w3 ⟨hk3,b_h,hd3,r3,hgb,l3⟩
  dsimp only at hk3 r3 hgb ⊢
  have z3:=hd3.size
  refine Ae<|Ae<|Ab<|Lw.val (Ad O) O<|Lw.val (Bh O O) O<|Af<|Aa<|Cw.out<|Au O ?_ ?_
  ·intro h
   have hk' :k<40:=by simp at h;omega
   refine Aq<|Aa<|Cw.out<|Ae<|Cw.block<|Ab<|Lw.val (Ad O) O<|Lw.val (Ag (q:=0) Tryz.underlying138 O (sz_3 _) O) O<|Lw.val (Aj (ag_3 _) O (by assumption) O) O ?_
   refine Cd 30 (v' := .int .i64 hs[i].n) O (congrArg (Value.int .i64) en)<|Al O O (markNumber_c hs[i].n w3 hnum) ?_
   rintro _ w4 ⟨rfl,hn4⟩
   refine Bl (Cp (vs:=[mkNumber hs[i].n]) st_31 it_21 O O O O O) O ?_
   rintro nv w5 ⟨o5, -,hn5, -⟩
   have hn35:=bt hn4 hn5
   have z5:=hn35.size
   have r5:=r3.bs hn35
   refine Bl (Xw.appendK (base:=base) st_31 it_21 O (by decide) O O r5 (own_sl o5) O (by omega) (by omega) (by omega) (Nat.le_refl _)) O ?_
   rintro g' w6 ⟨r6,hg6,hcase⟩
   have l5:=l3.bs hn35
   have b5:=b_h.bs hn35
   have e6:marks mkNumber (hs[i].k+k) hs[i].n++[mkNumber hs[i].n]=marks mkNumber (hs[i].k+(k+1)) hs[i].n:=marks_more
   rw [e6] at r6
   have hgA:some A_h≠g.ownBlock:=fun e=>by
    rcases hgb _ e.symm with h2|h2
    ·have:=hvb _ h2;omega
    ·omega
   have l6:Sl w6 1 hs[i].v hs[i].k (marks mkNumber hs[i].k hs[i].n):=grow_keeps r0 (.inl r6) hg6 hcase l5 (by omega) (by simp [marks])
   have hgb' :∀b,g'.ownBlock=some b→hs[i].v.ownBlock=some b∨w2.heap.size≤b:=fun b e=>by
    rcases hcase with h2|⟨h2, -⟩
    ·rw [h2] at e;exact hgb b e
    ·exact .inr (by have:=h2 b e;omega)
   refine Lw.val (Ac O) O<|Af<|Bo<|Aa<|Cw.out<|Ab<|Lw.val (Ad O) O<|Lw.val (Bc O O (by omega)) O<|Lw.val (Ac O) O<|Af ?_
   exact Aa (Bq ((k+1,g')) ⟨rfl,rfl,rfl,rfl,rfl,trivial⟩ (⟨hk',b5.by hg6 hgA,(hd3.below hn35).grown hg6 hgb, .inl r6,hgb',l6⟩) (by simp only;omega))
  intro h
  have hk' :k=40:=by simp at h;omega
  subst hk'
  have hall:Chg (fun b=>hs[i].v.ownBlock=some b) w1 w3:=(Chg.of_below hn2).trans hd3
  have hcS:Chg (fun b=>blks hs b∨u.ownBlock=some b) w w3:=hc.trans (hall.mono fun b e=> .inl ⟨_,hm,e⟩)
  have b3:=hA.chg hcS (fun e=>e.elim hb1 hb3)
  have o3:=own_chg o1 hall (fun b e1 e2=>hb2 b e1 ⟨_,hm,e2⟩)
  refine Bi<|Am<|Am<|Az<|Aa<|Cw.out<|Ab<|Lw.val (Ad O) O<|Lw.val (Be O) O<|Lw.val (Ag (q:=0) Tryz.underlying56 O (sz_42 _) O) O<|Lw.val (Aj (ag_42 _) O b3 hu) O<|Lw.val (Ad O) O<|Lw.val (Ad O) O<|Lw.val (Bz st_42 O O (own_sl o3) i O hi') O<|Lw.val (Ch Tryz.underlying138 O (sz_31 _) O (own_some o3 (by omega))) O<|Ay (Cv (j:=i*3+1) (sz_31 _) O O r3.sl.one' o3 (by rw [hcells_len];omega)) ?_
  rintro w4 ⟨o4,hg4, -⟩
  have e4:=hcells_set hit g
  have o4:w4.ownsRow lo 138 3 u hs.length (hcells (ts.set i {ts[i] with g:=g})):=by rw [← e4];exact o4
  have hG4:=hG.set hi' hit (g:=g) (fun b e=>by
   rcases hgb b e with h2|h2
   ·exact .inl h2
   ·exact .inr (by omega))
  have hall4:Chg (fun b=>hs[i].v.ownBlock=some b∨u.ownBlock=some b) w1 w4:=(hall.mono fun b e=> .inl e).grown hg4 (fun b e=> .inl (.inr e))
  have hS4:Chg (fun b=>blks hs b∨u.ownBlock=some b) w w4:=hcS.grown hg4 (fun b e=> .inl (.inr e))
  have t4:Tall w4 mkNumber {ts[i] with g:=g}:=by
   refine ⟨?_, ?_⟩
   ·simp only;rw [ev,ek,en]
    refine l3.by hg4 ?_
    cases hv:hs[i].v.ownBlock with
    |none=>exact .inl rfl
    |some b=>exact .inr fun e=>hb2 b e.symm ⟨_,hm,hv⟩
   ·simp only;rw [ek,en]
    refine r3.sl.by hg4 ?_
    cases hv:g.ownBlock with
    |none=>exact .inl rfl
    |some b=>
     refine .inr fun e=> ?_
     rcases hgb b hv with h2|h2
     ·exact hb2 b e.symm ⟨_,hm,h2⟩
     ·have:=(own_block ho b e.symm).2;omega
  have h14:∀t ∈ ts.set i {ts[i] with g:=g},t.g.oneCell' =true:=fun t htm=>by
   rcases List.mem_or_eq_of_mem_set htm with h2|h2
   ·exact h1 t h2
   ·rw [h2];exact r3.sl.one'
  have hd4:∀j (hj:j<(ts.set i {ts[i] with g:=g}).length),j<i+1→Tall w4 mkNumber (ts.set i {ts[i] with g:=g})[j]:=fun j hj hji=>by
    rw [List.getElem_set]
    split
    ·exact t4
    ·rename_i hne
     have hj' :j<ts.length:=by simpa using hj
     obtain ⟨fv,_,_,fg⟩:=hG.all j (by omega) hj'
     refine (hd j hj' (by omega)).chg hall4 (fun b e1 _ e2=> ?_) (fun b e1 _ e2=> ?_)
     ·rw [fv] at e1
      rcases e2 with e2|e2
      ·exact apart_ne hk.apart hi' (show j<hs.length by omega) hne b e2 e1
      ·exact hb2 b e2 ⟨_,List.getElem_mem _,e1⟩
     ·rcases e2 with e2|e2
      ·rcases fg b e1 with h2|h2
       ·exact apart_ne hk.apart hi' (show j<hs.length by omega) hne b e2 h2
       ·have:=hvb b e2;omega
      ·rcases fg b e1 with h2|h2
       ·exact hb2 b e2 ⟨_,List.getElem_mem _,h2⟩
       ·have:=(own_block ho b e2).2;omega
  have ht4:∀j (hj:j<hs.length),i+1≤j→KRow w4 base 21 1 hs[j].v hs[j].k (marks mkNumber hs[j].k hs[j].n):=fun j hj hji=>(ht j hj (by omega)).chg hall4 (fun b e1 e2=>(by
    rcases e2 with e2|e2
    ·exact apart_ne hk.apart hi' hj (by omega) b e2 e1
    ·exact hb2 b e2 ⟨_,List.getElem_mem _,e1⟩))
  refine Af<|Bo<|Aa<|Cw.out<|Ab<|Lw.val (Ad O) O<|Lw.val (Bc O O (by omega)) O<|Lw.val (Ac O) O<|Af ?_
  exact Aa (Bq ((i+1,ts.set i {ts[i] with g:=g})) ⟨rfl,rfl,trivial⟩ (⟨hi',hG4,h14,hS4,o4,hd4,ht4⟩) (by simp only;omega))
 intro h
 have hi' :i=hs.length:=by simp at h;omega
 refine Bi<|Am<|Am<|Az<|Cf O ?_
 refine ⟨rfl,hc,ts,hG,o1,fun t htm=> ?_⟩
 obtain ⟨j,hj,rfl⟩:=List.mem_iff_getElem.1 htm
 exact hd j hj (by omega)

theorem lookNumber_c (A:Nat) (book:List Value) (u:Value) (ts:List Hd) (lo:Nat) (w:World) (hA:Blk w A bookT book) (hu:book[3]? =some u) (ho:w.ownsRow lo 138 3 u ts.length (hcells ts)) (ht:∀t ∈ ts,Tall w mkNumber t) (hn:∀t ∈ ts,(0≤t.n∧t.n≤4000000)∧t.k≤16777216):
  Fnc Tryz.prog 84 [.pointer (some ⟨A,0,none⟩)] w (fun r w' =>r= .bool true∧Below w.heap.size w w'):=by
 have hle:=(own_sl ho).le
 refine Ap (n:=64) Tryz.func84 (by kernel_rfl) O O O<|Ae<|Ab<|Lw.val (Ac O) O<|Af<|Aa<|Cw.out<|Ae<|Ae<|Ab<|Lw.val (Ac O) O<|Af<|Aa<|Cw.out<|Cw.block ?_
 refine Bj (S:=Nat) (fun i=>[(0, .pointer (some ⟨A,0,none⟩)),(2, .bool false),(3, .int .i64 (i:Int))]) (fun i w' =>i≤ts.length∧Below w.heap.size w w') (fun i=>ts.length - i) (0) ⟨rfl,rfl,rfl,trivial⟩ ?_ ?_
 ·exact ⟨by omega,Below.refl _ _⟩
 rintro i w1 ⟨hi,hw1⟩
 have b1:=hA.bs hw1
 have s1:=(own_sl ho).bs hw1
 refine Ae<|Ae<|Ab<|Lw.val (Ad O) O<|Lw.val (Ad O) O<|Lw.val (Be O) O<|Lw.val (Ag (q:=0) Tryz.underlying56 O (sz_42 _) O) O<|Lw.val (Aj (ag_42 _) O b1 hu) O<|Lw.val (Av (sz:=3) st_42 O s1) O<|Lw.val (Bh O O) O<|Af<|Aa<|Cw.out<|Au O ?_ ?_
 ·intro h
  have hi' :i<ts.length:=by simp at h;omega
  have hm:=List.getElem_mem hi'
  obtain ⟨hnum,hfew⟩:=hn _ hm
  have t1:=ht _ hm
  refine Aq<|Aa<|Cw.out<|Ae<|Cw.block<|Ae<|Ab<|Lw.val (Ad O) O<|Lw.val (Be O) O<|Lw.val (Ag (q:=0) Tryz.underlying56 O (sz_42 _) O) O<|Lw.val (Aj (ag_42 _) O b1 hu) O<|Lw.val (Ad O) O<|Lw.val (Bz st_42 O O s1 i O hi') O<|Lw.val (Cc (cs:=ts[i].cells) (ag_138 _) (sz_138 _) O s1 O (by decide) (hcells_three hi')) O<|Cb (cs:=ts[i].cells) it_138 O O O O (fun _=>rfl) (by simp [Hd.cells,t1.l.one',t1.g.one',int_one]) ?_
  rintro A_h w2 eA_h b_h hn2 zhn2
  have hw2:=bt hw1 hn2
  have l2:=t1.l.bs hw2
  have g2:=t1.g.bs hw2
  refine Af<|Aa<|Cw.out<|Ae<|Ae<|Ab<|Lw.val (Ag (q:=0) Tryz.underlying138 O (sz_31 _) O) O<|Lw.val (Aj (ag_31 _) O (by assumption) O) O ?_
  refine Lw.val (Av (sz:=1) st_31 O g2) O<|Lw.val (Ag (q:=0) Tryz.underlying138 O (sz_31 _) O) O<|Lw.val (Aj (ag_31 _) O (by assumption) O) O ?_
  refine Lw.val (Av (sz:=1) st_31 O l2) O<|Lw.val (Bc O O (by omega)) O<|Lw.val (B7 O O) O<|Af<|Aa<|Cw.out<|Bs O false (by simp)<|Aq<|Aa<|Cw.out<|Ae<|Ab<|Lw.val (Ac O) O<|Af<|Aa<|Cw.out<|Cw.block ?_
  refine Bj (S:=Nat) (fun k=>[(0, .pointer (some ⟨A,0,none⟩)),(2, .bool false),(3, .int .i64 (i:Int)),(4, .pointer (some ⟨A_h,0,none⟩)),(5, .int .i64 (k:Int))]) (fun k w' =>k≤ts[i].k+40∧Below w2.heap.size w2 w') (fun k=>ts[i].k+40 - k) (0) ⟨rfl,rfl,rfl,rfl,rfl,trivial⟩ ?_ ?_
  ·exact ⟨by omega,Below.refl _ _⟩
  rintro k w3 ⟨hk3,hw3⟩
  have l3:=l2.bs hw3
  have g3:=g2.bs hw3
  have b3:=b_h.bs hw3
  refine Ae<|Ae<|Ab<|Lw.val (Ad O) O<|Lw.val (Ag (q:=0) Tryz.underlying138 O (sz_31 _) O) O<|Lw.val (Aj (ag_31 _) O (by assumption) O) O ?_
  refine Lw.val (Av (sz:=1) st_31 O g3) O<|Lw.val (Bh O O) O<|Af<|Aa<|Cw.out<|Au O ?_ ?_
  ·intro h
   have hk' :k<ts[i].k+40:=by simp at h;omega
   refine Aq<|Aa<|Cw.out<|Ae<|Cw.block<|Ae<|B5 mixed (by kernel_rfl)<|Qw.val (fun w1 hq=>Ag (q:=0) Tryz.underlying138 O (sz_31 _) O) O<|Qw.val (fun w1 hq=>Aj (ag_31 _) O (Blk.bs (by assumption) hq) O) O ?_
   refine Qw.val (fun w1 hq=>Ad O) O<|Qw.val (fun w1 hq=>Cm st_31 O O g3.shp k O hk') O<|Qw.val (fun w1 hq=>C6 (u:=mkNumber ts[i].n) (ag_21 _) O (g3.bs hq) (marks_get hk')) O<|Qw.val (fun w1 hq=>Ag (q:=0) Tryz.underlying138 O (sz_3 _) O) O<|Qw.val (fun w1 hq=>Aj (ag_3 _) O (Blk.bs (by assumption) hq) O) O ?_
   refine B9 O O (fun w1 hq=>(isNumber_c ts[i].n w1 hnum).q hq)<|Qw.val (fun w1 hq=>Bx O) O<|Qw.val (fun w1 hq=>Ad O) O<|Qw.know 46 (v' := .bool false) O (congrArg Value.bool (rfl))<|Qw.take (dj:=46) O O<|Qw.val (fun w1 hq=>Ad O) O<|Qw.take (dj:=46) O O<|Qw.val (fun w1 hq=>Ag (q:=0) Tryz.underlying138 O (sz_31 _) O) O<|Qw.take (dj:=46) O O<|Qw.val (fun w1 hq=>Aj (ag_31 _) O (Blk.bs (by assumption) hq) O) O ?_
   refine Qw.take (dj:=46) O O<|Qw.val (fun w1 hq=>Av (sz:=1) st_31 O (l3.bs hq)) O<|Qw.take (dj:=46) O O<|Qw.val (fun w1 hq=>Bh O O) O<|Qw.take (dj:=46) O O<|Qw.val (fun w1 hq=>Ad O) O ?_
   refine Cl 52 O ?_ ?_
   ·intro g
    have hkl:k<ts[i].k:=by simpa using g
    refine Qw.take (dj:=52) O O<|Qw.val (fun w1 hq=>Ag (q:=0) Tryz.underlying138 O (sz_31 _) O) O<|Qw.take (dj:=52) O O<|Qw.val (fun w1 hq=>Aj (ag_31 _) O (Blk.bs (by assumption) hq) O) O ?_
    refine Qw.take (dj:=52) O O<|Qw.val (fun w1 hq=>Ad O) O<|Qw.take (dj:=52) O O<|Qw.val (fun w1 hq=>Cm st_31 O O l3.shp k O hkl) O<|Qw.take (dj:=52) O O<|Qw.val (fun w1 hq=>C6 (u:=mkNumber ts[i].n) (ag_21 _) O (l3.bs hq) (marks_get hkl)) O<|Qw.take (dj:=52) O O<|Qw.val (fun w1 hq=>Ag (q:=0) Tryz.underlying138 O (sz_3 _) O) O<|Qw.take (dj:=52) O O<|Qw.val (fun w1 hq=>Aj (ag_3 _) O (Blk.bs (by assumption) hq) O) O ?_
    refine Qw.take (dj:=52) O O<|B9 O O (fun w1 hq=>(isNumber_c ts[i].n w1 hnum).q hq)<|Qw.take (dj:=52) O O<|Qw.val (fun w1 hq=>Bx O) O<|Qw.take (dj:=46) O O<|Qw.val (fun w1 hq=>As O O) O<|Qw.val (fun w1 hq=>Bd O O) O ?_
    refine B3 (fun w4 hq=> ?_)
    refine Aa<|Cw.out<|Bs O false (rfl)<|Aq<|Bo<|Aa<|Cw.out<|Ab<|Lw.val (Ad O) O<|Lw.val (Bc O O (by omega)) O<|Lw.val (Ac O) O<|Af ?_
    exact Aa (Bq (k+1) ⟨rfl,rfl,rfl,rfl,rfl,trivial⟩ (⟨hk',bt hw3 hq⟩) (by omega))
   ·intro g
    refine Ao (dj:=52) O O O O<|Ao (dj:=52) O O O O<|Ao (dj:=52) O O O O<|Ao (dj:=52) O O O O<|Ao (dj:=52) O O O O<|Ao (dj:=52) O O O O<|Ao (dj:=52) O O O O<|Ao (dj:=52) O O O O<|Ao (dj:=52) O O O O<|Qw.take (dj:=46) O O<|Qw.val (fun w1 hq=>Bd O O) O<|Qw.val (fun w1 hq=>Bd O O) O ?_
    refine B3 (fun w4 hq=> ?_)
    refine Aa<|Cw.out<|C9 O<|Aq<|Bo<|Aa<|Cw.out<|Ab<|Lw.val (Ad O) O<|Lw.val (Bc O O (by omega)) O<|Lw.val (Ac O) O<|Af ?_
    exact Aa (Bq (k+1) ⟨rfl,rfl,rfl,rfl,rfl,trivial⟩ (⟨hk',bt hw3 hq⟩) (by omega))
  intro h
  refine Bi<|Am<|Am<|Az<|Bo<|Aa<|Cw.out<|Ab<|Lw.val (Ad O) O<|Lw.val (Bc O O (by omega)) O<|Lw.val (Ac O) O<|Af ?_
  exact Aa (Bq (i+1) ⟨rfl,rfl,rfl,trivial⟩ (⟨hi',bt hw2 hw3⟩) (by omega))
 intro h
 refine Bi<|Am<|Am<|Az<|Aa<|Cw.out<|Ae<|Ab<|Lw.val (Ac O) O<|Af<|Aa<|Cw.out<|An<|Bb O O ?_
 exact ⟨rfl,hw1⟩

theorem fillId_c (A:Nat) (book:List Value) (w:World) (hA:Blk w A bookT book) (hu:book[4]? =some (.slice none 0 0)):Fnc Tryz.prog 55 [.pointer (some ⟨A,0,none⟩)] w (fun r w' =>r= .tuple #[]∧w=w'):=by
 refine Ap (n:=35) Tryz.func55 (by kernel_rfl) O O O<|Ae<|Ab<|Lw.val (Ac O) O<|Af<|Aa<|Cw.out<|Cw.block ?_
 refine Bj (S:=Unit) (fun s=>[(0, .pointer (some ⟨A,0,none⟩)),(2, .int .i64 0)]) (fun s w' =>w=w') (fun s=>0) (()) ⟨rfl,rfl,trivial⟩ ?_ ?_
 ·rfl
 rintro _ _ rfl
 refine Ae<|Ae<|Ab<|Lw.val (Ad O) O<|Lw.val (Ad O) O<|Lw.val (Be O) O<|Lw.val (Ag (q:=0) Tryz.underlying56 O (sz_43 _) O) O<|Lw.val (Aj (ag_43 _) O hA hu) O<|Lw.val (Av (sz:=3) st_43 O (Sl.nil _ _)) O<|Lw.val (Bh O O) O<|Af<|Aa<|Cw.out<|Bs O false (rfl)<|Bi<|Am<|Am<|Az<|Cf O ?_
 exact ⟨rfl,rfl⟩
theorem growId_c (A:Nat) (book:List Value) (w:World) (hA:Blk w A bookT book) (hu:book[4]? =some (.slice none 0 0)):Fnc Tryz.prog 70 [.pointer (some ⟨A,0,none⟩)] w (fun r w' =>r= .tuple #[]∧w=w'):=by
 refine Ap (n:=42) Tryz.func70 (by kernel_rfl) O O O<|Ae<|Ab<|Lw.val (Ac O) O<|Af<|Aa<|Cw.out<|Cw.block ?_
 refine Bj (S:=Unit) (fun s=>[(0, .pointer (some ⟨A,0,none⟩)),(2, .int .i64 0)]) (fun s w' =>w=w') (fun s=>0) (()) ⟨rfl,rfl,trivial⟩ ?_ ?_
 ·rfl
 rintro _ _ rfl
 refine Ae<|Ae<|Ab<|Lw.val (Ad O) O<|Lw.val (Ad O) O<|Lw.val (Be O) O<|Lw.val (Ag (q:=0) Tryz.underlying56 O (sz_43 _) O) O<|Lw.val (Aj (ag_43 _) O hA hu) O<|Lw.val (Av (sz:=3) st_43 O (Sl.nil _ _)) O<|Lw.val (Bh O O) O<|Af<|Aa<|Cw.out<|Bs O false (rfl)<|Bi<|Am<|Am<|Az<|Cf O ?_
 exact ⟨rfl,rfl⟩
theorem lookId_c (A:Nat) (book:List Value) (w:World) (hA:Blk w A bookT book) (hu:book[4]? =some (.slice none 0 0)):Fnc Tryz.prog 85 [.pointer (some ⟨A,0,none⟩)] w (fun r w' =>r= .bool true∧w=w'):=by
 refine Ap (n:=64) Tryz.func85 (by kernel_rfl) O O O<|Ae<|Ab<|Lw.val (Ac O) O<|Af<|Aa<|Cw.out<|Ae<|Ae<|Ab<|Lw.val (Ac O) O<|Af<|Aa<|Cw.out<|Cw.block ?_
 refine Bj (S:=Unit) (fun s=>[(0, .pointer (some ⟨A,0,none⟩)),(2, .bool false),(3, .int .i64 0)]) (fun s w' =>w=w') (fun s=>0) (()) ⟨rfl,rfl,rfl,trivial⟩ ?_ ?_
 ·rfl
 rintro _ _ rfl
 refine Ae<|Ae<|Ab<|Lw.val (Ad O) O<|Lw.val (Ad O) O<|Lw.val (Be O) O<|Lw.val (Ag (q:=0) Tryz.underlying56 O (sz_43 _) O) O<|Lw.val (Aj (ag_43 _) O hA hu) O<|Lw.val (Av (sz:=3) st_43 O (Sl.nil _ _)) O<|Lw.val (Bh O O) O<|Af<|Aa<|Cw.out<|Bs O false (rfl)<|Bi<|Am<|Am<|Az<|Aa<|Cw.out<|Ae<|Ab<|Lw.val (Ac O) O<|Af<|Aa<|Cw.out<|An<|Bb O O ?_
 exact ⟨rfl,rfl⟩
theorem fillText_c (A:Nat) (book:List Value) (w:World) (hA:Blk w A bookT book) (hu:book[5]? =some (.slice none 0 0)):Fnc Tryz.prog 56 [.pointer (some ⟨A,0,none⟩)] w (fun r w' =>r= .tuple #[]∧w=w'):=by
 refine Ap (n:=35) Tryz.func56 (by kernel_rfl) O O O<|Ae<|Ab<|Lw.val (Ac O) O<|Af<|Aa<|Cw.out<|Cw.block ?_
 refine Bj (S:=Unit) (fun s=>[(0, .pointer (some ⟨A,0,none⟩)),(2, .int .i64 0)]) (fun s w' =>w=w') (fun s=>0) (()) ⟨rfl,rfl,trivial⟩ ?_ ?_
 ·rfl
 rintro _ _ rfl
 refine Ae<|Ae<|Ab<|Lw.val (Ad O) O<|Lw.val (Ad O) O<|Lw.val (Be O) O<|Lw.val (Ag (q:=0) Tryz.underlying56 O (sz_44 _) O) O<|Lw.val (Aj (ag_44 _) O hA hu) O<|Lw.val (Av (sz:=3) st_44 O (Sl.nil _ _)) O<|Lw.val (Bh O O) O<|Af<|Aa<|Cw.out<|Bs O false (rfl)<|Bi<|Am<|Am<|Az<|Cf O ?_
 exact ⟨rfl,rfl⟩
theorem growText_c (A:Nat) (book:List Value) (w:World) (hA:Blk w A bookT book) (hu:book[5]? =some (.slice none 0 0)):Fnc Tryz.prog 71 [.pointer (some ⟨A,0,none⟩)] w (fun r w' =>r= .tuple #[]∧w=w'):=by
 refine Ap (n:=42) Tryz.func71 (by kernel_rfl) O O O<|Ae<|Ab<|Lw.val (Ac O) O<|Af<|Aa<|Cw.out<|Cw.block ?_
 refine Bj (S:=Unit) (fun s=>[(0, .pointer (some ⟨A,0,none⟩)),(2, .int .i64 0)]) (fun s w' =>w=w') (fun s=>0) (()) ⟨rfl,rfl,trivial⟩ ?_ ?_
 ·rfl
 rintro _ _ rfl
 refine Ae<|Ae<|Ab<|Lw.val (Ad O) O<|Lw.val (Ad O) O<|Lw.val (Be O) O<|Lw.val (Ag (q:=0) Tryz.underlying56 O (sz_44 _) O) O<|Lw.val (Aj (ag_44 _) O hA hu) O<|Lw.val (Av (sz:=3) st_44 O (Sl.nil _ _)) O<|Lw.val (Bh O O) O<|Af<|Aa<|Cw.out<|Bs O false (rfl)<|Bi<|Am<|Am<|Az<|Cf O ?_
 exact ⟨rfl,rfl⟩
theorem lookText_c (A:Nat) (book:List Value) (w:World) (hA:Blk w A bookT book) (hu:book[5]? =some (.slice none 0 0)):Fnc Tryz.prog 86 [.pointer (some ⟨A,0,none⟩)] w (fun r w' =>r= .bool true∧w=w'):=by
 refine Ap (n:=64) Tryz.func86 (by kernel_rfl) O O O<|Ae<|Ab<|Lw.val (Ac O) O<|Af<|Aa<|Cw.out<|Ae<|Ae<|Ab<|Lw.val (Ac O) O<|Af<|Aa<|Cw.out<|Cw.block ?_
 refine Bj (S:=Unit) (fun s=>[(0, .pointer (some ⟨A,0,none⟩)),(2, .bool false),(3, .int .i64 0)]) (fun s w' =>w=w') (fun s=>0) (()) ⟨rfl,rfl,rfl,trivial⟩ ?_ ?_
 ·rfl
 rintro _ _ rfl
 refine Ae<|Ae<|Ab<|Lw.val (Ad O) O<|Lw.val (Ad O) O<|Lw.val (Be O) O<|Lw.val (Ag (q:=0) Tryz.underlying56 O (sz_44 _) O) O<|Lw.val (Aj (ag_44 _) O hA hu) O<|Lw.val (Av (sz:=3) st_44 O (Sl.nil _ _)) O<|Lw.val (Bh O O) O<|Af<|Aa<|Cw.out<|Bs O false (rfl)<|Bi<|Am<|Am<|Az<|Aa<|Cw.out<|Ae<|Ab<|Lw.val (Ac O) O<|Af<|Aa<|Cw.out<|An<|Bb O O ?_
 exact ⟨rfl,rfl⟩
theorem fillStep_c (A:Nat) (book:List Value) (w:World) (hA:Blk w A bookT book) (hu:book[8]? =some (.slice none 0 0)):Fnc Tryz.prog 59 [.pointer (some ⟨A,0,none⟩)] w (fun r w' =>r= .tuple #[]∧w=w'):=by
 refine Ap (n:=35) Tryz.func59 (by kernel_rfl) O O O<|Ae<|Ab<|Lw.val (Ac O) O<|Af<|Aa<|Cw.out<|Cw.block ?_
 refine Bj (S:=Unit) (fun s=>[(0, .pointer (some ⟨A,0,none⟩)),(2, .int .i64 0)]) (fun s w' =>w=w') (fun s=>0) (()) ⟨rfl,rfl,trivial⟩ ?_ ?_
 ·rfl
 rintro _ _ rfl
 refine Ae<|Ae<|Ab<|Lw.val (Ad O) O<|Lw.val (Ad O) O<|Lw.val (Be O) O<|Lw.val (Ag (q:=0) Tryz.underlying56 O (sz_47 _) O) O<|Lw.val (Aj (ag_47 _) O hA hu) O<|Lw.val (Av (sz:=3) st_47 O (Sl.nil _ _)) O<|Lw.val (Bh O O) O<|Af<|Aa<|Cw.out<|Bs O false (rfl)<|Bi<|Am<|Am<|Az<|Cf O ?_
 exact ⟨rfl,rfl⟩
theorem growStep_c (A:Nat) (book:List Value) (w:World) (hA:Blk w A bookT book) (hu:book[8]? =some (.slice none 0 0)):Fnc Tryz.prog 74 [.pointer (some ⟨A,0,none⟩)] w (fun r w' =>r= .tuple #[]∧w=w'):=by
 refine Ap (n:=42) Tryz.func74 (by kernel_rfl) O O O<|Ae<|Ab<|Lw.val (Ac O) O<|Af<|Aa<|Cw.out<|Cw.block ?_
 refine Bj (S:=Unit) (fun s=>[(0, .pointer (some ⟨A,0,none⟩)),(2, .int .i64 0)]) (fun s w' =>w=w') (fun s=>0) (()) ⟨rfl,rfl,trivial⟩ ?_ ?_
 ·rfl
 rintro _ _ rfl
 refine Ae<|Ae<|Ab<|Lw.val (Ad O) O<|Lw.val (Ad O) O<|Lw.val (Be O) O<|Lw.val (Ag (q:=0) Tryz.underlying56 O (sz_47 _) O) O<|Lw.val (Aj (ag_47 _) O hA hu) O<|Lw.val (Av (sz:=3) st_47 O (Sl.nil _ _)) O<|Lw.val (Bh O O) O<|Af<|Aa<|Cw.out<|Bs O false (rfl)<|Bi<|Am<|Am<|Az<|Cf O ?_
 exact ⟨rfl,rfl⟩
theorem lookStep_c (A:Nat) (book:List Value) (w:World) (hA:Blk w A bookT book) (hu:book[8]? =some (.slice none 0 0)):Fnc Tryz.prog 89 [.pointer (some ⟨A,0,none⟩)] w (fun r w' =>r= .bool true∧w=w'):=by
 refine Ap (n:=64) Tryz.func89 (by kernel_rfl) O O O<|Ae<|Ab<|Lw.val (Ac O) O<|Af<|Aa<|Cw.out<|Ae<|Ae<|Ab<|Lw.val (Ac O) O<|Af<|Aa<|Cw.out<|Cw.block ?_
 refine Bj (S:=Unit) (fun s=>[(0, .pointer (some ⟨A,0,none⟩)),(2, .bool false),(3, .int .i64 0)]) (fun s w' =>w=w') (fun s=>0) (()) ⟨rfl,rfl,rfl,trivial⟩ ?_ ?_
 ·rfl
 rintro _ _ rfl
 refine Ae<|Ae<|Ab<|Lw.val (Ad O) O<|Lw.val (Ad O) O<|Lw.val (Be O) O<|Lw.val (Ag (q:=0) Tryz.underlying56 O (sz_47 _) O) O<|Lw.val (Aj (ag_47 _) O hA hu) O<|Lw.val (Av (sz:=3) st_47 O (Sl.nil _ _)) O<|Lw.val (Bh O O) O<|Af<|Aa<|Cw.out<|Bs O false (rfl)<|Bi<|Am<|Am<|Az<|Aa<|Cw.out<|Ae<|Ab<|Lw.val (Ac O) O<|Af<|Aa<|Cw.out<|An<|Bb O O ?_
 exact ⟨rfl,rfl⟩
theorem fillCost_c (A:Nat) (book:List Value) (w:World) (hA:Blk w A bookT book) (hu:book[9]? =some (.slice none 0 0)):Fnc Tryz.prog 60 [.pointer (some ⟨A,0,none⟩)] w (fun r w' =>r= .tuple #[]∧w=w'):=by
 refine Ap (n:=35) Tryz.func60 (by kernel_rfl) O O O<|Ae<|Ab<|Lw.val (Ac O) O<|Af<|Aa<|Cw.out<|Cw.block ?_
 refine Bj (S:=Unit) (fun s=>[(0, .pointer (some ⟨A,0,none⟩)),(2, .int .i64 0)]) (fun s w' =>w=w') (fun s=>0) (()) ⟨rfl,rfl,trivial⟩ ?_ ?_
 ·rfl
 rintro _ _ rfl
 refine Ae<|Ae<|Ab<|Lw.val (Ad O) O<|Lw.val (Ad O) O<|Lw.val (Be O) O<|Lw.val (Ag (q:=0) Tryz.underlying56 O (sz_48 _) O) O<|Lw.val (Aj (ag_48 _) O hA hu) O<|Lw.val (Av (sz:=3) st_48 O (Sl.nil _ _)) O<|Lw.val (Bh O O) O<|Af<|Aa<|Cw.out<|Bs O false (rfl)<|Bi<|Am<|Am<|Az<|Cf O ?_
 exact ⟨rfl,rfl⟩
theorem growCost_c (A:Nat) (book:List Value) (w:World) (hA:Blk w A bookT book) (hu:book[9]? =some (.slice none 0 0)):Fnc Tryz.prog 75 [.pointer (some ⟨A,0,none⟩)] w (fun r w' =>r= .tuple #[]∧w=w'):=by
 refine Ap (n:=42) Tryz.func75 (by kernel_rfl) O O O<|Ae<|Ab<|Lw.val (Ac O) O<|Af<|Aa<|Cw.out<|Cw.block ?_
 refine Bj (S:=Unit) (fun s=>[(0, .pointer (some ⟨A,0,none⟩)),(2, .int .i64 0)]) (fun s w' =>w=w') (fun s=>0) (()) ⟨rfl,rfl,trivial⟩ ?_ ?_
 ·rfl
 rintro _ _ rfl
 refine Ae<|Ae<|Ab<|Lw.val (Ad O) O<|Lw.val (Ad O) O<|Lw.val (Be O) O<|Lw.val (Ag (q:=0) Tryz.underlying56 O (sz_48 _) O) O<|Lw.val (Aj (ag_48 _) O hA hu) O<|Lw.val (Av (sz:=3) st_48 O (Sl.nil _ _)) O<|Lw.val (Bh O O) O<|Af<|Aa<|Cw.out<|Bs O false (rfl)<|Bi<|Am<|Am<|Az<|Cf O ?_
 exact ⟨rfl,rfl⟩
theorem lookCost_c (A:Nat) (book:List Value) (w:World) (hA:Blk w A bookT book) (hu:book[9]? =some (.slice none 0 0)):Fnc Tryz.prog 90 [.pointer (some ⟨A,0,none⟩)] w (fun r w' =>r= .bool true∧w=w'):=by
 refine Ap (n:=64) Tryz.func90 (by kernel_rfl) O O O<|Ae<|Ab<|Lw.val (Ac O) O<|Af<|Aa<|Cw.out<|Ae<|Ae<|Ab<|Lw.val (Ac O) O<|Af<|Aa<|Cw.out<|Cw.block ?_
 refine Bj (S:=Unit) (fun s=>[(0, .pointer (some ⟨A,0,none⟩)),(2, .bool false),(3, .int .i64 0)]) (fun s w' =>w=w') (fun s=>0) (()) ⟨rfl,rfl,rfl,trivial⟩ ?_ ?_
 ·rfl
 rintro _ _ rfl
 refine Ae<|Ae<|Ab<|Lw.val (Ad O) O<|Lw.val (Ad O) O<|Lw.val (Be O) O<|Lw.val (Ag (q:=0) Tryz.underlying56 O (sz_48 _) O) O<|Lw.val (Aj (ag_48 _) O hA hu) O<|Lw.val (Av (sz:=3) st_48 O (Sl.nil _ _)) O<|Lw.val (Bh O O) O<|Af<|Aa<|Cw.out<|Bs O false (rfl)<|Bi<|Am<|Am<|Az<|Aa<|Cw.out<|Ae<|Ab<|Lw.val (Ac O) O<|Af<|Aa<|Cw.out<|An<|Bb O O ?_
 exact ⟨rfl,rfl⟩
theorem fillRecord_c (A:Nat) (book:List Value) (w:World) (hA:Blk w A bookT book) (hu:book[10]? =some (.slice none 0 0)):Fnc Tryz.prog 61 [.pointer (some ⟨A,0,none⟩)] w (fun r w' =>r= .tuple #[]∧w=w'):=by
 refine Ap (n:=35) Tryz.func61 (by kernel_rfl) O O O<|Ae<|Ab<|Lw.val (Ac O) O<|Af<|Aa<|Cw.out<|Cw.block ?_
 refine Bj (S:=Unit) (fun s=>[(0, .pointer (some ⟨A,0,none⟩)),(2, .int .i64 0)]) (fun s w' =>w=w') (fun s=>0) (()) ⟨rfl,rfl,trivial⟩ ?_ ?_
 ·rfl
 rintro _ _ rfl
 refine Ae<|Ae<|Ab<|Lw.val (Ad O) O<|Lw.val (Ad O) O<|Lw.val (Be O) O<|Lw.val (Ag (q:=0) Tryz.underlying56 O (sz_49 _) O) O<|Lw.val (Aj (ag_49 _) O hA hu) O<|Lw.val (Av (sz:=3) st_49 O (Sl.nil _ _)) O<|Lw.val (Bh O O) O<|Af<|Aa<|Cw.out<|Bs O false (rfl)<|Bi<|Am<|Am<|Az<|Cf O ?_
 exact ⟨rfl,rfl⟩
theorem growRecord_c (A:Nat) (book:List Value) (w:World) (hA:Blk w A bookT book) (hu:book[10]? =some (.slice none 0 0)):Fnc Tryz.prog 76 [.pointer (some ⟨A,0,none⟩)] w (fun r w' =>r= .tuple #[]∧w=w'):=by
 refine Ap (n:=42) Tryz.func76 (by kernel_rfl) O O O<|Ae<|Ab<|Lw.val (Ac O) O<|Af<|Aa<|Cw.out<|Cw.block ?_
 refine Bj (S:=Unit) (fun s=>[(0, .pointer (some ⟨A,0,none⟩)),(2, .int .i64 0)]) (fun s w' =>w=w') (fun s=>0) (()) ⟨rfl,rfl,trivial⟩ ?_ ?_
 ·rfl
 rintro _ _ rfl
 refine Ae<|Ae<|Ab<|Lw.val (Ad O) O<|Lw.val (Ad O) O<|Lw.val (Be O) O<|Lw.val (Ag (q:=0) Tryz.underlying56 O (sz_49 _) O) O<|Lw.val (Aj (ag_49 _) O hA hu) O<|Lw.val (Av (sz:=3) st_49 O (Sl.nil _ _)) O<|Lw.val (Bh O O) O<|Af<|Aa<|Cw.out<|Bs O false (rfl)<|Bi<|Am<|Am<|Az<|Cf O ?_
 exact ⟨rfl,rfl⟩
theorem lookRecord_c (A:Nat) (book:List Value) (w:World) (hA:Blk w A bookT book) (hu:book[10]? =some (.slice none 0 0)):Fnc Tryz.prog 91 [.pointer (some ⟨A,0,none⟩)] w (fun r w' =>r= .bool true∧w=w'):=by
 refine Ap (n:=64) Tryz.func91 (by kernel_rfl) O O O<|Ae<|Ab<|Lw.val (Ac O) O<|Af<|Aa<|Cw.out<|Ae<|Ae<|Ab<|Lw.val (Ac O) O<|Af<|Aa<|Cw.out<|Cw.block ?_
 refine Bj (S:=Unit) (fun s=>[(0, .pointer (some ⟨A,0,none⟩)),(2, .bool false),(3, .int .i64 0)]) (fun s w' =>w=w') (fun s=>0) (()) ⟨rfl,rfl,rfl,trivial⟩ ?_ ?_
 ·rfl
 rintro _ _ rfl
 refine Ae<|Ae<|Ab<|Lw.val (Ad O) O<|Lw.val (Ad O) O<|Lw.val (Be O) O<|Lw.val (Ag (q:=0) Tryz.underlying56 O (sz_49 _) O) O<|Lw.val (Aj (ag_49 _) O hA hu) O<|Lw.val (Av (sz:=3) st_49 O (Sl.nil _ _)) O<|Lw.val (Bh O O) O<|Af<|Aa<|Cw.out<|Bs O false (rfl)<|Bi<|Am<|Am<|Az<|Aa<|Cw.out<|Ae<|Ab<|Lw.val (Ac O) O<|Af<|Aa<|Cw.out<|An<|Bb O O ?_
 exact ⟨rfl,rfl⟩
theorem fillPlace_c (A:Nat) (book:List Value) (w:World) (hA:Blk w A bookT book) (hu:book[11]? =some (.slice none 0 0)):Fnc Tryz.prog 62 [.pointer (some ⟨A,0,none⟩)] w (fun r w' =>r= .tuple #[]∧w=w'):=by
 refine Ap (n:=35) Tryz.func62 (by kernel_rfl) O O O<|Ae<|Ab<|Lw.val (Ac O) O<|Af<|Aa<|Cw.out<|Cw.block ?_
 refine Bj (S:=Unit) (fun s=>[(0, .pointer (some ⟨A,0,none⟩)),(2, .int .i64 0)]) (fun s w' =>w=w') (fun s=>0) (()) ⟨rfl,rfl,trivial⟩ ?_ ?_
 ·rfl
 rintro _ _ rfl
 refine Ae<|Ae<|Ab<|Lw.val (Ad O) O<|Lw.val (Ad O) O<|Lw.val (Be O) O<|Lw.val (Ag (q:=0) Tryz.underlying56 O (sz_50 _) O) O<|Lw.val (Aj (ag_50 _) O hA hu) O<|Lw.val (Av (sz:=3) st_50 O (Sl.nil _ _)) O<|Lw.val (Bh O O) O<|Af<|Aa<|Cw.out<|Bs O false (rfl)<|Bi<|Am<|Am<|Az<|Cf O ?_
 exact ⟨rfl,rfl⟩
theorem growPlace_c (A:Nat) (book:List Value) (w:World) (hA:Blk w A bookT book) (hu:book[11]? =some (.slice none 0 0)):Fnc Tryz.prog 77 [.pointer (some ⟨A,0,none⟩)] w (fun r w' =>r= .tuple #[]∧w=w'):=by
 refine Ap (n:=42) Tryz.func77 (by kernel_rfl) O O O<|Ae<|Ab<|Lw.val (Ac O) O<|Af<|Aa<|Cw.out<|Cw.block ?_
 refine Bj (S:=Unit) (fun s=>[(0, .pointer (some ⟨A,0,none⟩)),(2, .int .i64 0)]) (fun s w' =>w=w') (fun s=>0) (()) ⟨rfl,rfl,trivial⟩ ?_ ?_
 ·rfl
 rintro _ _ rfl
 refine Ae<|Ae<|Ab<|Lw.val (Ad O) O<|Lw.val (Ad O) O<|Lw.val (Be O) O<|Lw.val (Ag (q:=0) Tryz.underlying56 O (sz_50 _) O) O<|Lw.val (Aj (ag_50 _) O hA hu) O<|Lw.val (Av (sz:=3) st_50 O (Sl.nil _ _)) O<|Lw.val (Bh O O) O<|Af<|Aa<|Cw.out<|Bs O false (rfl)<|Bi<|Am<|Am<|Az<|Cf O ?_
 exact ⟨rfl,rfl⟩
theorem lookPlace_c (A:Nat) (book:List Value) (w:World) (hA:Blk w A bookT book) (hu:book[11]? =some (.slice none 0 0)):Fnc Tryz.prog 92 [.pointer (some ⟨A,0,none⟩)] w (fun r w' =>r= .bool true∧w=w'):=by
 refine Ap (n:=64) Tryz.func92 (by kernel_rfl) O O O<|Ae<|Ab<|Lw.val (Ac O) O<|Af<|Aa<|Cw.out<|Ae<|Ae<|Ab<|Lw.val (Ac O) O<|Af<|Aa<|Cw.out<|Cw.block ?_
 refine Bj (S:=Unit) (fun s=>[(0, .pointer (some ⟨A,0,none⟩)),(2, .bool false),(3, .int .i64 0)]) (fun s w' =>w=w') (fun s=>0) (()) ⟨rfl,rfl,rfl,trivial⟩ ?_ ?_
 ·rfl
 rintro _ _ rfl
 refine Ae<|Ae<|Ab<|Lw.val (Ad O) O<|Lw.val (Ad O) O<|Lw.val (Be O) O<|Lw.val (Ag (q:=0) Tryz.underlying56 O (sz_50 _) O) O<|Lw.val (Aj (ag_50 _) O hA hu) O<|Lw.val (Av (sz:=3) st_50 O (Sl.nil _ _)) O<|Lw.val (Bh O O) O<|Af<|Aa<|Cw.out<|Bs O false (rfl)<|Bi<|Am<|Am<|Az<|Aa<|Cw.out<|Ae<|Ab<|Lw.val (Ac O) O<|Af<|Aa<|Cw.out<|An<|Bb O O ?_
 exact ⟨rfl,rfl⟩
theorem fillAsk_c (A:Nat) (book:List Value) (w:World) (hA:Blk w A bookT book) (hu:book[12]? =some (.slice none 0 0)):Fnc Tryz.prog 63 [.pointer (some ⟨A,0,none⟩)] w (fun r w' =>r= .tuple #[]∧w=w'):=by
 refine Ap (n:=35) Tryz.func63 (by kernel_rfl) O O O<|Ae<|Ab<|Lw.val (Ac O) O<|Af<|Aa<|Cw.out<|Cw.block ?_
 refine Bj (S:=Unit) (fun s=>[(0, .pointer (some ⟨A,0,none⟩)),(2, .int .i64 0)]) (fun s w' =>w=w') (fun s=>0) (()) ⟨rfl,rfl,trivial⟩ ?_ ?_
 ·rfl
 rintro _ _ rfl
 refine Ae<|Ae<|Ab<|Lw.val (Ad O) O<|Lw.val (Ad O) O<|Lw.val (Be O) O<|Lw.val (Ag (q:=0) Tryz.underlying56 O (sz_51 _) O) O<|Lw.val (Aj (ag_51 _) O hA hu) O<|Lw.val (Av (sz:=3) st_51 O (Sl.nil _ _)) O<|Lw.val (Bh O O) O<|Af<|Aa<|Cw.out<|Bs O false (rfl)<|Bi<|Am<|Am<|Az<|Cf O ?_
 exact ⟨rfl,rfl⟩
theorem growAsk_c (A:Nat) (book:List Value) (w:World) (hA:Blk w A bookT book) (hu:book[12]? =some (.slice none 0 0)):Fnc Tryz.prog 78 [.pointer (some ⟨A,0,none⟩)] w (fun r w' =>r= .tuple #[]∧w=w'):=by
 refine Ap (n:=42) Tryz.func78 (by kernel_rfl) O O O<|Ae<|Ab<|Lw.val (Ac O) O<|Af<|Aa<|Cw.out<|Cw.block ?_
 refine Bj (S:=Unit) (fun s=>[(0, .pointer (some ⟨A,0,none⟩)),(2, .int .i64 0)]) (fun s w' =>w=w') (fun s=>0) (()) ⟨rfl,rfl,trivial⟩ ?_ ?_
 ·rfl
 rintro _ _ rfl
 refine Ae<|Ae<|Ab<|Lw.val (Ad O) O<|Lw.val (Ad O) O<|Lw.val (Be O) O<|Lw.val (Ag (q:=0) Tryz.underlying56 O (sz_51 _) O) O<|Lw.val (Aj (ag_51 _) O hA hu) O<|Lw.val (Av (sz:=3) st_51 O (Sl.nil _ _)) O<|Lw.val (Bh O O) O<|Af<|Aa<|Cw.out<|Bs O false (rfl)<|Bi<|Am<|Am<|Az<|Cf O ?_
 exact ⟨rfl,rfl⟩
theorem lookAsk_c (A:Nat) (book:List Value) (w:World) (hA:Blk w A bookT book) (hu:book[12]? =some (.slice none 0 0)):Fnc Tryz.prog 93 [.pointer (some ⟨A,0,none⟩)] w (fun r w' =>r= .bool true∧w=w'):=by
 refine Ap (n:=64) Tryz.func93 (by kernel_rfl) O O O<|Ae<|Ab<|Lw.val (Ac O) O<|Af<|Aa<|Cw.out<|Ae<|Ae<|Ab<|Lw.val (Ac O) O<|Af<|Aa<|Cw.out<|Cw.block ?_
 refine Bj (S:=Unit) (fun s=>[(0, .pointer (some ⟨A,0,none⟩)),(2, .bool false),(3, .int .i64 0)]) (fun s w' =>w=w') (fun s=>0) (()) ⟨rfl,rfl,rfl,trivial⟩ ?_ ?_
 ·rfl
 rintro _ _ rfl
 refine Ae<|Ae<|Ab<|Lw.val (Ad O) O<|Lw.val (Ad O) O<|Lw.val (Be O) O<|Lw.val (Ag (q:=0) Tryz.underlying56 O (sz_51 _) O) O<|Lw.val (Aj (ag_51 _) O hA hu) O<|Lw.val (Av (sz:=3) st_51 O (Sl.nil _ _)) O<|Lw.val (Bh O O) O<|Af<|Aa<|Cw.out<|Bs O false (rfl)<|Bi<|Am<|Am<|Az<|Aa<|Cw.out<|Ae<|Ab<|Lw.val (Ac O) O<|Af<|Aa<|Cw.out<|An<|Bb O O ?_
 exact ⟨rfl,rfl⟩
theorem fillDone_c (A:Nat) (book:List Value) (w:World) (hA:Blk w A bookT book) (hu:book[13]? =some (.slice none 0 0)):Fnc Tryz.prog 64 [.pointer (some ⟨A,0,none⟩)] w (fun r w' =>r= .tuple #[]∧w=w'):=by
 refine Ap (n:=35) Tryz.func64 (by kernel_rfl) O O O<|Ae<|Ab<|Lw.val (Ac O) O<|Af<|Aa<|Cw.out<|Cw.block ?_
 refine Bj (S:=Unit) (fun s=>[(0, .pointer (some ⟨A,0,none⟩)),(2, .int .i64 0)]) (fun s w' =>w=w') (fun s=>0) (()) ⟨rfl,rfl,trivial⟩ ?_ ?_
 ·rfl
 rintro _ _ rfl
 refine Ae<|Ae<|Ab<|Lw.val (Ad O) O<|Lw.val (Ad O) O<|Lw.val (Be O) O<|Lw.val (Ag (q:=0) Tryz.underlying56 O (sz_52 _) O) O<|Lw.val (Aj (ag_52 _) O hA hu) O<|Lw.val (Av (sz:=3) st_52 O (Sl.nil _ _)) O<|Lw.val (Bh O O) O<|Af<|Aa<|Cw.out<|Bs O false (rfl)<|Bi<|Am<|Am<|Az<|Cf O ?_
 exact ⟨rfl,rfl⟩
theorem growDone_c (A:Nat) (book:List Value) (w:World) (hA:Blk w A bookT book) (hu:book[13]? =some (.slice none 0 0)):Fnc Tryz.prog 79 [.pointer (some ⟨A,0,none⟩)] w (fun r w' =>r= .tuple #[]∧w=w'):=by
 refine Ap (n:=42) Tryz.func79 (by kernel_rfl) O O O<|Ae<|Ab<|Lw.val (Ac O) O<|Af<|Aa<|Cw.out<|Cw.block ?_
 refine Bj (S:=Unit) (fun s=>[(0, .pointer (some ⟨A,0,none⟩)),(2, .int .i64 0)]) (fun s w' =>w=w') (fun s=>0) (()) ⟨rfl,rfl,trivial⟩ ?_ ?_
 ·rfl
 rintro _ _ rfl
 refine Ae<|Ae<|Ab<|Lw.val (Ad O) O<|Lw.val (Ad O) O<|Lw.val (Be O) O<|Lw.val (Ag (q:=0) Tryz.underlying56 O (sz_52 _) O) O<|Lw.val (Aj (ag_52 _) O hA hu) O<|Lw.val (Av (sz:=3) st_52 O (Sl.nil _ _)) O<|Lw.val (Bh O O) O<|Af<|Aa<|Cw.out<|Bs O false (rfl)<|Bi<|Am<|Am<|Az<|Cf O ?_
 exact ⟨rfl,rfl⟩
theorem lookDone_c (A:Nat) (book:List Value) (w:World) (hA:Blk w A bookT book) (hu:book[13]? =some (.slice none 0 0)):Fnc Tryz.prog 94 [.pointer (some ⟨A,0,none⟩)] w (fun r w' =>r= .bool true∧w=w'):=by
 refine Ap (n:=64) Tryz.func94 (by kernel_rfl) O O O<|Ae<|Ab<|Lw.val (Ac O) O<|Af<|Aa<|Cw.out<|Ae<|Ae<|Ab<|Lw.val (Ac O) O<|Af<|Aa<|Cw.out<|Cw.block ?_
 refine Bj (S:=Unit) (fun s=>[(0, .pointer (some ⟨A,0,none⟩)),(2, .bool false),(3, .int .i64 0)]) (fun s w' =>w=w') (fun s=>0) (()) ⟨rfl,rfl,rfl,trivial⟩ ?_ ?_
 ·rfl
 rintro _ _ rfl
 refine Ae<|Ae<|Ab<|Lw.val (Ad O) O<|Lw.val (Ad O) O<|Lw.val (Be O) O<|Lw.val (Ag (q:=0) Tryz.underlying56 O (sz_52 _) O) O<|Lw.val (Aj (ag_52 _) O hA hu) O<|Lw.val (Av (sz:=3) st_52 O (Sl.nil _ _)) O<|Lw.val (Bh O O) O<|Af<|Aa<|Cw.out<|Bs O false (rfl)<|Bi<|Am<|Am<|Az<|Aa<|Cw.out<|Ae<|Ab<|Lw.val (Ac O) O<|Af<|Aa<|Cw.out<|An<|Bb O O ?_
 exact ⟨rfl,rfl⟩
theorem fillGrid_c (A:Nat) (book:List Value) (w:World) (hA:Blk w A bookT book) (hu:book[14]? =some (.slice none 0 0)):Fnc Tryz.prog 65 [.pointer (some ⟨A,0,none⟩)] w (fun r w' =>r= .tuple #[]∧w=w'):=by
 refine Ap (n:=35) Tryz.func65 (by kernel_rfl) O O O<|Ae<|Ab<|Lw.val (Ac O) O<|Af<|Aa<|Cw.out<|Cw.block ?_
 refine Bj (S:=Unit) (fun s=>[(0, .pointer (some ⟨A,0,none⟩)),(2, .int .i64 0)]) (fun s w' =>w=w') (fun s=>0) (()) ⟨rfl,rfl,trivial⟩ ?_ ?_
 ·rfl
 rintro _ _ rfl
 refine Ae<|Ae<|Ab<|Lw.val (Ad O) O<|Lw.val (Ad O) O<|Lw.val (Be O) O<|Lw.val (Ag (q:=0) Tryz.underlying56 O (sz_53 _) O) O<|Lw.val (Aj (ag_53 _) O hA hu) O<|Lw.val (Av (sz:=3) st_53 O (Sl.nil _ _)) O<|Lw.val (Bh O O) O<|Af<|Aa<|Cw.out<|Bs O false (rfl)<|Bi<|Am<|Am<|Az<|Cf O ?_
 exact ⟨rfl,rfl⟩
theorem growGrid_c (A:Nat) (book:List Value) (w:World) (hA:Blk w A bookT book) (hu:book[14]? =some (.slice none 0 0)):Fnc Tryz.prog 80 [.pointer (some ⟨A,0,none⟩)] w (fun r w' =>r= .tuple #[]∧w=w'):=by
 refine Ap (n:=42) Tryz.func80 (by kernel_rfl) O O O<|Ae<|Ab<|Lw.val (Ac O) O<|Af<|Aa<|Cw.out<|Cw.block ?_
 refine Bj (S:=Unit) (fun s=>[(0, .pointer (some ⟨A,0,none⟩)),(2, .int .i64 0)]) (fun s w' =>w=w') (fun s=>0) (()) ⟨rfl,rfl,trivial⟩ ?_ ?_
 ·rfl
 rintro _ _ rfl
 refine Ae<|Ae<|Ab<|Lw.val (Ad O) O<|Lw.val (Ad O) O<|Lw.val (Be O) O<|Lw.val (Ag (q:=0) Tryz.underlying56 O (sz_53 _) O) O<|Lw.val (Aj (ag_53 _) O hA hu) O<|Lw.val (Av (sz:=3) st_53 O (Sl.nil _ _)) O<|Lw.val (Bh O O) O<|Af<|Aa<|Cw.out<|Bs O false (rfl)<|Bi<|Am<|Am<|Az<|Cf O ?_
 exact ⟨rfl,rfl⟩
theorem lookGrid_c (A:Nat) (book:List Value) (w:World) (hA:Blk w A bookT book) (hu:book[14]? =some (.slice none 0 0)):Fnc Tryz.prog 95 [.pointer (some ⟨A,0,none⟩)] w (fun r w' =>r= .bool true∧w=w'):=by
 refine Ap (n:=64) Tryz.func95 (by kernel_rfl) O O O<|Ae<|Ab<|Lw.val (Ac O) O<|Af<|Aa<|Cw.out<|Ae<|Ae<|Ab<|Lw.val (Ac O) O<|Af<|Aa<|Cw.out<|Cw.block ?_
 refine Bj (S:=Unit) (fun s=>[(0, .pointer (some ⟨A,0,none⟩)),(2, .bool false),(3, .int .i64 0)]) (fun s w' =>w=w') (fun s=>0) (()) ⟨rfl,rfl,rfl,trivial⟩ ?_ ?_
 ·rfl
 rintro _ _ rfl
 refine Ae<|Ae<|Ab<|Lw.val (Ad O) O<|Lw.val (Ad O) O<|Lw.val (Be O) O<|Lw.val (Ag (q:=0) Tryz.underlying56 O (sz_53 _) O) O<|Lw.val (Aj (ag_53 _) O hA hu) O<|Lw.val (Av (sz:=3) st_53 O (Sl.nil _ _)) O<|Lw.val (Bh O O) O<|Af<|Aa<|Cw.out<|Bs O false (rfl)<|Bi<|Am<|Am<|Az<|Aa<|Cw.out<|Ae<|Ab<|Lw.val (Ac O) O<|Af<|Aa<|Cw.out<|An<|Bb O O ?_
 exact ⟨rfl,rfl⟩
theorem fillList_c (A:Nat) (book:List Value) (w:World) (hA:Blk w A bookT book) (hu:book[15]? =some (.slice none 0 0)):Fnc Tryz.prog 66 [.pointer (some ⟨A,0,none⟩)] w (fun r w' =>r= .tuple #[]∧w=w'):=by
 refine Ap (n:=35) Tryz.func66 (by kernel_rfl) O O O<|Ae<|Ab<|Lw.val (Ac O) O<|Af<|Aa<|Cw.out<|Cw.block ?_
 refine Bj (S:=Unit) (fun s=>[(0, .pointer (some ⟨A,0,none⟩)),(2, .int .i64 0)]) (fun s w' =>w=w') (fun s=>0) (()) ⟨rfl,rfl,trivial⟩ ?_ ?_
 ·rfl
 rintro _ _ rfl
 refine Ae<|Ae<|Ab<|Lw.val (Ad O) O<|Lw.val (Ad O) O<|Lw.val (Be O) O<|Lw.val (Ag (q:=0) Tryz.underlying56 O (sz_54 _) O) O<|Lw.val (Aj (ag_54 _) O hA hu) O<|Lw.val (Av (sz:=3) st_54 O (Sl.nil _ _)) O<|Lw.val (Bh O O) O<|Af<|Aa<|Cw.out<|Bs O false (rfl)<|Bi<|Am<|Am<|Az<|Cf O ?_
 exact ⟨rfl,rfl⟩
theorem growList_c (A:Nat) (book:List Value) (w:World) (hA:Blk w A bookT book) (hu:book[15]? =some (.slice none 0 0)):Fnc Tryz.prog 81 [.pointer (some ⟨A,0,none⟩)] w (fun r w' =>r= .tuple #[]∧w=w'):=by
 refine Ap (n:=42) Tryz.func81 (by kernel_rfl) O O O<|Ae<|Ab<|Lw.val (Ac O) O<|Af<|Aa<|Cw.out<|Cw.block ?_
 refine Bj (S:=Unit) (fun s=>[(0, .pointer (some ⟨A,0,none⟩)),(2, .int .i64 0)]) (fun s w' =>w=w') (fun s=>0) (()) ⟨rfl,rfl,trivial⟩ ?_ ?_
 ·rfl
 rintro _ _ rfl
 refine Ae<|Ae<|Ab<|Lw.val (Ad O) O<|Lw.val (Ad O) O<|Lw.val (Be O) O<|Lw.val (Ag (q:=0) Tryz.underlying56 O (sz_54 _) O) O<|Lw.val (Aj (ag_54 _) O hA hu) O<|Lw.val (Av (sz:=3) st_54 O (Sl.nil _ _)) O<|Lw.val (Bh O O) O<|Af<|Aa<|Cw.out<|Bs O false (rfl)<|Bi<|Am<|Am<|Az<|Cf O ?_
 exact ⟨rfl,rfl⟩
theorem lookList_c (A:Nat) (book:List Value) (w:World) (hA:Blk w A bookT book) (hu:book[15]? =some (.slice none 0 0)):Fnc Tryz.prog 96 [.pointer (some ⟨A,0,none⟩)] w (fun r w' =>r= .bool true∧w=w'):=by
 refine Ap (n:=64) Tryz.func96 (by kernel_rfl) O O O<|Ae<|Ab<|Lw.val (Ac O) O<|Af<|Aa<|Cw.out<|Ae<|Ae<|Ab<|Lw.val (Ac O) O<|Af<|Aa<|Cw.out<|Cw.block ?_
 refine Bj (S:=Unit) (fun s=>[(0, .pointer (some ⟨A,0,none⟩)),(2, .bool false),(3, .int .i64 0)]) (fun s w' =>w=w') (fun s=>0) (()) ⟨rfl,rfl,rfl,trivial⟩ ?_ ?_
 ·rfl
 rintro _ _ rfl
 refine Ae<|Ae<|Ab<|Lw.val (Ad O) O<|Lw.val (Ad O) O<|Lw.val (Be O) O<|Lw.val (Ag (q:=0) Tryz.underlying56 O (sz_54 _) O) O<|Lw.val (Aj (ag_54 _) O hA hu) O<|Lw.val (Av (sz:=3) st_54 O (Sl.nil _ _)) O<|Lw.val (Bh O O) O<|Af<|Aa<|Cw.out<|Bs O false (rfl)<|Bi<|Am<|Am<|Az<|Aa<|Cw.out<|Ae<|Ab<|Lw.val (Ac O) O<|Af<|Aa<|Cw.out<|An<|Bb O O ?_
 exact ⟨rfl,rfl⟩
end Go.Proofs.YtmipoeanpnnjoaaGreatDoor
