/- Texts of this proof, one behind the other: ParAll, TxtMake, LawHelp, TxtGot, Open, TensorsArg, TensArg, MeansArg, TwinNode, BookMany, BookKeep, BookFive, BookApart, BookMore, BookList, TwinLists, BookIn, NodeCard, TwinGraph, MdlSame, BookArg, LinOf, TxtLaid, TxtLift. -/
import Derived.Test.YtblbopcaflaldaaGreatDoorPk3
import Derived.Test.YtblbopcaflaldaaGreatDoorPk1
import Derived.ProofKit
import Derived.OpenShut
import Derived.SizedLaws
import Derived.Test.YtblbopcaflaldaaGreatDoorPk2
import Derived.Test.YtblbopcaflaldaaGreatDoorCards
import Derived.Test.YtblbopcaflaldaaGreatDoorTie
import Derived.SevenTiedAt
import Derived.LaidLaws
import Derived.LaidHandle
import Derived.JoinedOf
import Derived.Test.YtblbopcaflaldaaGreatDoorRows
import Derived.Stop.LaidErr
import Derived.Shelf.Vars
import Derived.HandedShaped
import Derived.Stop.Joined

namespace Go.Proofs.YtblbopcaflaldaaGreatDoor
open Go Go.Dd Go.RowKit List Go.Proofs.Tryz
set_option maxRecDepth 100000
-- dd: text
def Sn (ds:List Rw) (k v:Value):Prop:=∃r ∈ ds,k= .int .u8 (r.k:Int)∧v= .agg r.cells.toArray
def So (ds:List Rw) (k v:Value):Prop:=∃r ∈ ds,k=st r.word∧v=b8 (BitVec.ofNat 8 r.k)
def JU (ds:List Rw):Nat:=(GY.filter fun r=>decide (r ∉ ds)).length
theorem MJ {ds:List Rw} {r:Rw} (h:r ∈ GY) (a:r ∉ ds):JU (ds++[r])<JU ds:=by
 unfold JU
 have e:(GY.filter fun q=>decide (q ∉ ds++[r]))=(GY.filter fun q=>decide (q ∉ ds)).filter fun q=>decide (q≠r):=by
  rw [List.filter_filter]
  refine filter_congr fun q _=> ?_
  simp only [mem_append,mem_singleton,not_or,ne_eq]
  by_cases h1:q ∈ ds<;>by_cases h2:q=r<;>simp [h1,h2]
 rw [e]
 refine List.length_filter_lt_length_iff_exists.2 ⟨r,List.mem_filter.2 ⟨h,by simpa using a⟩,by simp⟩
theorem Nh:∀r ∈ GY,(BitVec.ofNat 8 r.k).toNat=r.k:=by decide
theorem PD:∀r ∈ GY,∀q ∈ GY,r.k=q.k→r=q:=by decide
theorem O0 {ds:List Rw} {r:Rw} (h:∀q ∈ ds,q ∈ GY) (b:r ∈ GY):∀q ∈ ds++[r],q ∈ GY:=fun q a=>by
 rcases List.mem_append.1 a with a|a
 ·exact h q a
 ·rw [List.mem_singleton.1 a];exact b
theorem M4 {ds:List Rw} {r:Rw} {p:Rw→Prop}:((∃q ∈ ds,p q)∨p r)↔∃q ∈ ds++[r],p q:=by
 constructor
 ·rintro (⟨q,a,e⟩|e)
  ·exact ⟨q,by simp [a],e⟩
  ·exact ⟨r,by simp,e⟩
 ·rintro ⟨q,a,e⟩
  rcases List.mem_append.1 a with h|h
  ·exact .inl ⟨q,h,e⟩
  ·rw [List.mem_singleton.1 h] at e;exact .inr e
theorem Of (ds:List Rw) (r:Rw) (k v:Value):(Sn ds k v∨(k= .int .u8 (r.k:Int)∧v= .agg r.cells.toArray))↔Sn (ds++[r]) k v:=M4 (p:=fun r=>k= .int .u8 (r.k:Int)∧v= .agg r.cells.toArray)
theorem O9 (ds:List Rw) {r:Rw} (a:r ∈ GY) (k v:Value):(So ds k v∨(k=st r.word∧v= .int .u8 (r.k:Int)))↔So (ds++[r]) k v:=by
 rw [show Value.int .u8 (r.k:Int)=b8 (BitVec.ofNat 8 r.k) by rw [b8,Nh r a]]
 exact M4 (p:=fun r=>k=st r.word∧v=b8 (BitVec.ofNat 8 r.k))
theorem Qd (a:Value) (c:a.cells=[a].toArray):Tryz.prog.built 139 [(0,a)]=some [a].toArray:=by
 have b:Tryz.prog.info? 139=some Tryz.t139:=by kernel_rfl
 have d:Tryz.prog.info? 126=some Tryz.t126:=by kernel_rfl
 simp [Program.built,b,underlying139,d,Instr.fill,c]
 rfl
theorem IZ (c:UInt8):∀s:List UInt8,(BP c s).length≤s.length+1∧∀x ∈ BP c s,x.length≤s.length
 |[]=>⟨AQ 1,fun x a=>by rw [List.mem_singleton.1 a];exact AQ _⟩
 |b::l=>by
  obtain ⟨g,f⟩:=IZ c l
  obtain ⟨y,d,e⟩:∃y d,BP c l=y::d:=by
   cases h:BP c l with
   |nil=>exact absurd h (Hz c l)
   |cons y d=>exact ⟨y,d,rfl⟩
  rw [e] at g f
  unfold BP
  rw [e]
  split
  ·refine ⟨by simp at g ⊢;omega,fun x a=> ?_⟩
   rcases List.mem_cons.1 a with rfl|a
   ·exact Nat.zero_le _
   ·have:=f x a;simp only [length_cons];omega
  ·refine ⟨by simp at g ⊢;omega,fun x a=> ?_⟩
   rcases List.mem_cons.1 a with rfl|a
   ·have:=f y (by simp);simp only [List.headD_cons,length_cons];omega
   ·have:=f x (mem_cons_of_mem _ a);simp only [length_cons];omega
theorem OY (v:Value) (n:Nat):∀b,(cut v 1 0 n).ownBlock=some b→v.ownBlock=some b:=fun b h=>Qa h
theorem J4 {w w' :World} {M:Nat} {d:TypeDesc} {S:Value→Value→Prop} {T:Nat→Prop} (h:BF w M d S) (g:FA T w w') (f:¬T M):BF w' M d S:=by
 have a:=h.lt
 obtain ⟨i,c,e,b⟩:=h
 exact ⟨i,c,by rw [g.block M a f];exact e,b⟩
def DT (ts:List (List UInt8)) (i:Nat) (pre:List PN):Prop:=CV 0 ts=match CV i (ts.drop i) with
 | .inl j=> .inl j
 | .inr ns=> .inr (pre++ns)
theorem Gh (ts:List (List UInt8)):DT ts 0 []:=by
 unfold DT
 rw [drop_zero]
 cases CV 0 ts<;>rfl
theorem DT.step {ts:List (List UInt8)} {i:Nat} {a:List PN} {t:List UInt8} {p:PN} (h:DT ts i a) (b:ts.drop i=t::ts.drop (i+1)) (d:i<32) (c:CF (BP 32 t)=some p):DT ts (i+1) (a++[p]):=by
 unfold DT at h ⊢
 rw [b] at h
 exact On h d c
theorem DT.no {ts:List (List UInt8)} {i:Nat} {a:List PN} {t:List UInt8} (h:DT ts i a) (b:ts.drop i=t::ts.drop (i+1)) (c:32≤i∨CF (BP 32 t)=none):CV 0 ts= .inl i:=by
 unfold DT at h
 rw [b] at h
 exact QN h c
theorem DT.done {ts:List (List UInt8)} {i:Nat} {a:List PN} (h:DT ts i a) (b:i=ts.length):CV 0 ts= .inr a:=by
 unfold DT at h
 rw [b,drop_length] at h
 rw [h]
 simp [CV]
theorem QO {s:List UInt8} (h:¬65536<s.length):(∀i,CV 0 (CE s)= .inl i→HB s=(i:Int)∧FE s=4∧FL s=[])∧∀ns,CV 0 (CE s)= .inr ns→HB s=0∧FE s=(if (Ke ns).isSome then 0 else 1)∧FL s=if (Ke ns).isSome then ns else []:=by
 unfold HB FE FL
 rw [if_neg h,if_neg h,if_neg h]
 exact ⟨fun i e=>by rw [e];exact ⟨rfl,rfl,rfl⟩,fun ns e=>by rw [e];exact ⟨rfl,rfl,rfl⟩⟩
def Se (W w:World) (r:Value) (s:List UInt8):Prop:=∃vn ls,r= .tuple #[.agg [vn].toArray, .int .i64 (HB s), .int .i64 (FE s)]∧ls.map pn=FL s∧FK w W.heap.size w.heap.size ls∧AW w W.heap.size 79 5 vn ls.length (HT N5.cells ls)
theorem Ie {W w:World} {s:List UInt8} {a e:Int} (f:W.heap.size≤w.heap.size) (c:HB s=a) (b:FE s=e) (d:FL s=[]):Se W w (.tuple #[.agg [.slice none 0 0].toArray, .int .i64 a, .int .i64 e]) s:=
 ⟨_,[],by rw [c,b],by rw [d];rfl,f, .inl ⟨rfl, .inl ⟨rfl,rfl⟩⟩⟩
set_option maxHeartbeats 4000000 in
theorem Hi (s:List UInt8) (W:World) (hG:HZ W):AO prog 27 [st s] W (fun r w' =>Below W.heap.size W w' ∧Se W w' r s):=by
 refine A5 (n:=74) func27 O<|Ah<|C8 IL O ?_
 rintro o w1 eA_g a m zhB
 have z1:=m.size
 refine Ab O<|Ab O<|Ba<|Ad O<|Aa (Er HX O) O<|Aa (C1 O O) O<|Ak<|Al O ?_ ?_
 ·intro g
  have g:65536<s.length:=by have:=AE g;omega
  refine Ah<|Aa (Bu (DR _) (BZ _) O O ‹_›) O ?_
  refine Ax (Ci (cs:=[.slice none 0 0]) (k:=1) (by kernel_rfl) O O O O a O) ?_
  rintro w2 ⟨a,hg,hz⟩
  have m:=m.grown hg (by omega) (by rintro _ ⟨⟩;omega)
  refine Ab O<|Ab O<|Bl<|Ef O O O O ‹_› underlying24 O O O ?_
  exact ⟨m,Ie (AA m) (by rw [HB,if_pos g]) (by rw [FE,if_pos g]) (by rw [FL,if_pos g])⟩
 intro g
 have hs:¬65536<s.length:=by have:=AC g;omega
 clear g
 refine Ca<|Ai O O (Oa w1) ?_
 rintro _ w2 ⟨hn2,M,rfl,zM,mM⟩
 have z2:=hn2.size
 have lM0:=mM.lt
 replace m:=bt m hn2
 have a:=a.bs hn2
 refine Ar (Fg (d:= .string)) O ?_
 rintro _ w3 ⟨rfl,E,hn3,zK⟩
 obtain ⟨K,hK⟩:∃K,K=w2.heap.size:=⟨_,rfl⟩
 rw [← hK] at E ⊢
 replace m:=bt m hn3
 have a:=a.bs hn3
 have mM:=mM.bs hn3
 refine C8 Ra O ?_
 rintro Q w4 eA_a f hn4 zhn4
 have z4:=hn4.size
 replace m:=bt m hn4
 have a:=a.bs hn4
 have mM:=mM.bs hn4
 have E:=E.bs hn4
 refine C8 QZ O ?_
 rintro N w5 eA_k l hn5 zhn5
 have z5:=hn5.size
 replace m:=bt m hn5
 have a:=a.bs hn5
 have f:=f.bs hn5
 have mM:=mM.bs hn5
 have E:=E.bs hn5
 have lM:=mM.lt
 have lK:=E.lt
 refine Ax (B5 (u:= .map (some M)) (QF _) O O O f (show 0<1 by decide)) ?_
 rintro w6 ⟨b_a6,hg6,hz6⟩
 have m:=m.grown hg6 (AA m) (by rintro _ ⟨⟩;omega)
 replace a:=ES a hg6 f (by decide)
 replace l:=ES l hg6 f (by decide)
 have l4:∀{X:Nat},X<w3.heap.size→some X≠some Q:=fun h e=>by have:=Option.some.inj e;omega
 have mM:=mM.keep (hg6.block M lM (l4 (by omega)))
 have E:=E.keep (hg6.block K lK (l4 (by omega)))
 replace f:AK w6 Q 122 [.map (some M)]:=b_a6
 clear hg6 b_a6
 refine Ax (B5 (u:= .map (some K)) (QE _) O O O l (show 0<1 by decide)) ?_
 rintro w7 ⟨b_k7,hg7,hz7⟩
 have m:=m.grown hg7 (AA m) (by rintro _ ⟨⟩;omega)
 replace a:=ES a hg7 l (by decide)
 replace f:=ES f hg7 l (by decide)
 have l5:∀{X:Nat},X<w3.heap.size→some X≠some N:=fun h e=>by have:=Option.some.inj e;omega
 have mM:=mM.keep (hg7.block M mM.lt (l5 (by omega)))
 have E:=E.keep (hg7.block K E.lt (l5 (by omega)))
 replace l:AK w7 N 135 [.map (some K)]:=b_k7
 clear hg7 b_k7 l4 l5
 refine Ba<|Aa (An (Pn _) O ‹_› rfl) O ?_
 refine Ar (Xw.rangeM underlying122 O mM) O ?_
 rintro _ w8 ⟨rfl,mI,hn8,z8⟩
 obtain ⟨I,hI⟩:∃I,I=w7.heap.size:=⟨_,rfl⟩
 rw [← hI] at mI ⊢
 replace m:=bt m hn8
 have a:=a.bs hn8
 have f:=f.bs hn8
 have l:=l.bs hn8
 have E:=E.bs hn8
 have zz:=AA m
 clear mM hn8
 refine Ak<|Av ?_
 refine B4 (S:=List Rw) (fun ds=>[(0,st s),(2, .pointer (some ⟨o,0,none⟩)),(5, .pointer (some ⟨Q,0,none⟩)),(6, .pointer (some ⟨N,0,none⟩)),(21, .pointer (some ⟨I,0,none⟩))]) (fun ds w' =>(∀r ∈ ds,r ∈ GY)∧Below W.heap.size W w' ∧w8.heap.size≤w'.heap.size∧AK w' o 24 [.slice none 0 0]∧AK w' Q 122 [.map (some M)]∧AK w' N 135 [.map (some K)]∧Ko w' I M (.int .u8) RD (Sn ds)∧DV w' K .string (So ds)) (fun ds=>JU ds) ([]) ⟨rfl,rfl,rfl,rfl,rfl,trivial⟩ ?_ ?_
 ·exact ⟨by simp,m,AQ _,a,f,l,mI.congr fun k v=>by simp [Sn],E.congr fun k v=>by simp [So]⟩
 clear m a f l mI E zz
 rintro ds w9 ⟨hds,m,z9,a,f,l,mI,E⟩
 refine Ah<|Ar (Xw.nextM O mI) O ?_
 rintro x w10 hx
 rcases hx.symm with ⟨k,u,rfl,L,hno,mI2,hcur,hg,hz⟩|⟨rfl,rfl,hall⟩
 ·obtain ⟨r,hr,rfl,rfl⟩:=L
  have hrd:r ∉ ds:=fun h=>hno _ ⟨r,h,rfl,rfl⟩
  have hKI:K≠I:=by omega
  have m:=m.grown hg (AA m) (by rintro _ ⟨⟩;omega)
  have tI:∀{X:Nat},X<w7.heap.size→some X≠some I:=fun h e=>by have:=Option.some.inj e;omega
  have a:=a.by hg (tI (by omega))
  have f:=f.by hg (tI (by omega))
  have l:=l.by hg (tI (by omega))
  have E:=E.keep (hg.block K E.lt (tI (by omega)))
  refine Aa (Ex.extract (i:=0) O O) O<|Ak<|Ap<|Cm O true (rfl)<|B2<|Av<|Ah<|Aa (Ex.entryM O hcur) O<|Aa (Ex.extract (i:=0) O O) O<|Aa (Ex.extract (i:=1) O O) O<|C8 LH O ?_
  rintro A_r w11 eA_r T F zhn11
  have z11:=F.size
  replace m:=bt m F
  have a:=a.bs F
  have f:=f.bs F
  have l:=l.bs F
  have E:=E.bs F
  have mI2:=mI2.bs F
  clear hcur mI F
  refine Ab O<|Ax (Ci (cs:=r.cells) (k:=5) (by kernel_rfl) O O O O T O) ?_
  rintro w12 ⟨b_r12,R,hz12⟩
  have m:=m.grown R (AA m) (by rintro _ ⟨⟩;omega)
  replace a:=ES a R T (by decide)
  replace f:=ES f R T (by decide)
  replace l:=ES l R T (by decide)
  have tr:∀{X:Nat},X<w10.heap.size→some X≠some A_r:=fun h e=>by have:=Option.some.inj e;omega
  have E:=E.keep (R.block K E.lt (tr (by omega)))
  have lI:=mI2.lt
  have mI2:=mI2.keep (R.block I lI.1 (tr (by omega))) (R.block M lI.2 (tr (by omega)))
  clear T tr
  refine Ak<|A4<|Aa (An (Pl _) O ‹_› rfl) O ?_
  refine A6 underlying125 O (Ha _)<|Aa (An (FH _) O b_r12 (rfl:r.cells[0]? =some (st r.word))) O<|Ad O<|Ax (Gv (d:= .string) (u:= .int .u8 (r.k:Int)) underlying135 HX O O O trivial E (by rintro v ⟨q,hq,e1, -⟩;exact hrd (Jq r hr q (hds q hq) (JR e1) ▸ hq))) ?_
  rintro w13 ⟨mK13,Y,hz13⟩
  have tK:∀{X:Nat},X≠K→some X≠some K:=fun h e=>h (Option.some.inj e)
  have m:=m.grown Y (AA m) (by rintro _ ⟨⟩;omega)
  have a:=a.by Y (tK (by omega))
  have f:=f.by Y (tK (by omega))
  have l:=l.by Y (tK (by omega))
  have mI2:=mI2.keep (Y.block I (by omega) (tK (by omega))) (Y.block M (by omega) (tK (by omega)))
  exact A7<|Bb<|A3 (B1 (ds++[r]) ⟨rfl,rfl,rfl,rfl,rfl,trivial⟩ (⟨O0 hds hr,m,by omega,a,f,l,mI2.congr (Of ds r),mK13.congr (O9 ds hr)⟩) (MJ hr hrd))
 have hall2:∀r ∈ GY,r ∈ ds:=fun r hr=>by
  obtain ⟨q,hq,e, -⟩:=hall _ _ ⟨r,hr,rfl,rfl⟩
  have:(r.k:Int)=(q.k:Int):=by injection e
  rwa [PD r hr q (hds q hq) (by omega)]
 have jK:BF w10 K .string Sh:=(E.congr fun k v=>⟨fun ⟨r,h,e⟩=>⟨r,hds r h,e⟩,fun ⟨r,h,e⟩=>⟨r,hall2 r h,e⟩⟩).in
 have jM:BF w10 M (.int .u8) RD:=mI.map.in
 have zk:=jK.lt
 have zm:=jM.lt
 clear E mI hall hall2 hds
 refine Aa (Ex.extract (i:=0) O O) O<|Ak<|Ap<|Cm O false (rfl)<|Bx<|A0<|A0<|Bh<|Cl<|Ad O<|Ai O O (Mh s 10 w10 (hG.bs m) (by omega)) ?_
 rintro y w11 ⟨hn,o_y⟩
 replace m:=bt m hn
 have a:=a.bs hn
 have f:=f.bs hn
 have l:=l.bs hn
 have jK:=jK.bs hn
 have jM:=jM.bs hn
 have z11:=hn.size
 have s_y:=AN o_y
 have sh_y:=s_y.shp
 obtain ⟨c1,c2⟩:=IZ 10 s
 have c0:=Hz 10 s
 have e0:(BP 10 s).getLastD []=(BP 10 s).getD ((BP 10 s).length - 1) default:=by
  rw [List.getLastD_eq_getLast?,List.getLast?_eq_getElem?,getD_eq_getElem?_getD];rfl
 obtain ⟨cs,hcs⟩:∃cs,cs=BP 10 s:=⟨_,rfl⟩
 have hlT:CE s=if cs.getD (cs.length - 1) default=[] then cs.dropLast else cs:=by rw [CE,e0,hcs]
 rw [← hcs] at c0 c1 c2 s_y sh_y
 have cp:0<cs.length:=List.length_pos_iff.2 c0
 obtain ⟨n,hn⟩:∃n,n=cs.length - 1:=⟨_,rfl⟩
 rw [← hn] at hlT
 refine Ab O<|Ba<|Ad O<|Aa (Ay BR O ‹_›) O ?_
 refine Aa (Ej O O (by omega)) O<|Ab O<|Ak<|Ap<|Fa 10 (v' := .int .i64 (n:Int)) O (cngA (Value.int .i64) (by omega))<|A4<|Ad O<|Ad O<|Aa (A8 BR O O ‹_› _ O (by omega)) O ?_
 refine Aa (Be (FH _) O ‹_› (by omega)) O ?_
 refine Aa (D5 O O) O<|Ak ?_
 refine D8 (St:=(Value×List (List UInt8))) (fun z=>[(2, .pointer (some ⟨o,0,none⟩)),(5, .pointer (some ⟨Q,0,none⟩)),(6, .pointer (some ⟨N,0,none⟩)),(9,z.1)]) (fun z w' =>w' =w11∧z.2=CE s∧BG st w' z.1 z.2∧(∀x ∈ z.2,x ∈ cs)∧z.2.length≤cs.length∧∀b,z.1.ownBlock=some b→y.ownBlock=some b) ?_ ?_
 ·refine Al O ?_ ?_
  ·intro e
   have e:cs.getD n default=[]:=AE e
   refine A4<|Ad O<|Ad O<|Aa (E8 (j:=n) BR O O s_y (by omega)) O<|Ab O<|A7 ?_
   exact Bv ((cut y 1 0 n,cs.take n)) ⟨rfl,rfl,rfl,rfl,trivial⟩ (⟨rfl,by rw [hlT,if_pos e,List.dropLast_eq_take,hn],BG.take s_y (by omega),fun x hx=>mem_of_mem_take hx,by rw [length_take];omega,OY y n⟩)
  intro e
  have e:¬cs.getD n default=[]:=AC e
  exact B7<|Bv ((y,cs)) ⟨rfl,rfl,rfl,rfl,trivial⟩ (⟨rfl,by rw [hlT,if_neg e],s_y,fun x hx=>hx,AQ _,fun b e=>e⟩)
 rintro ⟨yl,ts⟩ w12 ⟨rfl,hts,D,m1,m2,m3⟩
 dsimp only at hts D m1 m2 m3 ⊢
 have yo:∀b,yl.ownBlock=some b→w10.heap.size≤b∧b<w12.heap.size:=fun b e=>AD o_y b (m3 b e)
 have tl:∀x ∈ ts,x.length≤65536:=fun x hx=>by have:=c2 x (m1 x hx);omega
 obtain ⟨r1,r2⟩:=QO hs
 rw [← hts] at r1 r2
 clear s_y sh_y o_y hlT c0 c2 e0 hts m1 m3
 obtain ⟨B,eB⟩:∃B,B=w12.heap.size:=⟨_,rfl⟩
 rw [← eB] at yo
 refine Cc<|Ap<|Ah<|Ad O<|Aa (Ay BR O ‹_›) O ?_
 refine Ad O<|Ak<|Av ?_
 refine B4 (S:=(Nat×List N5×Value)) (fun z=>[(2, .pointer (some ⟨o,0,none⟩)),(5, .pointer (some ⟨Q,0,none⟩)),(6, .pointer (some ⟨N,0,none⟩)),(44,yl),(45, .int .i64 (ts.length:Int)),(46, .int .i64 (z.1:Int))]) (fun z w' =>z.1≤ts.length∧z.2.1.length=z.1∧z.1≤32∧DT ts z.1 (z.2.1.map pn)∧Below W.heap.size W w' ∧Lp w' B o z.2.1 z.2.2∧AK w' Q 122 [.map (some M)]∧AK w' N 135 [.map (some K)]∧BF w' K .string Sh∧BF w' M (.int .u8) RD∧BG st w' yl ts) (fun z=>ts.length - z.1) ((0,[], .slice none 0 0)) ⟨rfl,rfl,rfl,rfl,rfl,rfl,trivial⟩ ?_ ?_
 ·exact ⟨Nat.zero_le _,rfl,Nat.zero_le _,Gh ts,m,⟨a,World.ownsRow_nil _ _ _ _,Nat.le_of_eq eB⟩,f,l,jK,jM,D⟩
 clear m a f l jK jM D
 rintro ⟨i,ls,vn⟩ w13 ⟨hi,hl,h32,hA,m,L,f,l,jK,jM,D⟩
 dsimp only at hi hl h32 hA m L f l jK jM D ⊢
 have zB:B≤w13.heap.size:=L.lay.le
 refine Ah<|B9 O<|Ak<|Ap<|Al O ?_ ?_
 ·intro gi
  have gi:i<ts.length:=by have:=AE gi;omega
  obtain ⟨t,ht⟩:∃t,t=ts.getD i default:=⟨_,rfl⟩
  have hd:ts.drop i=t::ts.drop (i+1):=by
   rw [ht,getD_eq_getElem?_getD,getElem?_eq_getElem gi]
   exact drop_eq_getElem_cons gi
  have lt:t.length≤65536:=tl t (by
   rw [ht,getD_eq_getElem?_getD,getElem?_eq_getElem gi]
   exact getElem_mem gi)
  refine B2<|Ap<|Av<|Ah<|Ad O<|Aa (A8 BR O O ‹_› _ O (by omega)) O ?_
  refine Aa (Be (FH _) O ‹_› (by omega)) O ?_
  refine Ab O<|Ab O<|Au<|Ad O ?_
  rw [← ht]
  refine Ai O O (Mh t 32 w13 (hG.bs m) (by omega)) ?_
  rintro q w14 ⟨J,o_q⟩
  have z14:=J.size
  replace m:=bt m J
  have L:=L.bs J
  have f:=f.bs J
  have l:=l.bs J
  have jK:=jK.bs J
  have jM:=jM.bs J
  have D:=D.bs J
  have hG14:=hG.bs m
  have s_q:=AN o_q
  obtain ⟨q1,q2⟩:=IZ 32 t
  have q0:=List.length_pos_iff.2 (Hz 32 t)
  refine Aa (Bg (vs:=[(0,q)]) (cs:=[q]) O (Qd _ s_q.one)) O<|Ar (Xw.box (cs:=[q]) O O) O ?_
  rintro _ w15 ⟨rfl,T,G,z15⟩
  obtain ⟨A,eA⟩:∃A,A=w14.heap.size:=⟨_,rfl⟩
  rw [← eA] at T ⊢
  replace m:=bt m G
  have L:=L.bs G
  have f:=f.bs G
  have l:=l.bs G
  have jK:=jK.bs G
  have jM:=jM.bs G
  have D:=D.bs G
  refine Fv (u:= .pointer (some ⟨A,0,none⟩)) QY QD O (fun _=>rfl) (rfl) ?_
  rintro A_c w eA_c b_c C zhn16
  have z16:=C.size
  have hn1416:Below w14.heap.size w14 w:=bt G C
  replace m:=bt m C
  have L:=L.bs C
  have f:=f.bs C
  have l:=l.bs C
  have jK:=jK.bs C
  have jM:=jM.bs C
  have D:=D.bs C
  have T:=T.bs C
  refine Au<|Ad O<|Aa (Eu O O) O<|Ad O ?_
  refine Bw 57 O ?_ ?_
  ·intro g
   have g:32≤i:=by have:=AE g;omega
   have eP:=hA.no hd (.inl g)
   have a:=L.g
   refine Ae (dj:=57) O O O O<|Ae (dj:=57) O O O O<|Ae (dj:=57) O O O O<|Bi O<|Ak<|Bn O<|Ah<|Aa (Bg (vs:=[]) (cs:=[.slice none 0 0]) O (by kernel_rfl)) O<|Ad O<|Ax (Ci (cs:=[.slice none 0 0]) (k:=1) (by kernel_rfl) O O O O a O) ?_
   rintro wb ⟨b_gb,hgb,hzb⟩
   have hBb:=m.grown hgb (AA m) (by rintro _ ⟨⟩;omega)
   refine Ab O<|Ab O<|Aq<|Bd<|Ao<|Ao<|Bd<|Ao<|Ef O O O O ‹_› underlying24 O O O ?_
   exact ⟨hBb,Ie (AA hBb) (r1 _ eP).1 (r1 _ eP).2.1 (r1 _ eP).2.2⟩
  intro g
  have g:i<32:=by have:=AC g;omega
  have vo:∀b,vn.ownBlock=some b→B≤b∧b<w.heap.size:=fun b e=>AD L.o b e
  have hp:∀Z H,Z=w.heap.size→Below w.heap.size w H→AK H Z 4 [.bool false]→
    H6 prog 126 [.pointer (some ⟨o,0,none⟩), .pointer (some ⟨A_c,0,none⟩), .pointer (some ⟨N,0,none⟩), .pointer (some ⟨Q,0,none⟩)] H LU
     (fun r w' =>r= .tuple #[]∧AK w' Z 4 [.bool false]∧∃H c vn',Below w.heap.size w H∧Z<H.heap.size∧AK w' Z 4 [.bool false]∧CF (BP 32 t)=some (pn c)∧FA (fun b=>b=A∨b=o∨vn.ownBlock=some b) H w' ∧Lp w' B o (ls++[c]) vn')
     (fun w' =>AK w' Z 4 [.bool false]∧CF (BP 32 t)=none∧∃H,Below w.heap.size w H∧Z<H.heap.size∧AK w' Z 4 [.bool false]∧FA (fun b=>b=A∨b=o∨vn.ownBlock=some b) H w' ∧Lp w' B o ls vn):=fun Z H eA' U p=>by
   have zk:=U.size
   have nS:¬(Z=A∨Z=o∨vn.ownBlock=some Z):=by
    rintro (e|e|e)
    ·omega
    ·omega
    ·have:=vo _ e;omega
   have hR:Ku w14 H A q (BP 32 t):=⟨s_q,bt hn1416 U,Nat.le_of_eq eA.symm,T.bs U⟩
   exact (Om w14 H A o A_c N Q K M B q vn (BP 32 t) ls hG14 hR (fun x hx=>by have:=q2 x hx;omega) (by omega) q0 (jK.bs U) (jM.bs U) (by omega) (L.bs U) (by omega) (b_c.bs U) (l.bs U) (f.bs U) (by omega) (by omega)).mono
    (fun r w' ⟨h1,c,vn',h2,h3,h4⟩=>⟨h1,p.chg h3 nS,H,c,vn',U,AY p,p.chg h3 nS,h2,h3,h4⟩)
    fun w' ⟨h1,h2,h3⟩=>⟨p.chg h2 nS,h1,H,U,AY p,p.chg h2 nS,h2,h3⟩
  refine Af (dj:=57) O O<|Aa (Ek (vs:=[]) (us:=[.pointer (some ⟨o,0,none⟩), .pointer (some ⟨A_c,0,none⟩), .pointer (some ⟨N,0,none⟩), .pointer (some ⟨Q,0,none⟩)]) O O) O<|Af (dj:=57) O O<|Ai O O (Jy 126 [.pointer (some ⟨o,0,none⟩), .pointer (some ⟨A_c,0,none⟩), .pointer (some ⟨N,0,none⟩), .pointer (some ⟨Q,0,none⟩)] w (fun Z w' =>∃H c vn',Below w.heap.size w H∧Z<H.heap.size∧AK w' Z 4 [.bool false]∧CF (BP 32 t)=some (pn c)∧FA (fun b=>b=A∨b=o∨vn.ownBlock=some b) H w' ∧Lp w' B o (ls++[c]) vn') (fun Z w' =>CF (BP 32 t)=none∧∃H,Below w.heap.size w H∧Z<H.heap.size∧AK w' Z 4 [.bool false]∧FA (fun b=>b=A∨b=o∨vn.ownBlock=some b) H w' ∧Lp w' B o ls vn) hp) ?_
  rintro _ w17 ⟨Z,w0,eA',hg,⟨rfl,H,c,vn',U,hAk,p,eN,V,hS2⟩|⟨rfl,eN,H,U,hAk,p,V,hS2⟩⟩
  ·have zk:=U.size
   have zc:=V.size
   have nS:∀{X:Nat},X<B→X≠o→¬(X=A∨X=o∨vn.ownBlock=some X):=fun h1 h2=>by
    rintro (e|e|e)
    ·omega
    ·exact h2 e
    ·have:=vo _ e;omega
   have hB0:Below W.heap.size W w0:=(bt m U).trans (V.to_below (by rintro k (rfl|rfl|e);omega;omega;have:=vo _ e;omega) (by omega))
   replace m:=hB0.grown hg (AA hB0) (by rintro _ ⟨⟩;omega)
   have tA:∀{X:Nat},X<B→some X≠some Z:=fun h e=>by have:=Option.some.inj e;omega
   replace f:=((f.bs U).chg V (nS (by omega) (by omega))).by hg (tA (by omega))
   replace l:=((l.bs U).chg V (nS (by omega) (by omega))).by hg (tA (by omega))
   replace jK:=EX (J4 (jK.bs U) V (nS (by omega) (by omega))) hg (tA (by omega))
   replace jM:=EX (J4 (jM.bs U) V (nS (by omega) (by omega))) hg (tA (by omega))
   replace D:=((D.bs U).chg V (fun b e _=>nS (yo b e).2 (by have:=yo b e;omega))).by hg (.inr fun e=>by have:=yo _ e;omega)
   replace L:=hS2.ob hg p (by decide) (by decide) (by decide)
   clear hp V p hS2 hB0 U b_c T o_q s_q
   have hN:DT ts (i+1) ((ls++[c]).map pn):=by
    rw [map_append]
    exact hA.step hd g eN
   refine Af (dj:=57) O O<|Aa (Cq O) O<|B6 O<|Ak<|Cm O false (rfl)<|B7<|Bb<|Cx<|Cn O (by omega)<|Ad O<|A7 ?_
   exact A3 (B1 ((i+1,ls++[c],vn')) ⟨rfl,rfl,rfl,rfl,rfl,rfl,trivial⟩ (⟨gi,by rw [length_append,hl];rfl,g,hN,m,L,f,l,jK,jM,D⟩) (by simp only;omega))
  have zk:=U.size
  have zc:=V.size
  have hB0:Below W.heap.size W w0:=(bt m U).trans (V.to_below (by rintro k (rfl|rfl|e);omega;omega;have:=vo _ e;omega) (by omega))
  replace m:=hB0.grown hg (AA hB0) (by rintro _ ⟨⟩;omega)
  replace L:=hS2.ob hg p (by decide) (by decide) (by decide)
  have a:=L.g
  have eP:=hA.no hd (.inr eN)
  refine Af (dj:=57) O O<|Aa (Cq O) O<|B6 O<|Ak<|Cm O true (rfl)<|Ah<|Aa (Bg (vs:=[]) (cs:=[.slice none 0 0]) O (by kernel_rfl)) O<|Ad O<|Ax (Ci (cs:=[.slice none 0 0]) (k:=1) (by kernel_rfl) O O O O a O) ?_
  rintro wb ⟨b_gb,hgb,hzb⟩
  have hBb:=m.grown hgb (AA m) (by rintro _ ⟨⟩;omega)
  refine Ab O<|Ab O<|Aq<|Bd<|Ao<|Ao<|Bd<|Ao<|Ef O O O O ‹_› underlying24 O O O ?_
  exact ⟨hBb,Ie (AA hBb) (r1 _ eP).1 (r1 _ eP).2.1 (r1 _ eP).2.2⟩
 intro gi
 have gi:i=ts.length:=by have:=AC gi;omega
 have eP:=hA.done gi
 obtain ⟨rA,rE,rR⟩:=r2 _ eP
 rw [GB] at rE rR
 have a:=L.g
 clear f l jK jM D hA eP
 refine Bx<|A0<|A0<|Bh<|A3<|Cc<|Ap<|Ah<|Aa (Bu (DR _) (BZ _) O O ‹_›) O ?_
 refine Ai O O (Hw vn ls w13 L.gn) ?_
 rintro _ w14 ⟨hn,rfl⟩
 have z14:=hn.size
 replace m:=bt m hn
 have L:=L.bs hn
 have a:=a.bs hn
 refine Aa (Cq O) O<|Ak<|Al O ?_ ?_
 ·intro g
  have g:(EU ls).isSome=false:=by simpa using g
  refine Ah<|Aa (Bg (vs:=[]) (cs:=[.slice none 0 0]) O (by kernel_rfl)) O<|Ax (Ci (cs:=[.slice none 0 0]) (k:=1) (by kernel_rfl) O O O O a O) ?_
  rintro wb ⟨b_gb,hgb,hzb⟩
  have hBb:=m.grown hgb (AA m) (by rintro _ ⟨⟩;omega)
  refine Ab O<|Ab O<|Bl<|Ef O O O O ‹_› underlying24 O O O ?_
  exact ⟨hBb,Ie (AA hBb) rA (by rw [rE,g];rfl) (by rw [rR,g];rfl)⟩
 intro g
 have g:(EU ls).isSome=true:=by simpa using g
 rw [g] at rE rR
 refine Ca<|A6 underlying24 O (BW _)<|Aa (An (DH _) O ‹_› rfl) O ?_
 refine Ai O O (Ij vn _ _ _ (AH L.o)) ?_
 rintro _ w15 ⟨rfl,hn⟩
 have z15:=hn.size
 replace m:=bt m hn
 have L:=L.bs hn
 have a:=a.bs hn
 have k6:=AW.clip L.o
 refine A6 underlying24 O (BW _)<|Ax (B5 (u:=clip vn) (BW _) O O k6.sl.one' a (show 0<1 by decide)) ?_
 rintro w ⟨b_g16,hg16,hz16⟩
 have t6:∀b,some o=some b→∃cs,AK w15 b 24 cs:=fun b e=>by cases e;exact ⟨_,a⟩
 have k7:=AB k6 hg16 t6 (by decide)
 have l7:=L.lay.other hg16 t6 (by decide)
 have m:=m.grown hg16 (AA m) (by rintro _ ⟨⟩;omega)
 replace a:AK w o 24 [clip vn]:=b_g16
 have one7:[clip vn].all (·.oneCell')=true:=by simp [k7.sl.one']
 clear b_g16
 refine Au<|Aa (Bu (DR _) (BZ _) O O ‹_›) O ?_
 refine Ax (Ci (cs:=[clip vn]) (k:=1) (by kernel_rfl) O O O one7 a O) ?_
 rintro w17 ⟨b_g17,hg17,hz17⟩
 have t7:∀b,some o=some b→∃cs,AK w b 24 cs:=fun b e=>by cases e;exact ⟨_,a⟩
 have k8:=AB k7 hg17 t7 (by decide)
 have l8:=l7.other hg17 t7 (by decide)
 have m:=m.grown hg17 (AA m) (by rintro _ ⟨⟩;omega)
 refine Ab O<|Ab O<|Aq<|Ef O O O O ‹_› underlying24 O O O ?_
 exact ⟨m,clip vn,ls,by rw [rA,rE];rfl,by rw [rR];rfl,Fh (l8.top (by omega)) (by omega),k8.mono (by omega)⟩

-- dd: text
theorem EF {w:World} {n p m i k o:Nat} {c d:TypeId} {u v:Value} {xs h:List Value} (l:w.ownsRow n c m u k xs) (j:w.ownsRow p d i v o h) (a:c≠d):u.ownBlock=none∨u.ownBlock≠v.ownBlock:=by
 cases hu:u.ownBlock with
 |none=>exact .inl rfl
 |some b=>
  refine .inr fun e=> ?_
  obtain ⟨cs,f⟩:=AW.ty (.inl l) hu
  obtain ⟨ds,g⟩:=AW.ty (.inl j) e.symm
  exact a (DE f g)
set_option maxHeartbeats 1000000 in
theorem Kb (v:Value) (ls:List N5) (W:World) (Q:HZ W) (h:GN W v ls):AO prog 25 [.agg [v].toArray] W (fun r w' =>Below W.heap.size W w' ∧r= .tuple #[st (GG ls), .int .i64 (GH ls)]):=by
 have A:=Below.refl W.heap.size W
 have zG:=Q.sz
 have hG0:=Q
 have h0:=h
 have N:=h.sl
 refine A5 (n:=73) func25 O<|Ah<|Cv (cs:=[v]) O O O ?_
 rintro A_g w eA_g F b -
 have A:=A.bs b
 have Q:=Q.bs b
 have h:=h.bs b
 have N:=N.bs b
 refine Ab O<|Ab O<|Ba<|Aa (Bu (DR _) (BZ _) O O ‹_›) O ?_
 refine Ai O O (Hw v ls _ h) ?_
 rintro _ w ⟨b,rfl⟩
 have A:=A.bs b
 have Q:=Q.bs b
 have h:=h.bs b
 have N:=N.bs b
 have F:=F.bs b
 refine Aa (Cq O) O<|Ak<|Al O ?_ ?_
 ·intro g
  have g:(EU ls).isSome=false:=by simpa using g
  refine Ah<|Ab O<|Ab O<|Bl<|Bj O O O ?_
  exact ⟨A,by unfold GG GH;rw [g];rfl⟩
 intro g
 have g:(EU ls).isSome=true:=by simpa using g
 obtain ⟨h32,hL⟩:=Ht g
 rw [show GG ls=AX ls by unfold GG;rw [g];rfl,show GH ls=0 by unfold GH;rw [g];rfl]
 clear g
 have z0:=AA A
 refine Ca<|C8 Rb O ?_
 rintro G w eA_b b_b b zhn
 have zb:=b.size
 have yb:=AY b_b
 have A:=A.bs b
 have Q:=Q.bs b
 have h:=h.bs b
 have N:=N.bs b
 have F:=F.bs b
 have u:=Qe b_b
 refine Au<|Ai O O (Oa w) ?_
 rintro _ w ⟨b,M,rfl,zM,K⟩
 have K:=K.in
 have zr:=b.size
 have A:=A.bs b
 have Q:=Q.bs b
 have h:=h.bs b
 have N:=N.bs b
 have F:=F.bs b
 have u:=u.bs b
 refine Ab O<|Ba<|A6 underlying24 O (BW _)<|Aa (An (DH _) O ‹_› rfl) O ?_
 refine Aa (Ay BX O ‹_›) O ?_
 refine Ad O<|Ak<|Av ?_
 refine B4 (S:=Nat) (fun i=>[(4, .pointer (some ⟨G,0,none⟩)),(5, .map (some M)),(15,v),(16, .int .i64 (ls.length:Int)),(17, .int .i64 (i:Int))]) (fun i w' =>i≤ls.length∧Below W.heap.size W w' ∧Q1 w' G (AX (ls.take i))∧BF w' M (.int .u8) RD) (fun i=>ls.length - i) (0) ⟨rfl,rfl,rfl,rfl,rfl,trivial⟩ ?_ ?_
 ·exact ⟨Nat.zero_le _,A,u,K⟩
 clear u K A Q h N F
 rintro i w ⟨hi,A,u,K⟩
 have D:=hG0.bs A
 have hw:=h0.bs A
 have N:=hw.sl
 refine Ah<|B9 O<|Ak<|Ap<|Al O ?_ ?_
 ·intro gi
  have E:i<ls.length:=by have:=AE gi;omega
  obtain ⟨x,hx⟩:∃x,x=ls[i]:=⟨_,rfl⟩
  have hxm:x ∈ ls:=hx ▸ getElem_mem E
  have J:=hw.each x hxm
  have hcl:=hw.cells E
  rw [← hx] at hcl
  have L:=hL x hxm
  obtain ⟨r1,r2⟩:=Oc L.kd
  obtain ⟨l1,l2⟩:=J6 L
  obtain ⟨r,hr⟩:∃r,r=AP x.k:=⟨_,rfl⟩
  rw [← hr] at r1 r2 l1 l2
  refine B2<|Ap<|Av<|Ah<|Aa (Dx BX O O N i O E) O<|Aa (Et (cs:=x.cells) (GM _) (GI _) O N O (by decide) hcl) O<|Cu (cs:=x.cells) GK O O O O (fun _=>rfl) (J.ones) ?_
  rintro A_x w eA_x s b zhn
  have A:=A.bs b
  have D:=D.bs b
  have u:=u.bs b
  have K:=K.bs b
  have J:=J.bs b
  refine Au<|Ad O<|A6 underlying79 O (FJ _)<|Aa (An (GO _) O ‹_› rfl) O ?_
  refine Aa (E5 underlying122 BO O O O K ⟨_,_,(show Tryz.prog.info? 125=some Tryz.t125 by kernel_rfl),rfl⟩ r1 r2) O<|Cu (cs:=r.cells) LH O O O O (fun _=>rfl) (rfl) ?_
  rintro A_r z eA_r t b zhn
  have A:=A.bs b
  have D:=D.bs b
  have u:=u.bs b
  have K:=K.bs b
  have J:=J.bs b
  have s:=s.bs b
  have zw:=A.size
  have hx0:=J
  have R:=s
  have U:=t
  have a:=Below.refl z.heap.size z
  obtain ⟨A1,hA1⟩:∃A1,A1=[r.word]++x.i.map Lib.itoa:=⟨_,rfl⟩
  obtain ⟨A2,V⟩:∃A2,A2=A1++(if r.nxt=[] then [] else [r.nxt]):=⟨_,rfl⟩
  obtain ⟨C,T⟩:∃C,C=A2++(if r.shaped then x.s.map Lib.itoa else if r.nxt=[] then [] else [Lib.itoa x.n]):=⟨_,rfl⟩
  have eW:BY r x=C++(if r.last=[] then [] else [r.last,Lib.itoa x.p]):=by rw [T,V,hA1];rfl
  have n3:C.length≤12:=by have:=cngA length eW;rw [length_append] at this;omega
  have n2:A2.length≤12:=by have:=cngA length T;rw [length_append] at this;omega
  have n1:A1.length≤12:=by have:=cngA length V;rw [length_append] at this;omega
  have b64:∀{l:List Int},(∀d ∈ l,0≤d∧d≤65536)→∀d ∈ l, -9223372036854775808≤d∧d≤9223372036854775807:=fun hl d H=>by have:=hl d H;omega
  refine Au<|A6 underlying125 O (Ha _)<|Aa (An (FH _) O ‹_› rfl) O ?_
  refine Ar (Ch (vs:=[r.word].map st) BR Jp O O O O O) O ?_
  rintro y w ⟨c, -,b, -⟩
  have a:=a.trans b
  have s:=R.bs a
  have t:=U.bs a
  have c:w.ownsRow z.heap.size 9 1 y ([r.word]:List (List UInt8)).length (([r.word]:List (List UInt8)).map st):=c
  refine A6 underlying79 O (BQ _)<|Aa (An (BA _) O ‹_› rfl) O ?_
  refine Ai O O (G4 y x.x [r.word] x.i z _ D a c (fun w' g _=>hx0.i.bs g) (b64 L.ii) (by have:=L.il;simp only [length_singleton];omega)) ?_
  rintro y w ⟨a,c, -⟩
  rw [← hA1] at c
  have s:=R.bs a
  have t:=U.bs a
  refine Ab O<|Ba<|A6 underlying125 O (Ha _)<|Aa (An (FH _) O ‹_› rfl) O ?_
  refine Aa (En O O) O<|Ak ?_
  refine D8 (St:=Value) (fun y=>[(4, .pointer (some ⟨G,0,none⟩)),(5, .map (some M)),(7, .pointer (some ⟨A_x,0,none⟩)),(8, .pointer (some ⟨A_r,0,none⟩)),(9,y),(15,v),(16, .int .i64 (ls.length:Int)),(17, .int .i64 (i:Int))]) (fun y w' =>Below z.heap.size z w' ∧w'.ownsRow z.heap.size 9 1 y A2.length (A2.map st)) ?_ ?_
  ·refine Al O ?_ ?_
   ·intro e
    have e:¬r.nxt=[]:=by simpa using e
    refine A4<|Ad O<|A6 underlying125 O (Ha _)<|Aa (An (FH _) O ‹_› rfl) O ?_
    refine Ar (Ch (vs:=[r.nxt].map st) BR Jp O O O O O) O ?_
    rintro q w2 ⟨m, -,b, -⟩
    replace c:=AG c b
    have o:=a.size
    have a:=a.trans (b.mono o)
    have z2:=a.size
    refine Ar (Co (base:=z.heap.size) BR Jp O (by decide) O O c (AH m) (Iv _) (by omega) (by omega) z2) O ?_
    rintro y w3 ⟨c,I, -, -⟩
    have a:=a.trans I
    rw [← map_append,show A1.length+1=(A1++[r.nxt]).length by rw [length_append];rfl] at c
    refine Ab O<|A7 ?_
    exact Bv (y) ⟨rfl,rfl,rfl,rfl,rfl,rfl,rfl,rfl,trivial⟩ (⟨a,by rw [V,if_neg e];exact c⟩)
   intro e
   have e:r.nxt=[]:=by simpa using e
   refine B7 ?_
   exact Bv (y) ⟨rfl,rfl,rfl,rfl,rfl,rfl,rfl,rfl,trivial⟩ (⟨a,by rw [V,if_pos e,append_nil];exact c⟩)
  clear a c s t
  rintro y w ⟨a,c⟩
  have s:=R.bs a
  have t:=U.bs a
  refine Ap ?_
  refine D8 (St:=Value) (fun y=>[(4, .pointer (some ⟨G,0,none⟩)),(5, .map (some M)),(7, .pointer (some ⟨A_x,0,none⟩)),(8, .pointer (some ⟨A_r,0,none⟩)),(9,y),(15,v),(16, .int .i64 (ls.length:Int)),(17, .int .i64 (i:Int))]) (fun y w' =>Below z.heap.size z w' ∧w'.ownsRow z.heap.size 9 1 y C.length (C.map st)) ?_ ?_
  ·refine Av<|Ah<|Aa (Bu (k:=5) (Pm _) (NR _) O O t) O<|Ai O O (K6 r w) ?_
   rintro _ w2 ⟨rfl,b⟩
   replace c:=AG c b
   have o:=a.size
   have a:=a.trans (b.mono o)
   have s:=R.bs a
   have t:=U.bs a
   refine Ab O<|Ak<|Al O ?_ ?_
   ·intro e
    refine A4<|Ad O<|A6 underlying79 O (BQ _)<|Aa (An (BA _) O ‹_› rfl) O ?_
    refine Ai O O (G4 y x.y A2 x.s z _ D a c (fun w' g _=>hx0.s.bs g) (b64 L.ss) (by have:=L.sl;omega)) ?_
    rintro y w3 ⟨a,c, -⟩
    refine Ab O<|A7<|Bb ?_
    exact Bv (y) ⟨rfl,rfl,rfl,rfl,rfl,rfl,rfl,rfl,trivial⟩ (⟨a,by rw [T,if_pos e];exact c⟩)
   intro e
   refine Ah<|A6 underlying125 O (Ha _)<|Aa (An (FH _) O ‹_› rfl) O ?_
   refine Aa (En O O) O<|Ab O<|Ak<|Al O ?_ ?_
   ·intro e2
    have e2:¬r.nxt=[]:=by simpa using e2
    refine A4<|Ad O<|A6 underlying79 O (BU _)<|Aa (An (BD _) O ‹_› rfl) O ?_
    refine Ar (Ch (vs:=[x.n].map (Value.int .i64)) AF DL O O O O O) O ?_
    rintro q w3 ⟨m, -,I, -⟩
    replace c:=AG c I
    have z2:=a.size
    have a:=a.trans (I.mono z2)
    have m:w3.ownsRow w2.heap.size 3 1 q ([x.n]:List Int).length (([x.n]:List Int).map (Value.int .i64)):=m
    refine Ai O O (G4 y q A2 [x.n] z _ D a c (fun w' _ g=>(AN m).by g (EF m c (by decide))) (fun d H=>by rw [List.mem_singleton.1 H];have:=L.nn;omega) (by simp only [length_singleton];omega)) ?_
    rintro y w4 ⟨a,c, -⟩
    refine Ab O<|A7<|Bb ?_
    exact Bv (y) ⟨rfl,rfl,rfl,rfl,rfl,rfl,rfl,rfl,trivial⟩ (⟨a,by rw [T,if_neg (by rw [e];decide),if_neg e2];exact c⟩)
   intro e2
   have e2:r.nxt=[]:=by simpa using e2
   refine B7<|Bb ?_
   exact Bv (y) ⟨rfl,rfl,rfl,rfl,rfl,rfl,rfl,rfl,trivial⟩ (⟨a,by rw [T,if_neg (by rw [e];decide),if_pos e2,append_nil];exact c⟩)
  clear a c s t
  rintro y w ⟨a,c⟩
  have s:=R.bs a
  have t:=U.bs a
  refine Ap<|Ah<|A6 underlying125 O (Ha _)<|Aa (An (FH _) O ‹_› rfl) O ?_
  refine Aa (En O O) O<|Ak ?_
  refine D8 (St:=Value) (fun y=>[(4, .pointer (some ⟨G,0,none⟩)),(5, .map (some M)),(9,y),(15,v),(16, .int .i64 (ls.length:Int)),(17, .int .i64 (i:Int))]) (fun y w' =>Below z.heap.size z w' ∧w'.ownsRow z.heap.size 9 1 y (BY r x).length ((BY r x).map st)) ?_ ?_
  ·refine Al O ?_ ?_
   ·intro e
    have e:¬r.last=[]:=by simpa using e
    refine Cw.any mixed (fun w2 H _=> ?_)
    replace c:=AG c H
    have o:=a.size
    have a:=a.trans (H.mono o)
    have s:=s.bs H
    have t:=t.bs H
    clear H o
    refine Dc (fun w' =>Below z.heap.size z w') (fun hC=> ?_) (a)
    refine B8 Ck<|Aj 0 O (fun w1 X=>Bt O) O<|Aj 1 O (fun w1 X=>Cr underlying125 O (Ha _)) O<|Aj 2 O (fun w1 X=>An (FH _) O (AK.bs ‹_› X) O) O<|Aj 5 O (fun w1 X=>Cr underlying79 O (BU _)) O<|Aj 6 O (fun w1 X=>An (BD _) O (AK.bs ‹_› X) O) O<|Br ?_
    refine AR.two ‹_› (i:=3) (j:=7) (by kernel_rfl) O O ?_ ?_
    refine Ar (Ch (vs:=[r.last].map st) BR Jp O O O O O) O ?_
    rintro q w ⟨m, -,b, -⟩
    have o:=a.size
    have a:=a.trans (b.mono o)
    replace c:=AG c b
    try replace f:=AG f b
    clear o b
    refine AR.back ?_
    refine AR.two ‹_› (i:=4) (j:=7) (by kernel_rfl) O O ?_ ?_
    have o:=a.size
    refine Ar (Co (base:=z.heap.size) BR Jp O (by decide) O O c (AH m) (Iv _) (by omega) (by omega) o) O ?_
    rintro y w ⟨B,b,Y, -⟩
    try replace f:=f.kept Y (EF f c (by decide))
    have a:=a.trans b
    rw [← map_append,show C.length+1=(C++[r.last]).length by rw [length_append];rfl] at B
    replace c:=B
    clear o b Y m B
    refine AR.back<|AR.only ‹_› (i:=7) (by kernel_rfl) O ?_
    refine Ar (Ch (vs:=[x.p].map (Value.int .i64)) AF DL O O O O O) O ?_
    rintro p w ⟨f, -,b, -⟩
    have o:=a.size
    have a:=a.trans (b.mono o)
    replace c:=AG c b
    try replace m:=AG m b
    clear o b
    refine AR.back<|AR.only ‹_› (i:=8) (by kernel_rfl) O ?_
    refine Ai O O (G4 y p (C++[r.last]) [x.p] z _ D a c (fun w' _ g=>(show BG (Value.int .i64) _ p [x.p] from AN f).by g (EF f c (by decide))) (fun d H=>by rw [List.mem_singleton.1 H];have:=L.pp;omega) (by simp only [length_append,length_singleton];omega)) ?_
    rintro y w ⟨a,c, -⟩
    refine AR.back<|B8 Ck<|Aj 9 O (fun w1 X=>B0 O) O<|Br<|AR.done ‹_› (by kernel_rfl) ?_
    exact Bv (y) ⟨rfl,rfl,rfl,rfl,rfl,rfl,trivial⟩ (⟨a,by rw [eW,if_neg e,show C++[r.last,Lib.itoa x.p]=C++[r.last]++[x.p].map Lib.itoa by simp];exact c⟩)
    refine Ar (Ch (vs:=[x.p].map (Value.int .i64)) AF DL O O O O O) O ?_
    rintro p w ⟨f, -,b, -⟩
    have o:=a.size
    have a:=a.trans (b.mono o)
    replace c:=AG c b
    try replace m:=AG m b
    clear o b
    refine AR.back<|AR.only ‹_› (i:=4) (by kernel_rfl) O ?_
    have o:=a.size
    refine Ar (Co (base:=z.heap.size) BR Jp O (by decide) O O c (AH m) (Iv _) (by omega) (by omega) o) O ?_
    rintro y w ⟨B,b,Y, -⟩
    try replace f:=f.kept Y (EF f c (by decide))
    have a:=a.trans b
    rw [← map_append,show C.length+1=(C++[r.last]).length by rw [length_append];rfl] at B
    replace c:=B
    clear o b Y m B
    refine AR.back<|AR.only ‹_› (i:=8) (by kernel_rfl) O ?_
    refine Ai O O (G4 y p (C++[r.last]) [x.p] z _ D a c (fun w' _ g=>(show BG (Value.int .i64) _ p [x.p] from AN f).by g (EF f c (by decide))) (fun d H=>by rw [List.mem_singleton.1 H];have:=L.pp;omega) (by simp only [length_append,length_singleton];omega)) ?_
    rintro y w ⟨a,c, -⟩
    refine AR.back<|B8 Ck<|Aj 9 O (fun w1 X=>B0 O) O<|Br<|AR.done ‹_› (by kernel_rfl) ?_
    exact Bv (y) ⟨rfl,rfl,rfl,rfl,rfl,rfl,trivial⟩ (⟨a,by rw [eW,if_neg e,show C++[r.last,Lib.itoa x.p]=C++[r.last]++[x.p].map Lib.itoa by simp];exact c⟩)
    refine Ar (Ch (vs:=[x.p].map (Value.int .i64)) AF DL O O O O O) O ?_
    rintro p w ⟨f, -,b, -⟩
    have o:=a.size
    have a:=a.trans (b.mono o)
    replace c:=AG c b
    try replace m:=AG m b
    clear o b
    refine AR.back<|AR.only ‹_› (i:=3) (by kernel_rfl) O ?_
    refine Ar (Ch (vs:=[r.last].map st) BR Jp O O O O O) O ?_
    rintro q w ⟨m, -,b, -⟩
    have o:=a.size
    have a:=a.trans (b.mono o)
    replace c:=AG c b
    try replace f:=AG f b
    clear o b
    refine AR.back<|AR.only ‹_› (i:=4) (by kernel_rfl) O ?_
    have o:=a.size
    refine Ar (Co (base:=z.heap.size) BR Jp O (by decide) O O c (AH m) (Iv _) (by omega) (by omega) o) O ?_
    rintro y w ⟨B,b,Y, -⟩
    try replace f:=f.kept Y (EF f c (by decide))
    have a:=a.trans b
    rw [← map_append,show C.length+1=(C++[r.last]).length by rw [length_append];rfl] at B
    replace c:=B
    clear o b Y m B
    refine AR.back<|AR.only ‹_› (i:=8) (by kernel_rfl) O ?_
    refine Ai O O (G4 y p (C++[r.last]) [x.p] z _ D a c (fun w' _ g=>(show BG (Value.int .i64) _ p [x.p] from AN f).by g (EF f c (by decide))) (fun d H=>by rw [List.mem_singleton.1 H];have:=L.pp;omega) (by simp only [length_append,length_singleton];omega)) ?_
    rintro y w ⟨a,c, -⟩
    refine AR.back<|B8 Ck<|Aj 9 O (fun w1 X=>B0 O) O<|Br<|AR.done ‹_› (by kernel_rfl) ?_
    exact Bv (y) ⟨rfl,rfl,rfl,rfl,rfl,rfl,trivial⟩ (⟨a,by rw [eW,if_neg e,show C++[r.last,Lib.itoa x.p]=C++[r.last]++[x.p].map Lib.itoa by simp];exact c⟩)
   intro e
   have e:r.last=[]:=by simpa using e
   refine B7 ?_
   exact Bv (y) ⟨rfl,rfl,rfl,rfl,rfl,rfl,trivial⟩ (⟨a,by rw [eW,if_pos e,append_nil];exact c⟩)
  clear a c s t
  rintro y w ⟨a,c⟩
  have l3:=KP 32 (BY r x)
  have l4:=Lz l2
  have eT:AX (ls.take (i+1))=AX (ls.take i)++(Lib.join (BY r x) [32]++[10]):=by
   rw [take_succ_eq_append_getElem E,Js,← hx,hr]
   simp [AX,Hq]
  have lT:=G5 (ls:=ls.take i) fun y hy=>hL y (mem_of_mem_take hy)
  have lk:(ls.take i).length≤32:=by rw [length_take];omega
  have hne:0<(BY r x).length:=by unfold BY;simp only [length_append,length_singleton];omega
  refine A4<|Ad O<|Ai O O (QU y (BY r x) [32] _ _ c hne (by omega) (by omega)) ?_
  rintro _ w2 ⟨rfl,b⟩
  have o:=a.size
  have a:=a.trans (b.mono o)
  have hbl2:=u.bs a
  have hM2:=K.bs a
  have zM2:=hM2.lt
  have z2:=a.size
  refine Aa (Ex.addT O O (by simp only [length_singleton];omega)) O<|Ai O O (Pv G (AX (ls.take i)) (Lib.join (BY r x) [32]++[10]) _ hbl2 (by omega) (by simp only [length_append,length_singleton];omega)) ?_
  rintro _ w3 ⟨Z,I,hk3⟩
  rw [← eT] at Z
  have hM3:=hM2.oth hk3 (by omega)
  have hB3:=(A.trans (a.mono zw)).trans (I.mono (by omega))
  refine A7<|Bb<|Cx<|Cn O (by omega)<|Ad O<|A7 ?_
  exact A3 (B1 (i+1) ⟨rfl,rfl,rfl,rfl,rfl,trivial⟩ (⟨E,hB3,Z,hM3⟩) (by omega))
 intro gi
 have E:i=ls.length:=by have:=AC gi;omega
 subst E
 rw [take_length] at u
 have zz:=A.size
 have zM2:=K.lt
 refine Bx<|A0<|A0<|Bh<|Cl<|Ai O O (NT G (AX ls) _ u (by omega)) ?_
 rintro _ w2 ⟨rfl,b⟩
 exact Ab rfl<|Ab rfl<|Aq<|Bj rfl rfl rfl<|⟨A.trans (b.mono (by omega)),rfl⟩

-- dd: text
theorem PL (n:BitVec 32) (W:World):AO prog 38 [u32 n] W (fun r w' =>Below W.heap.size W w' ∧w'.ownsRow W.heap.size 5 1 r (Crc.four n).length ((Crc.four n).map b8)):=by
 refine A5 (n:=15) func38 O<|Ah<|Ab O<|Au<|Ad O<|Aa (C0 FQ It O) O<|Ad O<|Aa (Dv (j:=8) O O (by decide)) O<|Aa (C0 FQ It O) O<|Ad O<|Aa (Dv (j:=16) O O (by decide)) O<|Aa (C0 FQ It O) O<|Ad O<|Aa (Dv (j:=24) O O (by decide)) O<|Aa (C0 FQ It O) O<|Ar (Ch (vs:=(Crc.four n).map b8) AV IK O O O O O) O ?_
 rintro q w ⟨a, -,b, -⟩
 exact Ab rfl<|Aq<|Am rfl rfl<|⟨b,a⟩
def P4 (l:Bs):Bs:=l++Crc.four (Crc.of l)
theorem NS (v:Value) (l:Bs) (W:World) (i:BG b8 W v l) (B:l.length≤16777216):AO prog 37 [v] W (fun r w' =>Below W.heap.size W w' ∧w'.ownsRow W.heap.size 5 1 r (P4 l).length ((P4 l).map b8)):=by
 have s:v.cells=[v].toArray:=i.one
 refine A5 (n:=9) func37 O<|Ah<|Ab O<|Au<|Ad O<|Ar (Dj (k:=0) (xs:=[]) (base:=W.heap.size) AV IK O (by decide) O O (World.ownsRow_nil _ _ _ _) i (CH (fun _=>rfl) _) (by omega) (by omega) (AQ _)) O ?_
 rintro y o ⟨b,m, -⟩
 rw [nil_append,Nat.zero_add] at b
 have e:=i.bs m
 refine Ad O<|Ai O O (RL v l o e) ?_
 rintro _ u ⟨rfl,c⟩
 have g:=bt m c
 have p:=AG b c
 refine Ai O O (PL (Crc.of l) u) ?_
 rintro q x ⟨a,f⟩
 have d:=bt g a
 have t:=AG p a
 have A:(Crc.four (Crc.of l)).length=4:=rfl
 refine Ar (Dj (base:=W.heap.size) AV IK O (by decide) O O t (AH f) (CH (fun _=>rfl) _) (by omega) (by omega) (AA d)) O ?_
 rintro z w ⟨j,h, -⟩
 rw [← map_append,← length_append] at j
 exact Ab rfl<|Aq<|Am rfl rfl<|⟨d.trans h,j⟩
theorem ID (s:List UInt8) (W:World) (h:HZ W):AO prog 134 [st s] W (fun r w' =>Below W.heap.size W w' ∧r= .tuple #[.int .i64 (HB s), .int .i64 (FE s)]):=by
 refine A5 (n:=15) func134 O<|Ah<|Ab O<|Ab O<|Au<|Ad O<|Ai O O (Hi s W h) ?_
 rintro _ w ⟨e,a,ls,rfl, -,m,c⟩
 have k:[a].all (·.oneCell')=true:=by rw [all_cons,c.sl.one'];rfl
 refine Ad O<|Aa (Ex.extract (i:=0) O O) O<|Aa (Ex.extract (i:=1) O O) O<|Aa (Ex.extract (i:=2) O O) O<|Cu (cs:=[a]) IL O O O O (fun _=>rfl) (k) ?_
 rintro g l b f d j
 exact Ab rfl<|Ab rfl<|Au<|Ad rfl<|Ad rfl<|Ab rfl<|Ab rfl<|Aq<|Bj rfl rfl rfl<|⟨bt e d,rfl⟩
def H5:List PN:=[(1#8,[],[2,3],0,0),(2#8,[],[3,2],0,0),(7#8,[0,1],[],0,0),(5#8,[2],[],0,0)]
theorem Li (k:BitVec 8) (v:Value) (a:v.cells=[v].toArray):Tryz.prog.built 79 [(0,b8 k),(2,v)]=some [b8 k, .slice none 0 0,v, .int .i64 0, .int .i64 0].toArray:=by
 have d:Tryz.prog.info? 79=some Tryz.t79:=by kernel_rfl
 have b:Tryz.prog.info? 3=some Tryz.t3:=by kernel_rfl
 have e:Tryz.prog.info? 77=some Tryz.t77:=by kernel_rfl
 have c:Tryz.prog.info? 70=some Tryz.t70:=by kernel_rfl
 simp [Program.built,d,underlying79,b,e,c,Instr.fill,a]
 rfl
theorem Lj (k:BitVec 8) (v:Value) (a:v.cells=[v].toArray):Tryz.prog.built 79 [(0,b8 k),(1,v)]=some [b8 k,v, .slice none 0 0, .int .i64 0, .int .i64 0].toArray:=by
 have d:Tryz.prog.info? 79=some Tryz.t79:=by kernel_rfl
 have b:Tryz.prog.info? 3=some Tryz.t3:=by kernel_rfl
 have e:Tryz.prog.info? 77=some Tryz.t77:=by kernel_rfl
 have c:Tryz.prog.info? 70=some Tryz.t70:=by kernel_rfl
 simp [Program.built,d,underlying79,b,e,c,Instr.fill,a]
 rfl
theorem Pf (v:Value) (b:v.cells=[v].toArray):Tryz.prog.built 24 [(0,v)]=some [v].toArray:=by
 have a:Tryz.prog.info? 24=some Tryz.t24:=by kernel_rfl
 have c:Tryz.prog.info? 22=some Tryz.t22:=by kernel_rfl
 simp [Program.built,a,underlying24,c,Instr.fill,b]
 rfl
theorem PO (W:World):AO prog 133 [] W (fun r w' =>Below W.heap.size W w' ∧∃N ls,r= .agg [N].toArray∧GN w' N ls∧ls.map pn=H5):=by
 refine A5 (n:=11) func133 O<|Ah<|C8 IL O ?_
 rintro J w0 L E Q V
 refine Au<|Ar (Ch (vs:=([2,3]:List Int).map (Value.int .i64)) AF DL O O O O O) O ?_
 rintro a R ⟨D, -,m, -⟩
 have t:BG (Value.int .i64) R a [2,3]:=AN D
 refine Aa (Bg (cs:=[b8 1#8, .slice none 0 0,a, .int .i64 0, .int .i64 0]) O (Li 1#8 a t.one)) O<|Ar (Ch (vs:=([3,2]:List Int).map (Value.int .i64)) AF DL O O O O O) O ?_
 rintro b Y ⟨G, -,j, -⟩
 have o:BG (Value.int .i64) Y b [3,2]:=AN G
 refine Aa (Bg (cs:=[b8 2#8, .slice none 0 0,b, .int .i64 0, .int .i64 0]) O (Li 2#8 b o.one)) O<|Ar (Ch (vs:=([0,1]:List Int).map (Value.int .i64)) AF DL O O O O O) O ?_
 rintro c U ⟨w, -,i, -⟩
 have q:BG (Value.int .i64) U c [0,1]:=AN w
 refine Aa (Bg (cs:=[b8 7#8,c, .slice none 0 0, .int .i64 0, .int .i64 0]) O (Lj 7#8 c q.one)) O<|Ar (Ch (vs:=([2]:List Int).map (Value.int .i64)) AF DL O O O O O) O ?_
 rintro d S ⟨A, -,h, -⟩
 have p:BG (Value.int .i64) S d [2]:=AN A
 refine Aa (Bg (cs:=[b8 5#8,d, .slice none 0 0, .int .i64 0, .int .i64 0]) O (Lj 5#8 d p.one)) O ?_
 obtain ⟨ls,g⟩:∃ls:List N5,ls=[⟨1#8, .slice none 0 0,a,[],[2,3],0,0⟩,⟨2#8, .slice none 0 0,b,[],[3,2],0,0⟩,⟨7#8,c, .slice none 0 0,[0,1],[],0,0⟩,⟨5#8,d, .slice none 0 0,[2],[],0,0⟩]:=⟨_,rfl⟩
 refine Ar (Xw.litA (cs:=HT N5.cells ls) (k:=4) (vs:=[(0, .agg [b8 1#8, .slice none 0 0,a, .int .i64 0, .int .i64 0].toArray),(1, .agg [b8 2#8, .slice none 0 0,b, .int .i64 0, .int .i64 0].toArray),(2, .agg [b8 7#8,c, .slice none 0 0, .int .i64 0, .int .i64 0].toArray),(3, .agg [b8 5#8,d, .slice none 0 0, .int .i64 0, .int .i64 0].toArray)]) BX GK O (by decide) (by decide) (by decide) (by rw [g];kernel_rfl) (by rw [g];rfl)) O ?_
 rintro v K ⟨z, -,f, -⟩
 have C:=bt (bt (bt (bt (bt Q m) j) i) h) f
 have l:=((((E.bs m).bs j).bs i).bs h).bs f
 have s:=bt (bt i h) f
 have B:=bt j s
 have y:GN K v ls:=by
  refine ⟨by have:=AH z;rw [g] at this ⊢;exact this, ?_⟩
  rw [g]
  intro x F
  simp only [mem_cons,not_mem_nil,or_false] at F
  rcases F with rfl|rfl|rfl|rfl
  ·exact ⟨Cs _ _,t.bs B⟩
  ·exact ⟨Cs _ _,o.bs s⟩
  ·exact ⟨q.bs (bt h f),Cs _ _⟩
  ·exact ⟨p.bs f,Cs _ _⟩
 have H:ls.map pn=H5:=by rw [g];rfl
 refine Aa (Bg (cs:=[v]) O (Pf v y.sl.one)) O ?_
 have I:[v].all (·.oneCell')=true:=by rw [all_cons,y.sl.one'];rfl
 refine Ax (Ci (cs:=[v]) (k:=1) (by kernel_rfl) O O O I l O) ?_
 rintro Z ⟨M,u,hz⟩
 have zB:=AA Q
 have X:∀b,some J=some b→∃cs,AK K b 24 cs:=fun b e=>by cases e;exact ⟨_,l⟩
 refine Aq<|F7 O O ‹_› underlying24 O O O ?_
 refine ⟨C.grown u (AA C) (by rintro _ ⟨⟩;omega),v,ls,rfl, ?_,H⟩
 have T:=DX z u X (by decide)
 refine ⟨by have:=AH T;rw [g] at this ⊢;exact this, ?_⟩
 have n0:=m.size
 have n1:=j.size
 have n2:=i.size
 have n3:=h.size
 have n4:=f.size
 have lg:=AY E
 rw [g]
 intro x F
 simp only [mem_cons,not_mem_nil,or_false] at F
 rcases F with rfl|rfl|rfl|rfl
 ·exact ⟨Cs _ _,(t.bs B).by u (.inr fun e=>by have:=(AD D _ e).1;omega)⟩
 ·exact ⟨Cs _ _,(o.bs s).by u (.inr fun e=>by have:=(AD G _ e).1;omega)⟩
 ·exact ⟨(q.bs (bt h f)).by u (.inr fun e=>by have:=(AD w _ e).1;omega),Cs _ _⟩
 ·exact ⟨(p.bs f).by u (.inr fun e=>by have:=(AD A _ e).1;omega),Cs _ _⟩
theorem Hr {d:Nat} (h:d<10):Lib.itoa (d:Int)=[UInt8.ofNat (48+d)]:=by rw [Lib.itoa_nonneg,Lib.decDigits_one h]
theorem Ng:(EU (H5.map un)).isSome=true:=by decide+kernel
theorem LF:AX (H5.map un)=[105,110,112,117,116,32,50,32,51,10,119,101,105,103,104,116,32,51,32,50,10,112,114,111,100,117,99,116,32,48,32,49,10,114,101,108,117,32,50,10]:=by
 have f:AP 1#8=⟨1,[105,110,112,117,116],0,0,[],[]⟩:=rfl
 have i:AP 2#8=⟨2,[119,101,105,103,104,116],0,0,[],[]⟩:=rfl
 have h:AP 7#8=⟨7,[112,114,111,100,117,99,116],2,2,[],[]⟩:=rfl
 have c:AP 5#8=⟨5,[114,101,108,117],1,1,[],[]⟩:=rfl
 have a:Lib.itoa 0=[48]:=Hr (d:=0) (by decide)
 have g:Lib.itoa 1=[49]:=Hr (d:=1) (by decide)
 have b:Lib.itoa 2=[50]:=Hr (d:=2) (by decide)
 have e:Lib.itoa 3=[51]:=Hr (d:=3) (by decide)
 simp [H5,un,AX,Hq,BY,f,i,h,c,a,g,b,e,Rw.shaped,Lib.join,Lib.joinTail]
theorem NY:HB [105,110,112,117,116,32,52,10,114,101,108,117,32,48]=0∧FE [105,110,112,117,116,32,52,10,114,101,108,117,32,48]=0∧(FL [105,110,112,117,116,32,52,10,114,101,108,117,32,48]).length=2:=by decide+kernel
theorem Ql:HB [105,110,112,117,116,32,52,10,114,101,108,117]=1∧FE [105,110,112,117,116,32,52,10,114,101,108,117]=4:=by decide+kernel
theorem Qk:HB [105,110,112,117,116,32,52,10,114,101,108,117,32,49]=0∧FE [105,110,112,117,116,32,52,10,114,101,108,117,32,49]=1:=by decide+kernel
theorem Qj:HB [105,110,112,117,116,32,48,52]=0∧FE [105,110,112,117,116,32,48,52]=4:=by decide+kernel
theorem RE:KX [1#8,2#8,3#8]=5:=by decide+kernel
theorem RC:KX [0#8,0#8,0#8,0#8]=4:=by decide+kernel
theorem RB:KX (P4 [7#8])=4:=by decide+kernel
theorem Kn (W:World) (c:HZ W):AO prog 32 [] W (fun r w' =>r= .bool true∧Below W.heap.size W w'):=by
 have d:=Below.refl W.heap.size W
 refine A5 (n:=108) func32 O<|Ah<|Ab O<|Au<|Ai O O (PO W) ?_
 rintro _ w ⟨a,L,ls,rfl,v,t⟩
 have d:=d.bs a
 have c:=c.bs a
 have B:GG ls=[105,110,112,117,116,32,50,32,51,10,119,101,105,103,104,116,32,51,32,50,10,112,114,111,100,117,99,116,32,48,32,49,10,114,101,108,117,32,50,10]∧GH ls=0:=by
  have E:(H5.map un).map pn=ls.map pn:=by rw [t];rfl
  have I:EU ls=EU (H5.map un):=by rw [← GB,← GB,E]
  have M:AX ls=AX (H5.map un):=by
   have k:∀l:List N5,AX l=((l.map pn).map fun p=>Hq (un p)).flatten:=fun l=>by
    unfold AX
    rw [map_map]
    rfl
   rw [k,k (H5.map un),E]
  unfold GG GH
  rw [I,Ng,M,LF]
  exact ⟨rfl,rfl⟩
 refine Ai O O (Kb L ls w c v) ?_
 rintro _ w ⟨a,rfl⟩
 have d:=d.bs a
 have c:=c.bs a
 clear a v
 rw [B.1,B.2]
 clear B t
 refine Ad O<|Aa (Ex.extract (i:=0) O O) O<|Aa (Ex.extract (i:=1) O O) O<|Ab O<|Ab O<|Au<|Ai O O (Hi [105,110,112,117,116,32,52,10,114,101,108,117,32,48] w c) ?_
 rintro _ w ⟨a,C,xs,rfl,D, -,A⟩
 have d:=d.bs a
 have c:=c.bs a
 have J:xs.length=2:=by rw [← NY.2.2,← D,length_map]
 rw [NY.1,NY.2.1]
 have N:[C].all (·.oneCell')=true:=by rw [all_cons,A.sl.one'];rfl
 have R:=A.sl.shp
 clear A D
 refine Ad O<|Aa (Ex.extract (i:=0) O O) O<|Aa (Ex.extract (i:=1) O O) O<|Aa (Ex.extract (i:=2) O O) O<|Cu (cs:=[C]) IL O O O O (fun _=>rfl) (N) ?_
 rintro G w F b a -
 have d:=d.bs a
 have c:=c.bs a
 refine Ab O<|Ab O<|Au<|Ai O O (ID [105,110,112,117,116,32,52,10,114,101,108,117] w c) ?_
 rintro _ w ⟨a,rfl⟩
 have d:=d.bs a
 have c:=c.bs a
 have b:=b.bs a
 rw [Ql.1,Ql.2]
 refine Ad O<|Aa (Ex.extract (i:=0) O O) O<|Aa (Ex.extract (i:=1) O O) O<|Ab O<|Ab O<|Au<|Ai O O (ID [105,110,112,117,116,32,52,10,114,101,108,117,32,49] w c) ?_
 rintro _ w ⟨a,rfl⟩
 have d:=d.bs a
 have c:=c.bs a
 have b:=b.bs a
 rw [Qk.1,Qk.2]
 refine Ad O<|Aa (Ex.extract (i:=0) O O) O<|Aa (Ex.extract (i:=1) O O) O<|Ab O<|Ab O<|Au<|Ai O O (ID [105,110,112,117,116,32,48,52] w c) ?_
 rintro _ w ⟨a,rfl⟩
 have d:=d.bs a
 have c:=c.bs a
 have b:=b.bs a
 rw [Qj.1,Qj.2]
 refine Ad O<|Aa (Ex.extract (i:=0) O O) O<|Aa (Ex.extract (i:=1) O O) O<|Ab O<|Ab O<|Au<|Ar (Ch (vs:=[1#8,2#8,3#8].map b8) AV IK O O O O O) O ?_
 rintro q w ⟨h, -,a, -⟩
 have d:=d.bs a
 have c:=c.bs a
 have b:=b.bs a
 refine Ai O O (LA q [1#8,2#8,3#8] w (AN h)) ?_
 rintro _ w ⟨a,e,f,x,y,rfl, -,j⟩
 have d:=d.bs a
 have c:=c.bs a
 have b:=b.bs a
 have m:[e,f].all (·.oneCell')=true:=by rw [all_cons,all_cons,j.nv.sl.one',j.wv.sl.one'];rfl
 clear j
 rw [RE]
 refine Ad O<|Aa (Ex.extract (i:=0) O O) O<|Aa (Ex.extract (i:=1) O O) O<|Cu (cs:=[e,f]) My O O O O (fun _=>rfl) (m) ?_
 rintro z w o g a u
 have d:=d.bs a
 have c:=c.bs a
 have b:=b.bs a
 clear a g m
 refine Ab O<|Au<|Ar (Ch (vs:=[0#8,0#8,0#8,0#8].map b8) AV IK O O O O O) O ?_
 rintro Q w ⟨h, -,a, -⟩
 have d:=d.bs a
 have c:=c.bs a
 have b:=b.bs a
 refine Ai O O (LA Q [0#8,0#8,0#8,0#8] w (AN h)) ?_
 rintro _ w ⟨a,e,f,x,y,rfl, -,j⟩
 have d:=d.bs a
 have c:=c.bs a
 have b:=b.bs a
 have m:[e,f].all (·.oneCell')=true:=by rw [all_cons,all_cons,j.nv.sl.one',j.wv.sl.one'];rfl
 clear j
 rw [RC]
 refine Ad O<|Aa (Ex.extract (i:=0) O O) O<|Aa (Ex.extract (i:=1) O O) O<|Cu (cs:=[e,f]) My O O O O (fun _=>rfl) (m) ?_
 rintro z w o g a u
 have d:=d.bs a
 have c:=c.bs a
 have b:=b.bs a
 clear a g m
 refine Ab O<|Au<|Ar (Ch (vs:=[7#8].map b8) AV IK O O O O O) O ?_
 rintro H w ⟨h, -,a, -⟩
 have d:=d.bs a
 have c:=c.bs a
 have b:=b.bs a
 refine Ai O O (NS H [7#8] w (AN h) (by decide)) ?_
 rintro K w ⟨a,s⟩
 have d:=d.bs a
 have c:=c.bs a
 have b:=b.bs a
 refine Ai O O (LA K (P4 [7#8]) w (AN s)) ?_
 rintro _ w ⟨a,e,f,x,y,rfl, -,j⟩
 have d:=d.bs a
 have c:=c.bs a
 have b:=b.bs a
 have m:[e,f].all (·.oneCell')=true:=by rw [all_cons,all_cons,j.nv.sl.one',j.wv.sl.one'];rfl
 clear j
 rw [RB]
 refine Ad O<|Aa (Ex.extract (i:=0) O O) O<|Aa (Ex.extract (i:=1) O O) O<|Cu (cs:=[e,f]) My O O O O (fun _=>rfl) (m) ?_
 rintro z w o g a u
 have d:=d.bs a
 have c:=c.bs a
 have b:=b.bs a
 clear a g m
 refine Ab O<|Au<|Ad O<|Aa (D5 O O) O<|Ad O<|Cd 58 (v' := .bool true) O (cngA Value.bool ((by decide)))<|Af (dj:=58) O O<|Ad O<|Af (dj:=58) O O<|Aa (Ce O O) O<|Bi O<|Ad O<|Cd 62 (v' := .bool true) O (cngA Value.bool ((by decide)))<|Af (dj:=62) O O<|A6 underlying24 O (BW _)<|Af (dj:=62) O O<|Aa (An (DH _) O ‹_› rfl) O ?_
 refine Af (dj:=62) O O<|Aa (Ep BX O R) O<|Af (dj:=62) O O<|Aa (Ce O O) O<|Bi O<|Ad O<|Cd 68 (v' := .bool true) O (cngA Value.bool ((by rw [J];rfl)))<|Af (dj:=68) O O<|Ad O<|Af (dj:=68) O O<|Aa (Ce O O) O<|Bi O<|Ad O<|Cd 72 (v' := .bool true) O (cngA Value.bool ((by decide)))<|Af (dj:=72) O O<|Ad O<|Af (dj:=72) O O<|Aa (Ce O O) O<|Bi O<|Ad O<|Cd 76 (v' := .bool true) O (cngA Value.bool ((by decide)))<|Af (dj:=76) O O<|Ad O<|Af (dj:=76) O O<|Aa (Ce O O) O<|Bi O<|Ad O<|Cd 80 (v' := .bool true) O (cngA Value.bool ((by decide)))<|Af (dj:=80) O O<|Ad O<|Af (dj:=80) O O<|Aa (Ce O O) O<|Bi O<|Ad O<|Cd 84 (v' := .bool true) O (cngA Value.bool ((by decide)))<|Af (dj:=84) O O<|Ad O<|Af (dj:=84) O O<|Aa (Ce O O) O<|Bi O<|Ad O<|Cd 88 (v' := .bool true) O (cngA Value.bool ((by decide)))<|Af (dj:=88) O O<|Ad O<|Af (dj:=88) O O<|Aa (Ce O O) O<|Bi O ?_
 refine Ad O<|Cd 92 (v' := .bool true) O (cngA Value.bool ((by decide)))<|Af (dj:=92) O O<|Ad O<|Af (dj:=92) O O<|Aa (Ce O O) O<|Bi O<|Ad O<|Cd 96 (v' := .bool true) O (cngA Value.bool ((by decide)))<|Af (dj:=96) O O<|Ad O<|Af (dj:=96) O O<|Aa (Ce O O) O<|Bi O<|Ad O<|Cd 100 (v' := .bool true) O (cngA Value.bool ((by decide)))<|Af (dj:=100) O O<|Ad O<|Af (dj:=100) O O<|Aa (Ce O O) O<|Bi O<|Ad O<|Cd 104 (v' := .bool true) O (cngA Value.bool ((by decide)))<|Af (dj:=104) O O<|Ad O<|Af (dj:=104) O O<|Aa (Ce O O) O<|Bi O<|Ab O<|Aq<|Am O O ?_
 exact ⟨rfl,d⟩
end Go.Proofs.YtblbopcaflaldaaGreatDoor

namespace Go.Proofs.YtblbopcaflaldaaGreatDoor
open Go Go.Dd Go.RowKit List
set_option maxRecDepth 100000
theorem NN {us ls:List N5} (e:us.map pn=ls.map pn):AX us=AX ls:=by
 have k:∀l:List N5,AX l=((l.map pn).map fun p=>Hq (un p)).flatten:=fun l=>by
  unfold AX
  rw [map_map]
  rfl
 rw [k us,k ls,e]
end Go.Proofs.YtblbopcaflaldaaGreatDoor

namespace Go.Dd
open Go Go.RowKit List
section
variable {H : Type} {enc : TypeId × Value → H} {P : Program} {w : World}
def In (enc:TypeId×Value→H) (P:Program) (w:World) (t:TypeId) (cs:List Value):Prop:=
 ∃fuel d ps,DataW.trod enc P w 0 (fun _=>true) true fuel t cs=some (d,ps)∧∀x ∈ d.weights P t,x≤reachBytes
theorem In.int {t:TypeId} {k:IntKind} {cs:List Value} (b:P.underlying t=some (.int k)) (h:In enc P w t cs):∃m,cs=[.int k m]∧(Lit.int k m).wf=true:=by
 obtain ⟨a,d,ps,h,_⟩:=h
 cases a with
 |zero=>simp [DataW.trod] at h
 |succ a=>
  unfold DataW.trod at h
  rw [b] at h
  split at h<;>simp_all
theorem In.bool {t:TypeId} {cs:List Value} (c:P.underlying t=some .bool) (h:In enc P w t cs):∃b,cs=[.bool b]:=by
 obtain ⟨a,d,ps,h,_⟩:=h
 cases a with
 |zero=>simp [DataW.trod] at h
 |succ a=>
  unfold DataW.trod at h
  rw [c] at h
  split at h<;>simp_all
theorem Ho {α β:Type} {f:α→Option β}:∀{l:List α} {r:List β},l.mapM f=some r→∀(i:Nat) (a:α),l[i]? =some a→∃b,f a=some b∧r[i]? =some b
 |[],r,h,i,a,hi=>by simp at hi
 |x::l,r,h,i,a,hi=>by
  simp only [mapM_cons,Option.bind_eq_bind,Option.pure_def] at h
  cases hx:f x with
  |none=>simp [hx] at h
  |some b=>
   cases hl:l.mapM f with
   |none=>simp [hx,hl] at h
   |some r' =>
    simp only [hx,hl,Option.bind_some,Option.some.injEq] at h
    subst h
    cases i with
    |zero=>simp at hi;subst hi;exact ⟨b,hx,by simp⟩
    |succ i=>simpa using Ho hl i a (by simpa using hi)
theorem Hn {α β:Type} {f:α→Option β}:∀{l:List α} {r:List β},l.mapM f=some r→r.length=l.length
 |[],r,h=>by simp at h;simp [← h]
 |x::l,r,h=>by
  simp only [mapM_cons,Option.bind_eq_bind,Option.pure_def] at h
  cases hx:f x with
  |none=>simp [hx] at h
  |some b=>
   cases hl:l.mapM f with
   |none=>simp [hx,hl] at h
   |some r' =>
    simp only [hx,hl,Option.bind_some,Option.some.injEq] at h
    subst h
    simpa using Hn hl
theorem JI {base n:Nat} {a:Addr} {cs:List Value} (h:w.cells? base a n=some cs):cs.length=n∧∀j u,cs[j]? =some u→w.cell? (a.add j)=some u:=by
 unfold World.cells? at h
 split at h
 ·refine ⟨by simpa using Hn h,fun j u c=> ?_⟩
  have e:j<n:=by
   have:=Hn h
   have d:j<cs.length:=by
    rcases Nat.lt_or_ge j cs.length with h|h
    ·exact h
    ·simp [getElem?_eq_none h] at c
   simp at this;omega
  obtain ⟨b,g,f⟩:=Ho h j j (by simp [e])
  rw [f] at c
  simp only [Option.some.injEq] at c
  rw [g,c]
 ·cases h
theorem FP {e:TypeId}:∀{ds:List (DataW H)} {i:Nat} {d:DataW H},ds[i]? =some d→∀x ∈ d.weights P e,x ∈ DataW.weightsAll P e ds
 |d0::ds,0,d,hd,x,hx=>by
  simp only [getElem?_cons_zero,Option.some.injEq] at hd
  subst hd
  simp only [DataW.weightsAll,mem_append];exact .inl hx
 |d0::ds,i+1,d,hd,x,hx=>by
  simp only [getElem?_cons_succ] at hd
  simp only [DataW.weightsAll,mem_append];exact .inr (FP hd x hx)
 |[],_,_,hd,_,_=>by simp at hd
theorem IU {sz:Nat}:∀{a:List (List Value)} (_:∀c ∈ a,c.length=sz) (i:Nat) (c:List Value),a[i]? =some c→(a.flatten.drop (i*sz)).take sz=c
 |c0::a,hl,0,c,b=>by
  simp only [getElem?_cons_zero,Option.some.injEq] at b
  subst b
  have:=hl c0 (by simp)
  simp [flatten_cons,← this]
 |c0::a,hl,i+1,c,b=>by
  simp only [getElem?_cons_succ] at b
  have e:=hl c0 (by simp)
  have d:=IU (fun c b=>hl c (by simp [b])) i c b
  rw [flatten_cons,show (i+1)*sz=c0.length+i*sz by rw [e,Nat.succ_mul];omega,← drop_drop,drop_left]
  exact d
 |[],_,_,_,b=>by simp at b
theorem HU {sz:Nat}:∀{a:List (List Value)} (_:∀c ∈ a,c.length=sz) (j:Nat) (u:Value),a.flatten[j]? =some u→∃i c,a[i]? =some c∧c[j - i*sz]? =some u∧i*sz≤j
 |[],_,j,u,h=>by simp at h
 |c0::a,hl,j,u,h=>by
  have f:=hl c0 (by simp)
  rw [flatten_cons,getElem?_append] at h
  split at h
  ·exact ⟨0,c0,by simp,by simpa using h,by simp⟩
  ·obtain ⟨i,c,d,b,g⟩:=HU (fun c e=>hl c (by simp [e])) (j - c0.length) u h
   refine ⟨i+1,c,by simpa using d, ?_,by rw [Nat.succ_mul];omega⟩
   rw [← b];congr 1;rw [Nat.succ_mul];omega
theorem In.slice {t e:TypeId} {sz:Nat} {cs:List Value} (I:P.underlying t=some (.slice e)) (E:P.cellsOf e=sz) (h:In enc P w t cs):
  ∃v n xs,cs=[v]∧Sl w sz v n xs∧n*P.bytesOf e≤reachBytes∧∀i,i<n→In enc P w e ((xs.drop (i*sz)).take sz):=by
 obtain ⟨g,d,ps,h,Q⟩:=h
 cases g with
 |zero=>simp [DataW.trod] at h
 |succ g=>
  unfold DataW.trod at h
  rw [I] at h
  split at h<;>try (simp_all;done)
  ·exact ⟨_,0,[],rfl,Cs w sz,by simp,fun i o=>by omega⟩
  ·rename_i W a len cap s
   simp only [Option.some.injEq,TypeDesc.slice.injEq] at s
   subst s
   simp only at h
   split at h
   ·rename_i k
    obtain ⟨_,L,C⟩:=k
    cases hel:(List.range len).mapM (fun i=>(w.cells? 0 (a.add (i*P.cellsOf e)) (P.cellsOf e)).bind (DataW.trod enc P w 0 (fun _=>true) true g e)) with
    |none=>simp [hel] at h
    |some elems=>
     rw [hel] at h
     simp only [Option.bind_some,Option.map_eq_some_iff] at h
     obtain ⟨A,M,h⟩:=h
     simp only [Prod.mk.injEq] at h
     obtain ⟨h,_⟩:=h
     subst h
     rw [E] at hel
     have z:elems.length=len:=by simpa using Hn hel
     have CK:∀i,i<len→∃c,w.cells? 0 (a.add (i*sz)) sz=some c∧∃b,DataW.trod enc P w 0 (fun _=>true) true g e c=some b∧elems[i]? =some b:=by
      intro i o
      obtain ⟨b,r,G⟩:=Ho hel i i (by simp [o])
      cases hcc:w.cells? 0 (a.add (i*sz)) sz with
      |none=>simp [hcc] at r
      |some c=>rw [hcc] at r;exact ⟨c,rfl,b,r,G⟩
     have J:∃f:List (List Value),f.length=len∧∀i c,f[i]? =some c→w.cells? 0 (a.add (i*sz)) sz=some c:=by
      refine ⟨(List.range len).map (fun i=>(w.cells? 0 (a.add (i*sz)) sz).getD []),by simp,fun i c k=> ?_⟩
      have o:i<len:=by
       rcases Nat.lt_or_ge i len with h|h
       ·exact h
       ·rw [getElem?_eq_none (by simpa using h)] at k;cases k
      obtain ⟨U,y,_⟩:=CK i o
      simp [o,y] at k
      rw [y,k]
     obtain ⟨f,N,p⟩:=J
     have m:∀c ∈ f,c.length=sz:=fun c k=>by
      obtain ⟨i,o⟩:=List.mem_iff_getElem?.1 k
      exact (JI (p i c o)).1
     have F:∀(l:List (List Value)),(∀c ∈ l,c.length=sz)→l.flatten.length=l.length*sz:=by
      intro l
      induction l with
      |nil=>intro _;simp
      |cons c l ih=>intro h;rw [flatten_cons,length_append,ih (fun c k=>h c (by simp [k])),h c (by simp),length_cons,Nat.succ_mul];omega
     refine ⟨_,len,f.flatten,rfl,⟨by rw [F f m,N],some a,cap,rfl,L,C,(fun h=>by cases h),fun V T j u D=> ?_⟩, ?_,fun i o=> ?_⟩
     ·cases T
      obtain ⟨i,c,B,R,X⟩:=HU m j u D
      have:=(JI (p i c B)).2 _ _ R
      rw [G1] at this
      rwa [show i*sz+(j - i*sz)=j by omega] at this
     ·have:=Q ((elems.length+A.length)*P.bytesOf e) (by simp [DataW.weights,I])
      rw [z] at this
      exact Nat.le_trans (Nat.mul_le_mul_right _ (Nat.le_add_right _ _)) this
     ·obtain ⟨c,k,b,r,G⟩:=CK i o
      have K:f[i]? =some c:=by
       have q:i<f.length:=by omega
       have B:=p i f[i] (getElem?_eq_getElem q)
       rw [k] at B
       rw [getElem?_eq_getElem q]
       exact B.symm
      rw [IU m i c K]
      refine ⟨g,b.1,b.2,by simpa using r,fun x S=>Q x ?_⟩
      simp only [DataW.weights,I,mem_cons,mem_append]
      right;left
      exact FP (i:=i) (d:=b.1) (by simp [G]) x S
   ·cases h
theorem In.struct {t:TypeId} {l:Array Field} {cs:List Value} (k:P.underlying t=some (.struct l)) (h:In enc P w t cs):
  cs.length=P.cellsOf t∧∀(i:Nat) (f:Field),l[i]? =some f→In enc P w f.type ((cs.drop f.offset).take (P.cellsOf f.type)):=by
 obtain ⟨a,d,ps,h,m⟩:=h
 cases a with
 |zero=>simp [DataW.trod] at h
 |succ a=>
  unfold DataW.trod at h
  rw [k] at h
  split at h<;>try (simp_all;done)
  rename_i r o c
  simp only [Option.some.injEq,TypeDesc.struct.injEq] at c
  subst c
  split at h
  ·rename_i n
   simp only [Option.map_eq_some_iff] at h
   obtain ⟨xs,e,h⟩:=h
   simp only [Prod.mk.injEq] at h
   obtain ⟨h,_⟩:=h
   subst h
   refine ⟨n,fun i f g=> ?_⟩
   obtain ⟨b,q,p⟩:=Ho e i f (by simpa using g)
   refine ⟨a,b.1,b.2,by simpa using q,fun x s=>m x ?_⟩
   simp only [DataW.weights,k]
   exact DataW.weights_mem_each (j:=i) (t:=f.type) (d:=b.1) (by simp [g]) (by simp [p]) x s
  ·cases h
theorem R0 {m:Int} (h:(Lit.int .u8 m).wf=true):Value.int .u8 m=b8 (BitVec.ofInt 8 m):=by
 simp [Lit.wf,IntKind.min,IntKind.max,IntKind.signed,IntKind.bits] at h
 have:((BitVec.ofInt 8 m).toNat:Int)=m:=by rw [BitVec.toNat_ofInt];omega
 unfold b8;rw [this]
theorem NB {m:Int} (h:(Lit.int .i64 m).wf=true): -9223372036854775808≤m∧m≤9223372036854775807:=by
 simp [Lit.wf,IntKind.min,IntKind.max,IntKind.signed,IntKind.bits] at h
 omega
theorem In.num {α:Type} {e:TypeId} {k:IntKind} (f:Int→α) (g:α→Value) (c:∀m,(Lit.int k m).wf=true→Value.int k m=g (f m)) (d:P.underlying e=some (.int k)) {cs:List Value} (h:In enc P w e cs):∃a,cs=[g a]:=by
 obtain ⟨m,rfl,b⟩:=h.int d
 exact ⟨f m,by rw [c m b]⟩
theorem In.slT {α:Type} {t e:TypeId} {g:α→Value} {cs:List Value} (r:P.underlying t=some (.slice e)) (o:P.cellsOf e=1) (q:∀cs,In enc P w e cs→∃a,cs=[g a]) (h:In enc P w t cs):
  ∃v l,cs=[v]∧BG g w v l∧l.length*P.bytesOf e≤reachBytes:=by
 obtain ⟨v,n,xs,rfl,p,s,j⟩:=h.slice r o
 have hall:∀i,i<n→∃a,xs[i]? =some (g a):=by
  intro i m
  obtain ⟨a,d⟩:=q _ (j i m)
  refine ⟨a, ?_⟩
  have:=cngA (fun l=>l[0]?) d
  simpa [getElem?_take,getElem?_drop] using this
 have b:xs.length=n:=by have:=p.len;omega
 have k:∀(c:List Value),(∀i,i<c.length→∃a,c[i]? =some (g a))→∃l:List α,c=l.map g:=by
  intro c
  induction c with
  |nil=>intro _;exact ⟨[],rfl⟩
  |cons y c ih=>
   intro h
   obtain ⟨a,d⟩:=h 0 (by simp)
   obtain ⟨l,rfl⟩:=ih (fun i m=>by simpa using h (i+1) (by simpa using m))
   simp only [getElem?_cons_zero,Option.some.injEq] at d
   exact ⟨a::l,by simp [d]⟩
 obtain ⟨l,rfl⟩:=k xs (by rw [b];exact hall)
 have f:l.length=n:=by simpa using b
 subst f
 exact ⟨v,l,rfl,p,s⟩
theorem Qs {ts:List TypeId} {ds:List (DataW H)} {j:Nat} {t:TypeId} {v:Value} {d:DataW H} {ps:List MemPlace} (f:(DataW.weightsEach P ts ds).all (·≤reachBytes)=true) (c:ts[j]? =some t) (b:ds[j]? =some d)
  (h:DataW.Trod enc P w 0 (fun _=>true) true t v d ps):In enc P w t v.cells.toList:=by
 obtain ⟨a,h⟩:=h
 exact ⟨a,d,ps,h,fun x e=>by simpa using List.all_eq_true.1 f x (DataW.weights_mem_each c b x e)⟩
open Go.WideShapes in
theorem LX {base:Nat} {t:TypeId} {c:Array Field} {v:Value} (b:P.underlying t=some (.struct c)) (a:Value.okWide P w .any base t v) (h:In enc P w t v.cells.toList):∃cs:List Value,v= .agg cs.toArray∧In enc P w t cs:=by
 obtain ⟨cs,rfl,_⟩:=okWide_struct b a
 exact ⟨cs.toList,by simp,by simpa [Value.cells] using h⟩
theorem Nb {f:FuncId} {args:Array Value} (h:AO P f args.toList w (fun r w' =>r= .bool true∧Below w.heap.size w w')):
  Calls P f args w fun e w' =>e= .returned (.bool true)∧Below w.heap.size w w' :=by
 have:=h.2
 rw [Array.toArray_toList] at this
 exact this.mono fun e w' ⟨v,a,b,c⟩=>⟨by rw [a,b],c⟩
end
end Go.Dd

namespace Go.Proofs.YtblbopcaflaldaaGreatDoor
open Go Go.Dd Go.RowKit Go.ChangeShapes Go.WideShapes List
set_option maxRecDepth 100000

def Mf:Int→List Int→Int
 |n,[]=>n
 |n,x::l=>if n≤1048576 then Mf (n+x) l else n
theorem NI:∀{l:List Int} {n:Int},(∀x ∈ l,0≤x)→n≤Mf n l
 |[],n,_=>Int.le_refl _
 |x::l,n,h=>by
  unfold Mf
  split
  ·have:=NI (n:=n+x) fun y a=>h y (mem_cons_of_mem _ a)
   have:=h x (by simp)
   omega
  ·exact Int.le_refl _
theorem NL {l:List Int} {i:Nat} {n:Int} (a:i<l.length):Mf n (l.drop i)=if n≤1048576 then Mf (n+l.getD i default) (l.drop (i+1)) else n:=by
 rw [drop_eq_getElem_cons a]
 simp only [Mf,getD_eq_getElem?_getD,getElem?_eq_getElem a,Option.getD_some]
theorem NJ:∀{l:List Int} {n m:Int},(∀x ∈ l,x≤m)→0≤m→Mf n l≤max n (1048576+m)
 |[],n,m,_,_=>by simp only [Mf];omega
 |x::l,n,m,h,hm=>by
  unfold Mf
  split
  ·have:=NJ (n:=n+x) (m:=m) (fun y a=>h y (mem_cons_of_mem _ a)) hm
   have:=h x (by simp)
   omega
  ·omega
end Go.Proofs.YtblbopcaflaldaaGreatDoor

namespace Go.Proofs.YtblbopcaflaldaaGreatDoor
open Go Go.Dd Go.RowKit Go.ChangeShapes Go.WideShapes List Go.Proofs.Tryz
set_option maxRecDepth 100000
structure N5.few (a:N5):Prop where
 i:a.i.length≤1125899906842624
 s:a.s.length≤1125899906842624
 n: -9223372036854775808≤a.n∧a.n≤9223372036854775807
 p: -9223372036854775808≤a.p∧a.p≤9223372036854775807
theorem PW {α:Type} {l:List α} (h:l.length=5):∃a b c d e,l=[a,b,c,d,e]:=by
 match l,h with
 |[a,b,c,d,e],_=>exact ⟨a,b,c,d,e,rfl⟩
theorem PS {H:Type} {enc:TypeId×Value→H} {w:World} {cs:List Value} (h:In enc prog w J3 cs):∃a:N5,cs=a.cells∧N5.at w a∧a.few:=by
 obtain ⟨c,b⟩:=h.struct underlying79
 have x:Tryz.prog.cellsOf J3=5:=by kernel_rfl
 have v:Tryz.prog.cellsOf 70=1:=by kernel_rfl
 have t:Tryz.prog.cellsOf 3=1:=by kernel_rfl
 have B:Tryz.prog.cellsOf 77=1:=by kernel_rfl
 rw [x] at c
 obtain ⟨f,m,A,D,G,rfl⟩:=PW c
 obtain ⟨k,e⟩:=In.num (BitVec.ofInt 8) b8 (fun _ h=>R0 h) BO (b 0 _ rfl)
 obtain ⟨C,i,d,q,o⟩:=(b 1 _ rfl).slT ND (by kernel_rfl) (fun cs h=>(In.int H7 h).imp fun _ h=>h.1)
 obtain ⟨E,s,g,u,r⟩:=(b 2 _ rfl).slT ND (by kernel_rfl) (fun cs h=>(In.int H7 h).imp fun _ h=>h.1)
 obtain ⟨n,j,z⟩:=In.int H7 (b 3 _ rfl)
 obtain ⟨p,l,y⟩:=In.int H7 (b 4 _ rfl)
 have f:Tryz.prog.bytesOf 3=8:=by kernel_rfl
 rw [f] at o r
 simp [v,t,B] at e d g j l
 subst d g e j l
 have F:reachBytes≤140737488355328:=by decide
 exact ⟨⟨k,m,A,i,s,n,p⟩,rfl,⟨q,u⟩,⟨by simp only;omega,by simp only;omega,NB z,NB y⟩⟩
theorem KI {H:Type} {enc:TypeId×Value→H} {w:World}:∀{n:Nat} {xs:List Value},xs.length=n*5→(∀i,i<n→In enc prog w J3 ((xs.drop (i*5)).take 5))→
  ∃ls:List N5,ls.length=n∧HT N5.cells ls=xs∧∀a ∈ ls,N5.at w a∧a.few
 |0,xs,hl,_=>by
  obtain rfl:xs=[]:=eq_nil_of_length_eq_zero (by omega)
  exact ⟨[],rfl,rfl,fun t b=>by simp at b⟩
 |n+1,xs,hl,h=>by
  obtain ⟨a,g,d,c⟩:=PS (h 0 (by omega))
  obtain ⟨ls,f,e,j⟩:=KI (n:=n) (xs:=xs.drop 5) (by simp;omega) fun i k=>by
   have:=h (i+1) (by omega)
   rwa [drop_drop,show 5+i*5=(i+1)*5 by omega]
  refine ⟨a::ls,by simp [f], ?_,fun t b=> ?_⟩
  ·rw [show HT N5.cells (a::ls)=a.cells++HT N5.cells ls from by simp [HT],e,← g]
   simp
  ·rcases List.mem_cons.1 b with rfl|b
   ·exact ⟨d,c⟩
   ·exact j t b
theorem OH {H:Type} {enc:TypeId×Value→H} {w:World} {cs:List Value} (h:In enc prog w 22 cs):∃v,cs=[v]∧∃ls:List N5,GN w v ls∧ls.length≤1125899906842624∧∀t ∈ ls,t.few:=by
 obtain ⟨v,n,xs,e,c,g,j⟩:=h.slice R3 (sz:=5) (by kernel_rfl)
 obtain ⟨ls,f,d,b⟩:=KI c.len j
 subst f d
 have k:reachBytes≤140737488355328:=by decide
 have i:Tryz.prog.bytesOf 79=72:=by kernel_rfl
 rw [i] at g
 exact ⟨v,e,ls,⟨c,fun t a=>(b t a).1⟩,by omega,fun t a=>(b t a).2⟩
theorem OI {H:Type} {enc:TypeId×Value→H} {w:World} {cs:List Value} (h:In enc prog w 24 cs):∃v,cs=[v]∧∃ls:List N5,GN w v ls∧ls.length≤1125899906842624∧∀t ∈ ls,t.few:=by
 obtain ⟨a,b⟩:=h.struct underlying24
 have e:Tryz.prog.cellsOf 24=1:=by kernel_rfl
 have d:Tryz.prog.cellsOf 22=1:=by kernel_rfl
 rw [e] at a
 have c:In enc prog w 22 ((cs.drop 0).take (Tryz.prog.cellsOf 22)):=b 0 _ rfl
 rw [d,drop_zero,take_of_length_le (by omega)] at c
 exact OH c
def Kr (a:N5):Int:=if 1+(a.i.length:Int)≤1048576 then 1+(a.i.length:Int)+(a.s.length:Int) else 1+(a.i.length:Int)
theorem Mq (a:N5):1≤Kr a:=by unfold Kr;split<;>omega
theorem Mr {a:N5} (h:a.few):Kr a≤4503599627370496:=by have b:=h.i;have c:=h.s;unfold Kr;split<;>omega
theorem PG (a:N5) (w:World) (k:N5.at w a) (j:a.few):AO prog 199 [a.v] w (fun r w' =>r= .int .i64 (Kr a)∧Below w.heap.size w w'):=by
 have f:=Below.refl w.heap.size w
 have c:=k.i
 have b:=k.s
 have o:=j.i
 have p:=j.s
 refine A5 (n:=19) func199 O<|Ah<|Cv (cs:=a.cells) O O O ?_
 rintro l w i e d -
 have f:=f.bs d
 have c:=c.bs d
 have b:=b.bs d
 refine Ab O<|Au<|Ab O<|Ba<|Ad O<|Aa (Ff O O) O<|Ak<|Cm O true (by decide)<|A4<|Ad O<|A6 underlying79 O (BQ _)<|Aa (An (BA _) O ‹_› rfl) O ?_
 refine Ai O O (IM a.x a.i _ c) ?_
 rintro _ m ⟨rfl,d⟩
 have f:=f.bs d
 have c:=c.bs d
 have b:=b.bs d
 have e:=e.bs d
 refine Cn O (by omega)<|Ab O<|Ba<|Ad O<|Aa (Ff O O) O<|Ak<|Al O ?_ ?_
 ·intro g
  have h:=AE g
  refine A4<|Ad O<|A6 underlying79 O (BQ _)<|Aa (An (BA _) O ‹_› rfl) O ?_
  refine Ai O O (IM a.y a.s m b) ?_
  rintro _ q ⟨rfl,d⟩
  have f:=f.bs d
  have c:=c.bs d
  have b:=b.bs d
  have e:=e.bs d
  refine Cn O (by omega)<|Ab O<|Au<|Ad O<|Ab O<|Aq<|Am O O ?_
  exact ⟨by rw [Kr,if_pos h],f⟩
 ·intro g
  have h:=AC g
  exact Ca<|Ad rfl<|Ab rfl<|Aq<|Am rfl rfl<|⟨by rw [Kr,if_neg h],f⟩
theorem Oz (v:Value) (ls:List N5) (w:World) (h:GN w v ls) (F:ls.length≤1125899906842624) (B:∀t ∈ ls,t.few):AO prog 116 [v] w (fun r w' =>r= .int .i64 (Mf (ls.length:Int) (ls.map Kr))∧Below w.heap.size w w'):=by
 have f:=h.1
 have H:=f.le
 obtain ⟨T,s⟩:∃T,T=Mf (ls.length:Int) (ls.map Kr):=⟨_,rfl⟩
 rw [← s]
 refine A5 (n:=25) func116 O<|Ah<|Ab O<|Au<|Ad O<|Aa (Ay BX O ‹_›) O ?_
 refine Ab O<|Ba<|Ab O<|Ak<|Av ?_
 refine B4 (S:=(Nat×Int)) (fun p=>[(0,v),(3, .int .i64 p.2),(4, .int .i64 (p.1:Int))]) (fun p w' =>p.1≤ls.length∧0≤p.2∧p.2≤1125899906842624+4503599627370496+1048576∧Mf p.2 ((ls.map Kr).drop p.1)=T∧Below w.heap.size w w') (fun p=>ls.length - p.1) ((0,(ls.length:Int))) ⟨rfl,rfl,rfl,trivial⟩ ?_ ?_
 ·exact ⟨Nat.zero_le _,by simp only;omega,by simp only;omega,s.symm,Below.refl _ _⟩
 rintro ⟨i,n⟩ z ⟨x,q,u,c,k⟩
 replace x:i≤ls.length:=x
 replace q:0≤n:=q
 replace u:n≤1125899906842624+4503599627370496+1048576:=u
 replace c:Mf n ((ls.map Kr).drop i)=T:=c
 have f:=f.bs k
 refine Ap<|Ah<|Ad O<|Ad O<|Aa (Ay BX O ‹_›) O ?_
 refine B9 O<|Ad O ?_
 refine Bw 11 O ?_ ?_
 ·intro g
  have b:i<ls.length:=by have:=AE g;omega
  have D:=NL (n:=n) (l:=ls.map Kr) (i:=i) (by rw [length_map];exact b)
  obtain ⟨a,o⟩:∃a,a=ls[i]:=⟨_,rfl⟩
  have A:(ls.map Kr).getD i default=Kr a:=by rw [getD_eq_getElem?_getD,getElem?_map,getElem?_eq_getElem b,← o];rfl
  have y:a ∈ ls:=o ▸ getElem_mem b
  have e:=B a y
  have E:=Mq a
  have G:=Mr e
  have j:=h.cells b
  rw [← o] at j
  rw [D,A] at c
  refine Af (dj:=11) O O<|Ad O<|Af (dj:=11) O O<|Aa (Ff O O) O<|Bi O<|Ak<|Al O ?_ ?_
  ·intro d
   have d:n≤1048576:=AE d
   rw [if_pos d] at c
   refine B2<|Ap<|Av<|A4<|Ad O<|Ad O<|Ad O<|Aa (Dx BX O O f i O b) O<|Aa (Et (cs:=a.cells) (GM _) (GI _) O f O (by decide) j) O<|Ai O O (PG a z ((h.each a y).bs k) e) ?_
   rintro _ I ⟨rfl,C⟩
   refine Cn O (by omega)<|Ab O<|A7<|Bb<|Cx<|Ad O<|Cn O (by omega)<|Ab O<|A7 ?_
   exact A3 (B1 ((i+1,n+Kr a)) ⟨rfl,rfl,rfl,trivial⟩ (⟨b,by simp only;omega,by simp only;omega,c,bt k C⟩) (by simp only;omega))
  intro d
  have d:¬n≤1048576:=AC d
  rw [if_neg d] at c
  exact Bx<|A0<|A0<|Bh<|Cl<|Ad rfl<|Ab rfl<|Aq<|Am rfl rfl<|⟨by rw [← c],k⟩
 intro g
 have b:i=ls.length:=by have:=AC g;omega
 have m:n=T:=by
  rw [b,drop_of_length_le (by simp)] at c;exact c
 exact Ae (dj:=11) rfl rfl rfl rfl<|Ae (dj:=11) rfl rfl rfl rfl<|B6 rfl<|Ak<|Gr rfl<|Bx<|A0<|A0<|Bh<|Cl<|Ad rfl<|Ab rfl<|Aq<|Am rfl rfl<|⟨by rw [m],k⟩
def S7 (ls:List N5):Int:=1+Mf (ls.length:Int) (ls.map Kr)
theorem PU (v:Value) (ls:List N5) (w:World) (h:GN w v ls) (j:ls.length≤1125899906842624) (g:∀t ∈ ls,t.few):AO prog 23 [.agg [v].toArray] w (fun r w' =>r= .int .i64 (S7 ls)∧Below w.heap.size w w'):=by
 have d:=Below.refl w.heap.size w
 have o:=NJ (l:=ls.map Kr) (n:=(ls.length:Int)) (m:=4503599627370496) (fun x e=>by
  obtain ⟨a,i,rfl⟩:=List.mem_map.1 e
  exact Mr (g a i)) (by decide)
 have p:=NI (l:=ls.map Kr) (n:=(ls.length:Int)) (fun x e=>by
  obtain ⟨a,i,rfl⟩:=List.mem_map.1 e
  have:=Mq a;omega)
 refine A5 (n:=12) func23 O<|Ah<|Cv (cs:=[v]) O O O ?_
 rintro k w f c b -
 have d:=d.bs b
 have h:=h.bs b
 refine Ab O<|Au<|Ab O<|Ba<|Ad O<|Aa (Ff O O) O<|Ak<|Cm O true (by decide)<|A4<|Ad O<|A6 underlying24 O (BW _)<|Aa (An (DH _) O ‹_› rfl) O ?_
 refine Ai O O (Oz v ls _ h j g) ?_
 rintro _ q ⟨rfl,b⟩
 have d:=d.bs b
 have h:=h.bs b
 have c:=c.bs b
 refine Cn O (by omega)<|Ab O<|Au<|Ad O<|Ab O<|Aq<|Am O O ?_
 exact ⟨rfl,d⟩
end Go.Proofs.YtblbopcaflaldaaGreatDoor

namespace Go.Proofs.YtblbopcaflaldaaGreatDoor
open Go Go.Dd Go.RowKit List
set_option maxRecDepth 100000
theorem K4 {α:Type} {w:World} {B c:Nat} {T:TypeId} {enc:α→Value} {a v:Value} {l:List α} (h:Go.Dd.Twn w B T enc a v l) (f:c≤B):Go.Dd.Twn w c T enc a v l:=by
 obtain ⟨b,cap,e,d⟩:=h
 exact ⟨b,cap,e,CW d f⟩
theorem NH {α:Type} {w w' :World} {B:Nat} {r:Option Nat} {T:TypeId} {enc:α→Value} {a v:Value} {l:List α} (h:Go.Dd.Twn w B T enc a v l) (f:w.grownBy w' r) (d:v.ownBlock≠r):Go.Dd.Twn w' B T enc a v l:=by
 obtain ⟨b,cap,rfl,c⟩:=h
 exact ⟨b,cap,rfl,c.kept f (.inr fun e=>d e)⟩
abbrev tI (w:World) (B:Nat) (v:Value) (l:List Int):Prop:=Go.Dd.Twn w B 3 (Value.int .i64) (Value.int .i64 77) v l
structure DS (w:World) (lo hi:Nat) (x y:Value) (a:N5):Prop where
 tx:tI w lo x a.i
 ty:tI w lo y a.s
 bx:∀b,x.ownBlock=some b→lo≤b∧b<hi
 by' :∀b,y.ownBlock=some b→lo≤b∧b<hi
 apart:∀b,x.ownBlock=some b→y.ownBlock≠some b
theorem DS.bs {w w' :World} {b c:Nat} {x y:Value} {a:N5} (h:DS w b c x y a) (g:Below w.heap.size w w'):DS w' b c x y a:=⟨h.tx.bs g,h.ty.bs g,h.bx,h.by',h.apart⟩
theorem DS.at {w:World} {b c:Nat} {x y:Value} {a:N5} (h:DS w b c x y a) (k:BitVec 8) (n p:Int):N5.at w ⟨k,x,y,a.i,a.s,n,p⟩:=⟨h.tx.sl,h.ty.sl⟩
theorem DS.by {w w' :World} {c b r:Nat} {x y:Value} {a:N5} (h:DS w c b x y a) (g:w.grownBy w' (some r)) (d:b≤r):DS w' c b x y a:=
 ⟨NH h.tx g fun e=>by have:=h.bx _ e;omega,NH h.ty g fun e=>by have:=h.by' _ e;omega,h.bx,h.by',h.apart⟩



structure Bm (w:World) (lo A:Nat) (n:Int) (hb hi hn ht hd:List Hd) (ub ui un ut ud:Value):Prop where
 box:AK w A Qx [.int .i64 n,ub,ui,un, .slice none 0 0, .slice none 0 0,ut,ud, .slice none 0 0, .slice none 0 0, .slice none 0 0, .slice none 0 0, .slice none 0 0, .slice none 0 0, .slice none 0 0, .slice none 0 0]
 ob:w.ownsRow lo 179 3 ub hb.length (CK hb)
 oi:w.ownsRow lo 182 3 ui hi.length (CK hi)
 on:w.ownsRow lo 185 3 un hn.length (CK hn)
 ot:w.ownsRow lo 194 3 ut ht.length (CK ht)
 od:w.ownsRow lo 197 3 ud hd.length (CK hd)
 loA:lo≤A
 q_b:ub.ownBlock≠some A
 q_i:ui.ownBlock≠some A
 q_n:un.ownBlock≠some A
 q_t:ut.ownBlock≠some A
 q_d:ud.ownBlock≠some A
 p_bi:Ji ub ui
 p_bn:Ji ub un
 p_bt:Ji ub ut
 p_bd:Ji ub ud
 p_in:Ji ui un
 p_it:Ji ui ut
 p_id:Ji ui ud
 p_nt:Ji un ut
 p_nd:Ji un ud
 p_td:Ji ut ud
 many:((hb.length+hi.length+hn.length+ht.length+hd.length:Nat):Int)=n
theorem Bm.size {w:World} {a A:Nat} {n:Int} {i j k f b:List Hd} {c g un e d:Value} (h:Bm w a A n i j k f b c g un e d):a<w.heap.size:=Nat.lt_of_le_of_lt h.loA (AY h.box)
theorem Bm.bs {w w' :World} {j A:Nat} {n:Int} {i k l e a:List Hd} {b f un d c:Value} (h:Bm w j A n i k l e a b f un d c) (g:Below w.heap.size w w'):Bm w' j A n i k l e a b f un d c:=
 ⟨h.box.bs g,AG h.ob g,AG h.oi g,AG h.on g,AG h.ot g,AG h.od g,h.loA,h.q_b,h.q_i,h.q_n,h.q_t,h.q_d,h.p_bi,h.p_bn,h.p_bt,h.p_bd,h.p_in,h.p_it,h.p_id,h.p_nt,h.p_nd,h.p_td,h.many⟩



end Go.Proofs.YtblbopcaflaldaaGreatDoor

namespace Go.Proofs.YtblbopcaflaldaaGreatDoor
open Go Go.Dd Go.RowKit
open List hiding all
set_option maxRecDepth 100000
def Ma (w:World) (base:Nat) (T:TypeId) (sz:Nat) (r:Value) (n:Nat) (cells mk:List Value):Prop:=
 ∃b cap,r= .slice (some ⟨b,0,none⟩) n cap∧w.ownsRow base T sz (.slice (some ⟨b,0,none⟩) (n+1) cap) (n+1) (cells++mk)
theorem Ma.bs {w w' :World} {base:Nat} {T:TypeId} {sz:Nat} {r:Value} {n:Nat} {a mk:List Value} (h:Ma w base T sz r n a mk) (g:Below w.heap.size w w'):Ma w' base T sz r n a mk:=by
 obtain ⟨b,cap,e,c⟩:=h
 exact ⟨b,cap,e,AG c g⟩
theorem Sa {b n m cap sz:Nat}:cut (.slice (some ⟨b,0,none⟩) m cap) sz 0 n= .slice (some ⟨b,0,none⟩) n cap:=by
 show Value.slice (if cap=0 then _ else Option.map _ _) (n - 0) (cap - 0)=_
 have a:(if cap=0 then some (⟨b,0,none⟩:Addr) else (some (⟨b,0,none⟩:Addr)).map (·.add (0*sz)))=some ⟨b,0,none⟩:=by
  split
  ·rfl
  ·simp [add_lit]
 rw [a];rfl
theorem Ma.own {w:World} {base:Nat} {T:TypeId} {sz:Nat} {r:Value} {n:Nat} {a mk:List Value} (h:Ma w base T sz r n a mk) (d:a.length=n*sz):w.ownsRow base T sz r n a:=by
 obtain ⟨b,cap,rfl,c⟩:=h
 have:=Oo c (Nat.le_succ n)
 rw [take_append_of_le_length (by omega),take_of_length_le (by omega),Sa] at this
 exact this
theorem Jg.wide {w:World} {e f a b:Nat} {x y:Value} {c:T4} (h:Jg w e f x y c) (d:a≤e) (g:f≤b):Jg w a b x y c:=
 ⟨h.held.wide d g,Twn.mono h.tx d,Twn.mono h.ty d⟩
theorem AT.top {w:World} {b:Nat}:∀{cs:List T4} {base a:Nat},AT w base a cs→a≤b→AT w base b cs
 |[],_,_,h,ht=>Nat.le_trans h ht
 |_::_,_,_,⟨l1,h1,q1,q2,q3,q4⟩,ht=>⟨l1,h1,q1,q2,q3,AT.top q4 ht⟩
theorem H3:∀us:List T4,(cellsOf us).length=us.length*2
 |[]=>rfl
 |_::us=>by simp only [cellsOf,length_cons,H3 us];omega
structure Jf (w:World) (lo hi:Nat) (r:Value) (us:List T4):Prop where
 all:AT w lo hi us
 tw:∀c ∈ us,Jg w lo hi c.x c.y c
 m:∃m,Ma w lo 75 2 r us.length (cellsOf us) [m, .slice none 0 0]∧BG (Value.int .i64) w m [77]
 rb:∀b,r.ownBlock=some b→lo≤b∧b<hi
theorem Jf.bs {w w' :World} {a b:Nat} {r:Value} {us:List T4} (h:Jf w a b r us) (g:Below w.heap.size w w'):Jf w' a b r us:=
 ⟨h.all.bs g,fun c f=>(h.tw c f).bs g,by obtain ⟨m,e,d⟩:=h.m;exact ⟨m,e.bs g,d.bs g⟩,h.rb⟩
theorem Jf.own {w:World} {a c:Nat} {r:Value} {us:List T4} (h:Jf w a c r us):w.ownsRow a 75 2 r us.length (cellsOf us):=by
 obtain ⟨m,b,_⟩:=h.m
 exact b.own (H3 us)
end Go.Proofs.YtblbopcaflaldaaGreatDoor

namespace Go.Proofs.YtblbopcaflaldaaGreatDoor
open Go Go.Dd Go.RowKit List
set_option maxRecDepth 100000
structure Qi (w:World) (lo hi:Nat) (E:TypeId) (sz:Nat) (hs:List Hd):Prop where
 kept:Jh w lo E sz hs
 top:∀b,Jc hs b→b<hi
theorem Qi.below {w w' :World} {d a B:Nat} {E:TypeId} {sz:Nat} {c:List Hd} (h:Qi w d a E sz c) (g:Below B w w') (i:a≤B):Qi w' d a E sz c:=
 ⟨⟨h.kept.toKOk,fun x f=>(h.kept.own x f).heap fun b e=>g.block b (by have:=h.top b ⟨x,f,e⟩;omega)⟩,h.top⟩
theorem Qi.bs {w w' :World} {b c:Nat} {E:TypeId} {sz:Nat} {a:List Hd} (h:Qi w b c E sz a) (g:Below w.heap.size w w'):Qi w' b c E sz a:=⟨h.kept.bs g,h.top⟩
theorem Qi.wide {w:World} {f g a c:Nat} {E:TypeId} {sz:Nat} {d:List Hd} (h:Qi w f g E sz d) (i:a≤f) (k:g≤c):Qi w a c E sz d:=
 ⟨⟨h.kept.toKOk,fun x j=>(h.kept.own x j).mono i⟩,fun b e=>by have:=h.top b e;omega⟩

theorem DS.below {w w' :World} {d i B:Nat} {x y:Value} {a:N5} (h:DS w d i x y a) (g:Below B w w') (l:i≤B):DS w' d i x y a:=by
 have k:tI w' d x a.i:=by
  obtain ⟨b,cap,rfl,f⟩:=h.tx
  exact ⟨b,cap,rfl,BE f fun c e=>g.block c (by have:=h.bx c (by simpa [Value.ownBlock] using e);omega)⟩
 have j:tI w' d y a.s:=by
  obtain ⟨b,cap,rfl,f⟩:=h.ty
  exact ⟨b,cap,rfl,BE f fun c e=>g.block c (by have:=h.by' c (by simpa [Value.ownBlock] using e);omega)⟩
 exact ⟨k,j,h.bx,h.by',h.apart⟩
end Go.Proofs.YtblbopcaflaldaaGreatDoor

namespace Go.Proofs.YtblbopcaflaldaaGreatDoor
open Go Go.Dd Go.RowKit
open List hiding all
set_option maxRecDepth 100000
theorem Oq {w w' :World} {base A:Nat} {e T:TypeId} {sz n:Nat} {v:Value} {xs cs:List Value} (h:w.ownsRow base e sz v n xs) (k:AK w A T cs) (c:e≠T) (g:w.grownBy w' (some A)):w'.ownsRow base e sz v n xs:=
 BE h fun b a=>g.block b (AD h b a).2 fun i=>by
  cases i
  rcases h.2 with ⟨rfl,_⟩|⟨j,cap,f,rfl,_,d,_⟩
  ·cases a
  ·simp only [Value.ownBlock,Option.some.injEq] at a
   subst a
   unfold AK at k
   rw [k] at d
   have:=Option.some.inj d
   injection this with _ h2 _
   exact c h2.symm
def nl (a:N5):BitVec 8×List Int×List Int×Int×Int:=(a.k,a.i,a.s,a.n,a.p)
def BJ (w:World):Nat→Nat→List N5→Prop
 |base,top,[]=>base≤top
 |base,top,c::cs=>∃lo hi,base≤lo∧lo≤hi∧DS w lo hi c.x c.y c∧BJ w hi top cs
theorem BJ.le:∀{w:World} {cs:List N5} {base a:Nat},BJ w base a cs→base≤a
 |_,[],_,_,h=>h
 |_,_::_,_,_,⟨_,_,h1,h2,_,h3⟩=>by have:=h3.le;omega
theorem BJ.bs {w w' :World} (g:Below w.heap.size w w'):∀{cs:List N5} {base a:Nat},BJ w base a cs→BJ w' base a cs
 |[],_,_,h=>h
 |_::_,_,_,⟨lo,hi,h1,h2,h3,h4⟩=>⟨lo,hi,h1,h2,h3.bs g,BJ.bs g h4⟩
theorem BJ.below {w w' :World} {B:Nat} (g:Below B w w'):∀{cs:List N5} {base a:Nat},BJ w base a cs→a≤B→BJ w' base a cs
 |[],_,_,h,_=>h
 |_::_,_,_,⟨lo,hi,h1,h2,h3,h4⟩,hB=>⟨lo,hi,h1,h2,h3.below g (Nat.le_trans h4.le hB),BJ.below g h4 hB⟩
theorem BJ.top {w:World} {b:Nat}:∀{cs:List N5} {base a:Nat},BJ w base a cs→a≤b→BJ w base b cs
 |[],_,_,h,ht=>Nat.le_trans h ht
 |_::_,_,_,⟨l1,h1,q1,q2,q3,q4⟩,ht=>⟨l1,h1,q1,q2,q3,BJ.top q4 ht⟩
theorem DS.wide {w:World} {g i a d:Nat} {x y:Value} {c:N5} (h:DS w g i x y c) (f:a≤g) (j:i≤d):DS w a d x y c:=
 ⟨K4 h.tx f,K4 h.ty f,fun b e=>by have:=h.bx b e;omega,fun b e=>by have:=h.by' b e;omega,h.apart⟩
theorem BJ.each:∀{w:World} {cs:List N5} {base b:Nat},BJ w base b cs→∀c ∈ cs,DS w base b c.x c.y c
 |_,[],_,_,_=>fun c a=>by cases a
 |_,d::ds,_,_,⟨lo,hi,h1,h2,h3,h4⟩=>fun c a=>by
  have:=h4.le
  rcases List.mem_cons.1 a with rfl|a
  ·exact h3.wide h1 (by omega)
  ·exact (h4.each c a).wide (by omega) (AQ _)
structure EG (w:World) (lo hi:Nat) (r:Value) (us:List N5):Prop where
 all:BJ w lo hi us
 m:Ma w lo J3 5 r us.length (HT N5.cells us) [b8 0#8, .slice none 0 0, .slice none 0 0, .int .i64 77, .int .i64 0]
 rb:∀b,r.ownBlock=some b→lo≤b∧b<hi
theorem EG.bs {w w' :World} {a b:Nat} {r:Value} {us:List N5} (h:EG w a b r us) (g:Below w.heap.size w w'):EG w' a b r us:=⟨h.all.bs g,h.m.bs g,h.rb⟩
theorem OQ (us:List N5):(HT N5.cells us).length=us.length*5:=by
 induction us with
 |nil=>rfl
 |cons a us ih=>rw [IT,length_append,ih,Dz,length_cons];omega
theorem EG.own {w:World} {a b:Nat} {r:Value} {us:List N5} (h:EG w a b r us):w.ownsRow a J3 5 r us.length (HT N5.cells us):=h.m.own (OQ us)
theorem EG.by {w w' :World} {s o A:Nat} {r:Value} {us:List N5} {T:TypeId} {cs:List Value} (h:EG w s o r us) (g:w.grownBy w' (some A)) (b:AK w A T cs) (x:3≠T) (t:J3≠T):EG w' s o r us:=by
 have m:∀{e:TypeId} {sz n:Nat} {v:Value} {xs:List Value} {B:Nat},e≠T→w.ownsRow B e sz v n xs→w'.ownsRow B e sz v n xs:=fun i f=>Oq f b i g
 have C:∀{cs:List N5} {base a:Nat},BJ w base a cs→BJ w' base a cs:=by
  intro cs
  induction cs with
  |nil=>exact fun h=>h
  |cons c cs ih=>
   rintro base a ⟨l,k,u,D,d,y⟩
   have p:∀{z:Value} {q:List Int} {B:Nat},tI w B z q→tI w' B z q:=fun ⟨j,cap,e,f⟩=>⟨j,cap,e,m x f⟩
   exact ⟨l,k,u,D,⟨p d.tx,p d.ty,d.bx,d.by',d.apart⟩,ih y⟩
 obtain ⟨j,cap,e,f⟩:=h.m
 exact ⟨C h.all,⟨j,cap,e,m t f⟩,h.rb⟩
theorem EG.wide {w:World} {i j a d:Nat} {r:Value} {us:List N5} (h:EG w i j r us) (f:a≤i) (g:j≤d):EG w a d r us:=by
 obtain ⟨b,cap,e,m⟩:=h.m
 have q:BJ w a d us:=by
  cases hu:us with
  |nil=>have:=h.all;rw [hu] at this;exact Nat.le_trans f (Nat.le_trans this g)
  |cons c cs=>
   have:=h.all
   rw [hu] at this
   obtain ⟨l,k,o,s,p,n⟩:=this
   exact ⟨l,k,Nat.le_trans f o,s,p,BJ.top n g⟩
 exact ⟨q,⟨b,cap,e,CW m f⟩,fun b e=>by have:=h.rb b e;omega⟩
end Go.Proofs.YtblbopcaflaldaaGreatDoor

namespace Go.Proofs.YtblbopcaflaldaaGreatDoor
open Go Go.Dd Go.RowKit List Go.Proofs.Tryz
set_option maxRecDepth 100000
theorem QL (a b:N5):decide (pn a=pn b)=(decide (a.k=b.k) && (decide (a.i=b.i) && (decide (a.s=b.s) && (decide (a.n=b.n) && decide (a.p=b.p))))):=by
 unfold pn
 simp only [Prod.mk.injEq,Bool.decide_and]
theorem L4 (a b:N5) (W:World) (d:N5.at W a) (c:N5.at W b):AO prog 212 [a.v,b.v] W (fun r w' =>r= .bool (decide (pn a=pn b))∧Below W.heap.size W w'):=by
 have h:=Below.refl W.heap.size W
 rw [QL]
 refine A5 (n:=38) func212 O<|Ah<|Cv (cs:=a.cells) O O O ?_
 rintro t w q f e -
 have h:=h.bs e
 have d:=d.bs e
 have c:=c.bs e
 refine Cv (cs:=b.cells) O O O ?_
 rintro u w p i e -
 have h:=h.bs e
 have d:=d.bs e
 have c:=c.bs e
 have f:=f.bs e
 refine Ab O<|Au<|A6 underlying79 O (FJ _)<|Aa (An (GO _) O ‹_› rfl) O ?_
 refine A6 underlying79 O (FJ _)<|Aa (An (GO _) O ‹_› rfl) O ?_
 refine Aa (C3 O O) O<|Ad O ?_
 refine Bw 10 O ?_ ?_
 ·intro g
  have j:=d.i
  have m:=c.i
  refine Af (dj:=10) O O<|A6 underlying79 O (BQ _)<|Af (dj:=10) O O<|Aa (An (BA _) O ‹_› rfl) O ?_
  refine Af (dj:=10) O O<|A6 underlying79 O (BQ _)<|Af (dj:=10) O O<|Aa (An (BA _) O ‹_› rfl) O ?_
  refine Af (dj:=10) O O<|Ai O O (Iz a.x b.x a.i b.i w d.i c.i) ?_
  rintro _ s ⟨rfl,e⟩
  replace h:=bt h e
  have d:=d.bs e
  have c:=c.bs e
  have f:=f.bs e
  have i:=i.bs e
  clear e j m
  rw [g]
  refine Bi O<|Ad O ?_
  refine Bw 17 O ?_ ?_
  ·intro k
   refine Af (dj:=17) O O<|A6 underlying79 O (BQ _)<|Af (dj:=17) O O<|Aa (An (BA _) O ‹_› rfl) O ?_
   refine Af (dj:=17) O O<|A6 underlying79 O (BQ _)<|Af (dj:=17) O O<|Aa (An (BA _) O ‹_› rfl) O ?_
   refine Af (dj:=17) O O<|Ai O O (Iz a.y b.y a.s b.s s d.s c.s) ?_
   rintro _ v ⟨rfl,e⟩
   replace h:=bt h e
   have f:=f.bs e
   have i:=i.bs e
   rw [k]
   refine Bi O<|Ad O ?_
   refine Bw 24 O ?_ ?_
   ·intro o
    rw [o]
    refine Af (dj:=24) O O<|A6 underlying79 O (BU _)<|Af (dj:=24) O O<|Aa (An (BD _) O ‹_› rfl) O ?_
    refine Af (dj:=24) O O<|A6 underlying79 O (BU _)<|Af (dj:=24) O O<|Aa (An (BD _) O ‹_› rfl) O ?_
    refine Af (dj:=24) O O<|Aa (Ce O O) O<|Bi O<|Ad O ?_
    refine Bw 31 O ?_ ?_
    ·intro l
     rw [l]
     refine Af (dj:=31) O O<|A6 underlying79 O (BU _)<|Af (dj:=31) O O<|Aa (An (BD _) O ‹_› rfl) O ?_
     refine Af (dj:=31) O O<|A6 underlying79 O (BU _)<|Af (dj:=31) O O<|Aa (An (BD _) O ‹_› rfl) O ?_
     exact Af (dj:=31) rfl rfl<|Aa (Ce rfl rfl) rfl<|Bi rfl<|Ab rfl<|Aq<|Am rfl rfl<|⟨rfl,h⟩
    intro l
    rw [l]
    exact Ae (dj:=31) rfl rfl rfl rfl<|Ae (dj:=31) rfl rfl rfl rfl<|Ae (dj:=31) rfl rfl rfl rfl<|Ae (dj:=31) rfl rfl rfl rfl<|Ae (dj:=31) rfl rfl rfl rfl<|B6 rfl<|Ab rfl<|Aq<|Am rfl rfl<|⟨rfl,h⟩
   intro o
   rw [o]
   exact Ae (dj:=24) rfl rfl rfl rfl<|Ae (dj:=24) rfl rfl rfl rfl<|Ae (dj:=24) rfl rfl rfl rfl<|Ae (dj:=24) rfl rfl rfl rfl<|Ae (dj:=24) rfl rfl rfl rfl<|B6 rfl<|Ad rfl<|Ae (dj:=31) rfl rfl rfl rfl<|Ae (dj:=31) rfl rfl rfl rfl<|Ae (dj:=31) rfl rfl rfl rfl<|Ae (dj:=31) rfl rfl rfl rfl<|Ae (dj:=31) rfl rfl rfl rfl<|B6 rfl<|Ab rfl<|Aq<|Am rfl rfl<|⟨rfl,h⟩
  intro k
  rw [k]
  exact Ae (dj:=17) rfl rfl rfl rfl<|Ae (dj:=17) rfl rfl rfl rfl<|Ae (dj:=17) rfl rfl rfl rfl<|Ae (dj:=17) rfl rfl rfl rfl<|Ae (dj:=17) rfl rfl rfl rfl<|B6 rfl<|Ad rfl<|Ae (dj:=24) rfl rfl rfl rfl<|Ae (dj:=24) rfl rfl rfl rfl<|Ae (dj:=24) rfl rfl rfl rfl<|Ae (dj:=24) rfl rfl rfl rfl<|Ae (dj:=24) rfl rfl rfl rfl<|B6 rfl<|Ad rfl<|Ae (dj:=31) rfl rfl rfl rfl<|Ae (dj:=31) rfl rfl rfl rfl<|Ae (dj:=31) rfl rfl rfl rfl<|Ae (dj:=31) rfl rfl rfl rfl<|Ae (dj:=31) rfl rfl rfl rfl<|B6 rfl<|Ab rfl<|Aq<|Am rfl rfl<|⟨rfl,h⟩
 intro g
 rw [g]
 exact Ae (dj:=10) rfl rfl rfl rfl<|Ae (dj:=10) rfl rfl rfl rfl<|Ae (dj:=10) rfl rfl rfl rfl<|Ae (dj:=10) rfl rfl rfl rfl<|Ae (dj:=10) rfl rfl rfl rfl<|B6 rfl<|Ad rfl<|Ae (dj:=17) rfl rfl rfl rfl<|Ae (dj:=17) rfl rfl rfl rfl<|Ae (dj:=17) rfl rfl rfl rfl<|Ae (dj:=17) rfl rfl rfl rfl<|Ae (dj:=17) rfl rfl rfl rfl<|B6 rfl<|Ad rfl<|Ae (dj:=24) rfl rfl rfl rfl<|Ae (dj:=24) rfl rfl rfl rfl<|Ae (dj:=24) rfl rfl rfl rfl<|Ae (dj:=24) rfl rfl rfl rfl<|Ae (dj:=24) rfl rfl rfl rfl<|B6 rfl<|Ad rfl<|Ae (dj:=31) rfl rfl rfl rfl<|Ae (dj:=31) rfl rfl rfl rfl<|Ae (dj:=31) rfl rfl rfl rfl<|Ae (dj:=31) rfl rfl rfl rfl<|Ae (dj:=31) rfl rfl rfl rfl<|B6 rfl<|Ab rfl<|Aq<|Am rfl rfl<|⟨rfl,h⟩
theorem K7 (u v:Value) (xs f:List N5) (W:World) (p:GN W u xs) (w:GN W v f):AO prog 130 [u,v] W (fun r w' =>r= .bool (decide (xs.map pn=f.map pn))∧Below W.heap.size W w'):=by
 have x:=p.1
 have C:=w.1
 have R:=p.1.le
 refine A5 (n:=27) func130 O<|Ah<|Ab O<|Ba<|Ad O<|Aa (Ay BX O ‹_›) O ?_
 refine Ad O<|Aa (Ay BX O ‹_›) O ?_
 refine Aa (Ct O O) O<|Ak<|Al O ?_ ?_
 ·intro g
  have B:¬xs.length=f.length:=fun e=>by rw [e] at g;simp at g
  refine Ah<|Ab O<|Bl<|Am O O ?_
  exact ⟨by rw [decide_eq_false fun e=>B (by have:=cngA length e;simpa using this)],Below.refl _ _⟩
 intro g
 have B:xs.length=f.length:=by simp at g;omega
 refine B2<|Ap<|Ah<|Ab O<|Ak<|Av ?_
 refine B4 (S:=Nat) (fun i=>[(0,u),(1,v),(5, .int .i64 (i:Int))]) (fun i w' =>i≤xs.length∧(xs.take i).map pn=(f.take i).map pn∧Below W.heap.size W w') (fun i=>xs.length - i) (0) ⟨rfl,rfl,rfl,trivial⟩ ?_ ?_
 ·exact ⟨Nat.zero_le _,rfl,Below.refl _ _⟩
 rintro i d ⟨T,D,m⟩
 have x:=p.1.bs m
 have C:=w.1.bs m
 refine Ap<|Ah<|Ad O<|Ad O<|Aa (Ay BX O ‹_›) O ?_
 refine B9 O<|Ak<|Al O ?_ ?_
 ·intro h
  have c:i<xs.length:=by have:=AE h;omega
  have k:i<f.length:=by omega
  obtain ⟨a,t⟩:∃a,a=xs[i]:=⟨_,rfl⟩
  obtain ⟨b,s⟩:∃b,b=f[i]:=⟨_,rfl⟩
  have F:=p.cells c
  have G:=w.cells k
  rw [← t] at F
  rw [← s] at G
  have A:=(p.2 a (t ▸ getElem_mem c)).bs m
  have y:=(w.2 b (s ▸ getElem_mem k)).bs m
  have M:(xs.take (i+1)).map pn=(xs.take i).map pn++[pn a]:=by rw [take_succ_eq_append_getElem c,map_append,← t];rfl
  have J:(f.take (i+1)).map pn=(f.take i).map pn++[pn b]:=by rw [take_succ_eq_append_getElem k,map_append,← s];rfl
  refine B2<|Ap<|Av<|Ap ?_
  refine Cw.any mixed (fun N o _=> ?_)
  refine Dc (fun w' =>Below d.heap.size d w') (fun Q=> ?_) (o)
  refine B8 (Az (Bo (Az (Az (Bo (Az Bp))))))<|Aj 0 O (fun d j=>Bt O) O<|Aj 1 O (fun d j=>Bt O) O<|Aj 2 O (fun d j=>Dx BX O O (x.bs j) i O c) O<|Aj 3 O (fun d j=>Et (cs:=a.cells) (GM _) (GI _) O (x.bs j) O (by decide) F) O<|Aj 4 O (fun d j=>Bt O) O<|Aj 5 O (fun d j=>Bt O) O<|Aj 6 O (fun d j=>Dx BX O O (C.bs j) i O k) O<|Aj 7 O (fun d j=>Et (cs:=b.cells) (GM _) (GI _) O (C.bs j) O (by decide) G) O<|Br<|AR.only ‹_› (i:=8) (by kernel_rfl) O ?_
  refine Ai O O (L4 a b N (A.bs o) (y.bs o)) ?_
  rintro _ I ⟨rfl,L⟩
  have z:Below d.heap.size d I:=o.trans (L.mono o.size)
  have q:=m.trans (z.mono (AA m))
  refine AR.back<|B8 (Az (Bo (Az (Az (Bo (Az Bp))))))<|Aj 9 O (fun d j=>Cq O) O<|Br<|AR.done ‹_› (by kernel_rfl) ?_
  refine A3<|Cc<|Al O ?_ ?_
  ·intro l
   have l:¬pn a=pn b:=by simpa using l
   refine Ah<|Ab O<|Aq<|Bd<|Ao<|Ao<|Bd<|Ao<|Am O O ?_
   refine ⟨?_,q⟩
   rw [decide_eq_false fun e=>l ?_]
   have E:(xs.map pn)[i]? =some (pn a):=by rw [getElem?_map,getElem?_eq_getElem c,← t];rfl
   have H:(f.map pn)[i]? =some (pn b):=by rw [getElem?_map,getElem?_eq_getElem k,← s];rfl
   rw [e,H] at E
   exact (Option.some.inj E).symm
  intro l
  have l:pn a=pn b:=by simpa using l
  refine B7<|Bb<|Cx<|Ad O<|Cn O (by omega)<|Ab O<|A7 ?_
  exact A3 (B1 (i+1) ⟨rfl,rfl,rfl,trivial⟩ (⟨c,by rw [M,J,D,l],q⟩) (by omega))
 intro h
 have c:i=xs.length:=by have:=AC h;omega
 subst c
 have K:f.take xs.length=f:=by rw [B,take_length]
 rw [take_length,K] at D
 exact Bx<|A0<|A0<|Bh<|Cl<|Ab rfl<|Aq<|Am rfl rfl<|⟨by rw [decide_eq_true D],m⟩
theorem HP (u v:Value) (xs f:List N5) (W:World) (d:GN W u xs) (c:GN W v f):AO prog 29 [.agg [u].toArray, .agg [v].toArray] W (fun r w' =>r= .bool (decide (xs.map pn=f.map pn))∧Below W.heap.size W w'):=by
 have e:=Below.refl W.heap.size W
 refine A5 (n:=10) func29 O<|Ah<|Cv (cs:=[u]) O O O ?_
 rintro k w g b a -
 have e:=e.bs a
 have d:=d.bs a
 have c:=c.bs a
 refine Cv (cs:=[v]) O O O ?_
 rintro i w h j a -
 have e:=e.bs a
 have d:=d.bs a
 have c:=c.bs a
 have b:=b.bs a
 refine Ab O<|Au<|A6 underlying24 O (BW _)<|Aa (An (DH _) O ‹_› rfl) O ?_
 refine A6 underlying24 O (BW _)<|Aa (An (DH _) O ‹_› rfl) O ?_
 refine Ai O O (K7 u v xs f w d c) ?_
 rintro _ l ⟨rfl,a⟩
 exact Ab rfl<|Aq<|Am rfl rfl<|⟨rfl,bt e a⟩

theorem own:ownKnob Tryz.prog.godebug=none:=by kernel_rfl
theorem Mu:laidOutB prog=true:=by kernel_rfl
end Go.Proofs.YtblbopcaflaldaaGreatDoor

namespace Go.Proofs.YtblbopcaflaldaaGreatDoor
open Go Go.Dd Go.RowKit Go.ChangeShapes Go.WideShapes Go.ChangeAt List Go.Proofs.Tryz
set_option maxRecDepth 100000
-- dd: text
set_option maxHeartbeats 2000000 in
theorem Jo (v:Value) (ls:List N5) (s:List UInt8) (W:World) (f:HZ W) (h:GN W v ls) (hl:ls.length≤1125899906842624) (hf:∀t ∈ ls,t.few):
  AO prog 5 [.agg [v].toArray,st s] W (fun r w' =>r= .bool true∧Below W.heap.size W w'):=by
 have d:=Below.refl W.heap.size W
 have F:=f
 refine A5 (n:=111) func5 O<|Ah<|Cv (cs:=[v]) O O O ?_
 rintro A_m w Q c b -
 have d:=d.bs b
 have h:=h.bs b
 have f:=f.bs b
 refine Ab O<|Ba<|Ai O O (Kn _ f) ?_
 rintro _ w ⟨rfl,b⟩
 have d:=d.bs b
 have h:=h.bs b
 have f:=f.bs b
 have c:=c.bs b
 refine Aa (Cq O) O<|Ad O<|Cd 20 (v' := .bool false) O (cngA Value.bool (rfl))<|Af (dj:=20) O O<|Aa (Bu (k:=1) (DR _) (BZ _) O O c) O<|Af (dj:=20) O O<|Ai O O (PU v ls _ h hl hf) ?_
 rintro _ w ⟨rfl,b⟩
 have d:=d.bs b
 have h:=h.bs b
 have f:=f.bs b
 have c:=c.bs b
 refine Af (dj:=20) O O<|Aa (C1 O O) O<|B6 O<|Ad O ?_
 refine Bw 25 O ?_ ?_
 ·intro M
  refine Ae (dj:=25) O O O O<|Ae (dj:=25) O O O O<|Ae (dj:=25) O O O O<|Bi O<|Ak<|Bn O<|Ah<|Ai O O (Kn _ f) ?_
  rintro _ w ⟨rfl,b⟩
  have d:=d.bs b
  have h:=h.bs b
  have f:=f.bs b
  have c:=c.bs b
  exact Ab rfl<|Bl<|Am rfl rfl<|⟨rfl,d⟩
 intro M
 refine Af (dj:=25) O O<|Ad O<|Af (dj:=25) O O<|Aa (Er HX O) O<|Af (dj:=25) O O<|Aa (C1 O O) O<|B6 O<|Ak<|Al O ?_ ?_
 ·intro G
  refine Ah<|Ai O O (Kn _ f) ?_
  rintro _ w ⟨rfl,b⟩
  have d:=d.bs b
  have h:=h.bs b
  have f:=f.bs b
  have c:=c.bs b
  exact Ab rfl<|Bl<|Am rfl rfl<|⟨rfl,d⟩
 intro G
 have G:s.length≤100000:=by have:=AC G;omega
 clear M
 refine Ca<|Aa (Bu (k:=1) (DR _) (BZ _) O O c) O<|Ai O O (Kb v ls _ f h) ?_
 rintro _ w ⟨b,rfl⟩
 have d:=d.bs b
 have h:=h.bs b
 have f:=f.bs b
 have c:=c.bs b
 refine Ad O<|Aa (Ex.extract (i:=0) O O) O<|Aa (Ex.extract (i:=1) O O) O<|Ab O<|Ab O<|Ba<|Ad O<|Aa (Ce O O) O<|Aa (Bu (k:=1) (DR _) (BZ _) O O c) O<|Ai O O (Hw v ls _ h) ?_
 rintro _ w ⟨b,rfl⟩
 have d:=d.bs b
 have h:=h.bs b
 have f:=f.bs b
 have c:=c.bs b
 refine Aa (Ex.neqB R2 O O) O<|Ak<|Cm O false (by unfold GH;cases (EU ls).isSome<;>rfl)<|B2<|Ap<|Ah<|Ad O<|Aa (Ce O O) O<|Ak ?_
 refine D8 (St:=Unit) (fun z=>[(1,st s)]) (fun z w' =>Below W.heap.size W w') ?_ ?_
 ·refine Al O ?_ ?_
  ·intro g
   have g:(EU ls).isSome=true:=by
    have:=AE g
    unfold GH at this
    cases e:(EU ls).isSome with
    |true=>rfl
    |false=>rw [e] at this;cases this
   have I:GG ls=AX ls:=by unfold GG;rw [if_pos g]
   rw [I]
   obtain ⟨q1,q2,q3⟩:=I4 g (s:=AX ls) (.inl rfl)
   obtain ⟨p,H⟩:∃p,AX ls=p++[10]:=by
    obtain ⟨R, -, -⟩:=JA g
    refine ⟨(AX ls).dropLast, ?_⟩
    obtain ⟨l,x,rfl⟩:∃l x,ls=l++[x]:=by
     have:ls≠[]:=fun e=>by rw [e] at R;exact absurd R (by decide)
     exact ⟨_,_,(List.dropLast_concat_getLast this).symm⟩
    rw [Js]
    have e:AX [x]=EC x++[10]:=by simp [AX,Hq,EC]
    rw [e,← append_assoc,List.dropLast_concat]
   have lT:=G5 (Ht g).2
   have l32:=(Ht g).1
   obtain ⟨o1,o2,o3⟩:=I4 g (s:=p) (.inr H.symm)
   have lp:(AX ls).length=p.length+1:=by rw [H,length_append];rfl
   have tp:(AX ls).take p.length=p:=by rw [H,take_left]
   refine Ah<|Ad O<|Ai O O (Hi (AX ls) w f) ?_
   rintro _ w ⟨b,B,xs,rfl,X,V,S⟩
   rw [q2,q3]
   rw [q1] at X
   have m:GN w B xs:=⟨S.sl,fun a A=>(V.each a A).at⟩
   have d:=d.bs b
   have h:=h.bs b
   have f:=f.bs b
   have c:=c.bs b
   clear b S V
   have oX:[B].all (·.oneCell')=true:=by rw [all_cons,m.sl.one'];rfl
   refine Ad O<|Aa (Ex.extract (i:=0) O O) O<|Aa (Ex.extract (i:=1) O O) O<|Aa (Ex.extract (i:=2) O O) O<|Cu (cs:=[B]) IL O O O O (fun _=>rfl) (oX) ?_
   rintro A_x w eA_x j b -
   have d:=d.bs b
   have h:=h.bs b
   have f:=f.bs b
   have c:=c.bs b
   have m:=m.bs b
   refine Ab O<|Ab O<|Au<|Ad O<|Ad O<|Aa (Er HX O) O<|Aa (Ex.as (Ej O O (by omega)) (cngA (Value.int .i64) (show ((AX ls).length:Int) - 1=(p.length:Int) by omega))) O<|Aa (Ex.as (Ex.cutTh (k' := .i64) p.length HX O O O (by omega)) (cngA st tp)) O<|Ai O O (Hi p w f) ?_
   rintro _ w ⟨b,D,Y,rfl,U,L,kY⟩
   rw [o2,o3]
   rw [o1] at U
   have q:GN w D Y:=⟨kY.sl,fun a A=>(L.each a A).at⟩
   have d:=d.bs b
   have h:=h.bs b
   have f:=f.bs b
   have c:=c.bs b
   have m:=m.bs b
   have j:=j.bs b
   clear b kY L
   have oY:[D].all (·.oneCell')=true:=by rw [all_cons,q.sl.one'];rfl
   refine Ad O<|Aa (Ex.extract (i:=0) O O) O<|Aa (Ex.extract (i:=1) O O) O<|Aa (Ex.extract (i:=2) O O) O<|Cu (cs:=[D]) IL O O O O (fun _=>rfl) (oY) ?_
   rintro A_y w Z o b -
   have d:=d.bs b
   have h:=h.bs b
   have f:=f.bs b
   have c:=c.bs b
   have m:=m.bs b
   have j:=j.bs b
   have q:=q.bs b
   refine Ab O<|Ab O<|Au<|Ad O<|Aa (Ct O O) O<|Ad O<|Cd 61 (v' := .bool false) O (cngA Value.bool (rfl))<|Af (dj:=61) O O<|Ad O<|Af (dj:=61) O O<|Aa (Ct O O) O<|B6 O<|Ad O<|Cd 65 (v' := .bool false) O (cngA Value.bool (rfl))<|Af (dj:=65) O O<|Ad O<|Af (dj:=65) O O<|Aa (Ct O O) O<|B6 O<|Ad O<|Cd 69 (v' := .bool false) O (cngA Value.bool (rfl))<|Af (dj:=69) O O<|Aa (Bu (k:=1) (DR _) (BZ _) O O j) O<|Af (dj:=69) O O<|Aa (Bu (k:=1) (DR _) (BZ _) O O c) O<|Af (dj:=69) O O<|Ai O O (HP B v xs ls w m h) ?_
   rintro _ w ⟨rfl,b⟩
   have d:=d.bs b
   have h:=h.bs b
   have f:=f.bs b
   have c:=c.bs b
   have m:=m.bs b
   have j:=j.bs b
   have q:=q.bs b
   have o:=o.bs b
   refine Af (dj:=69) O O<|Aa (Cq O) O<|B6 O<|Ad O<|Cd 75 (v' := .bool false) O (cngA Value.bool (by rw [X];simp))<|Af (dj:=75) O O<|Aa (Bu (k:=1) (DR _) (BZ _) O O o) O<|Af (dj:=75) O O<|Aa (Bu (k:=1) (DR _) (BZ _) O O c) O<|Af (dj:=75) O O<|Ai O O (HP D v Y ls w q h) ?_
   rintro _ w ⟨rfl,b⟩
   have d:=d.bs b
   have h:=h.bs b
   have f:=f.bs b
   have c:=c.bs b
   have m:=m.bs b
   have j:=j.bs b
   have q:=q.bs b
   have o:=o.bs b
   refine Af (dj:=75) O O<|Aa (Cq O) O<|B6 O<|Ak<|Cm O false (by rw [U];simp)<|B7 ?_
   exact Bv (()) ⟨rfl,trivial⟩ (d)
  intro g
  exact B7<|Bv (()) ⟨rfl,trivial⟩ (d)
 clear h c d f
 rintro - w2 d
 have f:=F.bs d
 refine Ah<|Ad O<|Ai O O (Hi s w2 f) ?_
 rintro _ w ⟨b,zv,u,rfl,E,T,C⟩
 have K:GN w zv u:=⟨C.sl,fun a A=>(T.each a A).at⟩
 replace d:=bt d b
 have f:=f.bs b
 have oZ:[zv].all (·.oneCell')=true:=by rw [all_cons,C.sl.one'];rfl
 have sZ:=C.sl.shp
 clear b T C
 refine Ad O<|Aa (Ex.extract (i:=0) O O) O<|Aa (Ex.extract (i:=1) O O) O<|Aa (Ex.extract (i:=2) O O) O<|Cu (cs:=[zv]) IL O O O O (fun _=>rfl) (oZ) ?_
 rintro A_z w3 eA_z J b zhn
 replace d:=bt d b
 have f:=f.bs b
 have K:=K.bs b
 refine Ab O<|Ab O<|Ba<|Ad O<|Aa (Ct O O) O<|Ak<|Al O ?_ ?_
 ·intro g
  have g:FE s≠0:=by simpa using g
  have e0:u=[]:=by
   have:=PE g
   rw [this] at E
   simpa using E
  refine Ah<|A6 underlying24 O (BW _)<|Aa (An (DH _) O ‹_› rfl) O ?_
  refine Aa (Ep BX O sZ) O<|Aa (Ce O O) O<|Ab O<|Bl<|Am O O ?_
  rw [e0]
  exact ⟨rfl,d⟩
 intro g
 have g:FE s=0:=by simpa using g
 obtain ⟨t1,y⟩:=Ly g
 have N:(EU u).isSome=true:=by rw [← GB,E];exact t1
 have eT:AX u=AX ((FL s).map un):=NN (by rw [← E,map_map,map_map];rfl)
 have I:GG u=AX ((FL s).map un):=by unfold GG;rw [if_pos N,eT]
 have eE:GH u=0:=by unfold GH;rw [if_pos N]
 refine Ca<|Aa (Bu (k:=1) (DR _) (BZ _) O O J) O<|Ai O O (Kb zv u w3 f K) ?_
 rintro _ w4 ⟨b,rfl⟩
 replace d:=bt d b
 rw [I,eE]
 refine Ad O<|Aa (Ex.extract (i:=0) O O) O<|Aa (Ex.extract (i:=1) O O) O<|Ab O<|Ab O<|Au<|Ad O<|Aa (Ce O O) O<|Ad O<|Cd 100 (v' := .bool true) O (cngA Value.bool (rfl))<|Af (dj:=100) O O<|Ad O<|Af (dj:=100) O O<|Ad O<|Af (dj:=100) O O<|Aa (D5 O O) O<|Af (dj:=100) O O<|Ad O ?_
 refine Bw 104 O ?_ ?_
 ·intro e
  exact Ae (dj:=104) rfl rfl rfl rfl<|Ae (dj:=104) rfl rfl rfl rfl<|Ae (dj:=104) rfl rfl rfl rfl<|Ae (dj:=104) rfl rfl rfl rfl<|Af (dj:=100) rfl rfl<|Bi rfl<|Bi rfl<|Ab rfl<|Aq<|Am rfl rfl<|⟨rfl,d⟩
 intro e
 have e:¬AX ((FL s).map un)=s:=AC e
 refine Af (dj:=104) O O<|Ad O<|Af (dj:=104) O O<|Ad O<|Af (dj:=104) O O<|Aa (Ex.addT O O (by simp only [length_singleton];omega)) O<|Af (dj:=104) O O<|Aa (D5 O O) O<|Af (dj:=100) O O<|B6 O<|Bi O<|Ab O<|Aq<|Am O O ?_
 rcases y with y|y
 ·exact absurd y e
 ·exact ⟨by rw [decide_eq_true y],d⟩
end Go.Proofs.YtblbopcaflaldaaGreatDoor

namespace Go.Proofs.YtblbopcaflaldaaGreatDoor
open Go Go.Dd Go.RowKit Go.ChangeShapes List Go.Proofs.Tryz
set_option maxRecDepth 100000
def Pb:DataW Unit→List Value
 | .lit (.int k n)=>[.int k n]
 | .lit (.bool b)=>[.bool b]
 |_=>[]
def Sc:DataW Unit→List Value
 | .agg l=>l.flatMap Pb
 |d=>Pb d
def Sb:DataW Unit→List Value
 | .agg l=>l.flatMap Sc
 |d=>Pb d
noncomputable def RO:Nat:=(World.holding prog default ⟨#[], #[],[]⟩).heap.size
noncomputable def IH (os:Os):World:=
 let w0:=World.holding prog os ⟨#[.cells #[st [118,97,108,117,101,32,111,117,116,32,111,102,32,114,97,110,103,101]] 356, .cells #[st [105,110,118,97,108,105,100,32,115,121,110,116,97,120]] 356], #[],[]⟩
 {w0 with heap:=((Rows.modelsTextRow.laid.foldl (fun h x=>h.modify ((Tryz.prog.globalNamed x.1).getD 0) fun
   | .cells _ t fz=> .cells (Sb x.2).toArray t fz
   |o=>o) w0.heap).modify 5 fun
   | .cells _ t fz=> .cells #[.iface 354 (.pointer (some ⟨RO,0,none⟩))] t fz
   |o=>o).modify 4 fun
   | .cells _ t fz=> .cells #[.iface 354 (.pointer (some ⟨RO+1,0,none⟩))] t fz
   |o=>o}
theorem Nf (os:Os) (args:Array Value):laidMetH prog Rows.modelsTextRow.laid ((IH os).forCall (fun _ _=>0) ⟨#[],args,[]⟩).memory:=
 laidMetH_of_parts (laidMet_of_run' 8 (by kernel_rfl) (by kernel_rfl)) (by kernel_rfl)
theorem Mk (u : TypeId) (h : Tryz.prog.typeName? 3 u = some "*errors.errorString") : u = 354 :=
 typeName_ptr_named (nm := "errors.errorString") (by kernel_rfl) (by kernel_rfl) (by decide) u h
theorem KW {W:World} (n:laidMetH prog Rows.modelsTextRow.laid W) (c:W.ShapedOpen prog):HZ W:=by
 have h:laidMet prog Rows.modelsTextRow.laid W:=n
 have f:=h.tail.tail
 have i:=f.tail.tail
 have l:=i.tail
 obtain ⟨a,s,k, -⟩:=laid_sentinel i (g:=5) (by kernel_rfl) (ti:=129) (by kernel_rfl) underlying129 Mk underlying354 underlying356 rfl rfl HX (by kernel_rfl) (by kernel_rfl)
 obtain ⟨b,u,j, -⟩:=laid_sentinel l (g:=4) (by kernel_rfl) (ti:=129) (by kernel_rfl) underlying129 Mk underlying354 underlying356 rfl rfl HX (by kernel_rfl) (by kernel_rfl)
 have d:W.cell? ⟨5,0,none⟩=some (.iface 354 (.pointer (some a))):=by simpa using World.var?_cell (g:=5) (by kernel_rfl) k 0
 have m:W.cell? ⟨4,0,none⟩=some (.iface 354 (.pointer (some b))):=by simpa using World.var?_cell (g:=4) (by kernel_rfl) j 0
 refine ⟨cell_of_shapedOpen_int c (g:=0) (t:=3) (zero:= #[.int .i64 0]) (AE (by kernel_rfl)) (by kernel_rfl) O (by kernel_rfl) (by kernel_rfl) H7,Lib.tabIs_of_head (g:=1) (by kernel_rfl) (by kernel_rfl) underlying332 NF (by kernel_rfl) (by kernel_rfl) f,⟨_,_,m⟩,⟨_,_,d⟩, ?_⟩
 rcases Nat.lt_or_ge 5 W.heap.size with e|e
 ·exact e
 ·rw [show W.cell? ⟨5,0,none⟩=none by simp [World.cell?,Array.getElem?_eq_none e]] at d
  cases d
end Go.Proofs.YtblbopcaflaldaaGreatDoor

namespace Go.Proofs.YtblbopcaflaldaaGreatDoor
open Go Go.Dd Go.RowKit Go.ChangeShapes List
set_option maxRecDepth 100000
theorem Na {H:Type} {enc:TypeId×Value→H} {a:Assume} {C:Checked} {os:Os} {f:FuncId} {p:Func} {s:ChangeSpec} {o:List PathCond} {b m h k:Bool} {l:List (String×DataW Unit)}
  (own:ownKnob C.prog.godebug=none) (n:os.Started) (q:C.prog.inits.idxOf? f=none) (B:C.prog.funcs[f]? =some p)
  (J:∃(w:World) (c:Tape) (i:Input),w.os=os∧(w.forCall c i).Shaped C.prog∧i.vars=[]∧Input.okWide C.prog (w.forCall c i) .any w.heap.size f i∧
   ((s.pre enc C.prog p o b (w.forCall c i).memory i.args∧laidMetH C.prog l (w.forCall c i).memory)∧sizedMet enc C.prog p (OpenSpec.ofChange s) b (w.forCall c i).memory i.args)∧a.holds C.prog (lone (Frame.enter C.prog f i.args .normal) [] (w.forCall c i)))
  (u:∀(W:World) (base:Nat) (args:Array Value) (ds y:List (DataW H)) (d:List MemPlace),(∀(j:Nat) t v,p.params[j]? =some t→args[j]? =some v→Value.okWide C.prog W .any base t v)→
   DataW.Whole enc C.prog p.params.toList s.vars b W args.toList ds y d→(DataW.weightsEach C.prog (p.params.toList++s.plain.varTypes C.prog) (ds++y)).all (·≤reachBytes)=true→laidMetH C.prog l W→W.ShapedOpen C.prog→
   Calls C.prog f args W fun e E=>∃v,e= .returned v∧s.post enc C.prog p b m h k W args v E):
  ReturnsInHanded a C os f .any (fun w args=>(s.pre enc C.prog p o b w args∧laidMetH C.prog l w)∧sizedMet enc C.prog p (OpenSpec.ofChange s) b w args) (s.post enc C.prog p b m h k):=
 returnsInHanded_of_calls own n q J fun w c i _ A _ z x _=>by
  obtain ⟨_,_,_,g,F,_,_,_,_,r⟩:=z
  cases B.symm.trans F
  obtain ⟨⟨⟨ds,y,d,D,_⟩,G⟩,I⟩:=x
  refine (u _ _ _ ds y d r (DataW.Whole.of_heap (w' :=w.forCall c i) (by rfl) D) (I.weights D) (laidMetH.of_heap (w' :=w.forCall c i) (by rfl) G) A).mono ?_
  rintro e E ⟨v,rfl,K⟩
  exact ChangeSpec.post_blind K
end Go.Proofs.YtblbopcaflaldaaGreatDoor
