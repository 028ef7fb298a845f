/- Texts of this proof, one behind the other: MovesCode, NumsCode, MovesSum, RefMoves, RefOrd, RefTurn, RefSum, TensorsAt, MovesJoin, JoPl, IntLists, RefJoined, JoinPl, RefJoin, GraphCode, GraphKind. -/
import Derived.Test.YtmipoeanpnnjoaaGreatDoorPk2
import Derived.Test.YtmipoeanpnnjoaaGreatDoorPk3
import Derived.Test.YtmipoeanpnnjoaaGreatDoorPk1

namespace Go.Proofs.YtmipoeanpnnjoaaGreatDoor
open Go Go.Dd Go.RowKit List Go.Proofs.Tryz
set_option maxRecDepth 100000
structure DU (W w:World) (x y:Value) (s:List Int) (l:List (BitVec 32)):Prop where
 row:BM w W.heap.size 3 1 x s.length (s.map (Value.int .i64))
 col:BM w W.heap.size 21 1 y l.length (l.map i32)
 apart:JX y x
theorem DU.at {W w:World} {x y:Value} {s:List Int} {l:List (BitVec 32)} (h:DU W w x y s l):(T4.mk x y s l).at w:=⟨h.row.slT,h.col.slT⟩
theorem DA.k {W w:World} {x y:Value} {s:List Int} {l:List (BitVec 32)} (h:DA W w x y s l):DU W w x y s l:=⟨h.row, .inl h.own,h.apart⟩
def Jw (W w:World) (r:Value) (e:Int) (s:List Int) (l:List (BitVec 32)):Prop:=
 ∃x y,r= .tuple #[.agg #[x,y], .int .i64 e]∧(e≠0→x= .slice none 0 0∧y= .slice none 0 0)∧(e=0→DU W w x y s l)
theorem CC {W w:World} {e:Int} {s:List Int} {l:List (BitVec 32)} (h:e≠0):Jw W w (.tuple #[.agg #[.slice none 0 0, .slice none 0 0], .int .i64 e]) e s l:=⟨_,_,rfl,fun _=>⟨rfl,rfl⟩,fun a=>absurd a h⟩
theorem Hm {w a:World} {base B:Nat} {e:TypeId} {sz n:Nat} {v:Value} {xs:List Value} (h:BM w base e sz v n xs) (g:w.grownBy a (some B)) (c:B<base):BM a base e sz v n xs:=
 h.by' g (by
  cases hc:v.ownBlock with
  |none=>exact .inl rfl
  |some b=>exact .inr fun e=>by have:=(h.lt b hc).1;cases e;omega)
theorem MS (u:Value) (a:List (BitVec 32)) (w:World) (g:BS i32 w u a) (q:a.length≤4194304):AM prog 193 [u] w (fun r i=>i.ownsRow w.heap.size 21 1 r a.length (a.map i32)∧Below w.heap.size w i):=by
 obtain ⟨o,d,cap,rfl,m,k,j,l⟩:=g
 have g:BS i32 w (.slice d a.length cap) a:=⟨o,d,cap,rfl,m,k,j,l⟩
 refine Bb (n:=8) func193 O<|Af<|Ab O<|Bh<|Ac O<|Aa (Ex.nilS Wh O O) O<|Ak<|Aq O ?_ ?_
 ·intro h
  obtain rfl:d=none:=by cases d<;>simp_all
  obtain rfl:a=[]:=eq_nil_of_length_eq_zero (by have:=j rfl;omega)
  exact Af<|Ab rfl<|Bu<|Ax rfl rfl<|⟨⟨rfl, .inl ⟨rfl,rfl⟩⟩,Below.refl _ _⟩
 intro h
 refine Co<|Bk (Dl (vs:=[]) AU DY O O O O O) O ?_
 rintro s p ⟨e, -,b, -⟩
 refine Ac O<|Bk (Dp (base:=w.heap.size) AU DY O (by decide) O O e (g.bs b) (DE (fun _=>rfl) _) (by omega) (by omega) b.size) O ?_
 rintro t v ⟨c,f, -⟩
 rw [Nat.zero_add,nil_append] at c
 exact Ab rfl<|Bc<|Ax rfl rfl<|⟨c,b.trans f⟩
theorem OO (u:Value) (a:List (BitVec 32)) (w:World) (c:BS i32 w u a):AM prog 192 [u] w (fun r b=>r=clip u∧Below w.heap.size w b):=by
 refine Bb (n:=9) func192 O<|Af<|Ab O<|Bl<|Ac O<|Ac O<|Aa (Au AU O ‹_›) O ?_
 refine Ac O<|Aa (Au AU O ‹_›) O ?_
 exact Aa (Fm AU rfl rfl rfl c.shp) rfl<|Ab rfl<|Bc<|Ax rfl rfl<|⟨rfl,Below.refl _ _⟩
def KV (t:T4) (s:List Int):Int:=if tok t.s t.l && Shapes.ok s then (if Shapes.size s=(t.l.length:Int) then 0 else 10) else 1
theorem Tq (t:T4) (u:Value) (s:List Int) (W:World) (f:t.at W) (j:BS (Value.int .i64) W u s):
  AM prog 124 [t.v,u] W (fun r J=>Below W.heap.size W J∧Jw W J r (KV t s) s t.l):=by
 have m:=Below.refl W.heap.size W
 refine Bb (n:=32) func124 O<|Af<|B5 (cs:=[t.x,t.y]) O O O ?_
 rintro M w Q l a -
 have m:=m.bs a
 have f:=f.bs a
 have j:=j.bs a
 have z0:=AA m
 have y_t:=AH l
 refine Cx AY O ?_
 rintro A w Z d a -
 have m:=m.bs a
 have f:=f.bs a
 have j:=j.bs a
 have l:=l.bs a
 refine Ab O<|Ak<|An<|Ao<|Af<|Aa (B9 (AT _) (AP _) O O ‹_›) O ?_
 have z_r:=AH d
 refine Aj O O (DS t.x t.y t.s t.l _ f.1 f.2) ?_
 rintro _ w ⟨rfl,a⟩
 have m:=m.bs a
 have f:=f.bs a
 have j:=j.bs a
 have l:=l.bs a
 have d:=d.bs a
 refine Aa (Ck O) O<|Ac O ?_
 refine Cc 10 O ?_ ?_
 ·intro g
  refine Ae (dj:=10) O O O O<|Ae (dj:=10) O O O O<|Ae (dj:=10) O O O O<|B4 O<|Ab O<|Ak<|Bz O<|Af<|C8 O<|Az (Bv (cs:=[.slice none 0 0, .slice none 0 0]) O O O O O d O) ?_
  rintro R ⟨d,z, -⟩
  have m:=m.grown z (AA m) (by rintro _ ⟨⟩;omega)
  refine Ab O<|Bc<|Bi<|Av<|Bt O O O ‹_› underlying33 O O O ?_
  rw [show KV t s=1 by simp_all [KV]]
  exact ⟨m,CC (by decide)⟩
 intro X
 refine Ag (dj:=10) O O<|Ac O<|Ag (dj:=10) O O<|Aj O O (EL u s _ j) ?_
 rintro _ w ⟨rfl,a⟩
 have m:=m.bs a
 have f:=f.bs a
 have j:=j.bs a
 have l:=l.bs a
 have d:=d.bs a
 refine Ag (dj:=10) O O<|Aa (Ck O) O<|Cn O<|Ab O<|Ak<|Aq O ?_ ?_
 ·intro g
  refine Af<|C8 O<|Az (Bv (cs:=[.slice none 0 0, .slice none 0 0]) O O O O O d O) ?_
  rintro R ⟨d,z, -⟩
  have m:=m.grown z (AA m) (by rintro _ ⟨⟩;omega)
  refine Ab O<|Bc<|Bi<|Av<|Bt O O O ‹_› underlying33 O O O ?_
  rw [show KV t s=1 by simp_all [KV]]
  exact ⟨m,CC (by decide)⟩
 intro U
 have C:tok t.s t.l=true:=by simpa using X
 have D:Shapes.ok s=true:=by simpa using U
 have szs:=Shapes.size_le s
 have szt:=Shapes.size_le t.s
 have lt:=(BJ C).2
 have S:=(Shapes.ok_iff s).1 D
 clear X U
 have k:=f.2
 refine An<|Cv AS (by kernel_rfl)<|Bg O<|C3 O O (fun o p=>(G5 u s o (j.bs p)).q p)<|Ad (fun o p=>Cd underlying33 O (BC _)) O<|Ad (fun o p=>Ah (BG _) O (AO.bs ‹_› p) O) O ?_
 refine Ad (fun o p=>Au AU O (Sl.bs ‹_› p)) O ?_
 refine Ad (fun o p=>Cs O O) O<|Dk O ?_
 refine Cr (fun o p=> ?_)
 refine Ap<|B8 ?_
 have m:=m.bs p
 have f:=f.bs p
 have j:=j.bs p
 have l:=l.bs p
 have d:=d.bs p
 have k:=k.bs p
 refine Aq O ?_ ?_
 ·intro g
  have g:¬Shapes.size s=(t.l.length:Int):=by simpa using g
  refine Af<|C8 O<|Az (Bv (cs:=[.slice none 0 0, .slice none 0 0]) O O O O O d O) ?_
  rintro R ⟨d,z, -⟩
  have m:=m.grown z (AA m) (by rintro _ ⟨⟩;omega)
  refine Ab O<|Bc<|Bi<|Av<|Bt O O O ‹_› underlying33 O O O ?_
  rw [show KV t s=10 by unfold KV;rw [C,D];simp [g]]
  exact ⟨m,CC (by decide)⟩
 intro g
 have g:Shapes.size s=(t.l.length:Int):=by simpa using g
 rw [show KV t s=0 by unfold KV;rw [C,D];simp [g]]
 refine Cp<|Bn<|Ap<|B8<|An ?_
 rename World=>o
 have T:=AA m
 have G:A<o.heap.size:=AH d
 have V:=l
 have K:=k
 refine Cw.any AS (fun w c _=> ?_)
 have m:=m.bs c
 have f:=f.bs c
 have j:=j.bs c
 have l:=l.bs c
 have d:=d.bs c
 have k:=k.bs c
 have I:M<A:=by omega
 refine Dh (fun J=>Below A o J) (fun hC=> ?_) (c.mono (by omega))
 refine Cj (Am Bo)<|Ai 0 O (fun o H=>B6 O) O<|Ai 3 O (fun o H=>Cd underlying33 O (BC _)) O<|Ai 4 O (fun o H=>Ah (BG _) O (AO.bl ‹_› H I) O) O<|Cb ?_
 refine AZ.only (by first|exact q|exact c.mono (by omega)) (i:=1) (by kernel_rfl) O ?_
 have N:=c.size
 refine Aj O O (Hl u s _ j (by omega)) ?_
 rintro x w ⟨E,a⟩
 have E:=BH (B' :=o.heap.size) E (by omega)
 clear N
 have m:=m.bs a
 have f:=f.bs a
 have j:=j.bs a
 have l:=l.bs a
 have d:=d.bs a
 have k:=k.bs a
 have c:=c.bs a
 refine AZ.back<|AZ.only (by first|exact q|exact c.mono (by omega)) (i:=2) (by kernel_rfl) O<|Aj O O (Md x s _ (AQ E)) ?_
 rintro _ w ⟨rfl,a⟩
 have m:=m.bs a
 have f:=f.bs a
 have j:=j.bs a
 have l:=l.bs a
 have d:=d.bs a
 have k:=k.bs a
 have c:=c.bs a
 have E:=E.bs a
 have v:=BM.clip E
 refine AZ.back<|AZ.only (by first|exact q|exact c.mono (by omega)) (i:=5) (by kernel_rfl) O ?_
 have N:=c.size
 have zx:∀b,(clip x).ownBlock=some b→b<_:=fun b e=>(v.lt b e).2
 refine Aj O O (MS t.y t.l _ k (by omega)) ?_
 rintro y w ⟨B,a⟩
 have py:=AG B
 have B:=BH (B' :=o.heap.size) B (by omega)
 clear N
 have m:=m.bs a
 have f:=f.bs a
 have j:=j.bs a
 have l:=l.bs a
 have d:=d.bs a
 have k:=k.bs a
 have c:=c.bs a
 have v:=v.bs a
 refine AZ.back<|AZ.only (by first|exact q|exact c.mono (by omega)) (i:=6) (by kernel_rfl) O<|Aj O O (OO y t.l _ (AQ B)) ?_
 rintro _ w ⟨rfl,a⟩
 have m:=m.bs a
 have f:=f.bs a
 have j:=j.bs a
 have l:=l.bs a
 have d:=d.bs a
 have k:=k.bs a
 have c:=c.bs a
 have v:=v.bs a
 have B:=B.bs a
 have F:=BM.clip B
 have by' :(clip y).ownBlock=y.ownBlock:=Qi y (by obtain ⟨_,ao,cap,rfl,_⟩:=AI B;exact ⟨_,_,_,rfl⟩)
 refine AZ.back<|Cj (Am Bo)<|Ai 7 O (fun o H=>C4 (vs:=[(0,clip x),(1,clip y)]) (cs:=[clip x,clip y]) O (Hs _ _ v.slT.one F.slT.one)) O<|Cb<|AZ.only (by first|exact q|exact c.mono (by omega)) (i:=8) (by kernel_rfl) O ?_
 have L:[clip x,clip y].all (·.oneCell')=true:=by simp [v.slT.one',F.slT.one']
 refine Az (Bv (cs:=[clip x,clip y]) O O O O L d O) ?_
 rintro w2 ⟨Y,z, -⟩
 have v:=Hm v z G
 have F:=Hm F z G
 have m:=m.grown z (AA m) (by rintro _ ⟨⟩;omega)
 have q:Below A o w2:=(c.mono (by omega)).grown z (by have:=c.size;omega) (by rintro _ ⟨⟩;omega)
 refine AZ.back<|Cj (Am Bo)<|Ai 9 O (fun o H=>Cf O) O<|Cb<|Cu (by first|exact q|exact c.mono (by omega)) (by kernel_rfl)<|Ap<|B8<|Df<|Bt O O O ‹_› underlying33 O O O ?_
 exact ⟨m,clip x,clip y,rfl,fun h=>absurd rfl h,fun _=>⟨v.mono T,F.mono T,fun b e1 e2=>by
  have h1:=py b (by rw [← by'];exact e1)
  have h2:=zx b e2
  omega⟩⟩
theorem OV (u:Value) (s:List Int) (k:Nat) (w:World) (c:BS (Value.int .i64) w u s) (b:Shapes.ok s=true) (q:k<s.length):
  AM prog 219 [u, .int .i64 (k:Int)] w (fun r f=>r= .int .i64 (Shapes.prod (s.drop (k+1)))∧Below w.heap.size w f):=by
 have S:=(Shapes.ok_iff s).1 b
 obtain ⟨d,e⟩:∃d,d=s.drop (k+1):=⟨_,rfl⟩
 have v:d.length=s.length - (k+1):=by rw [e,length_drop]
 have l:Shapes.good d:=e ▸ Shapes.good_drop S.2.1 (k+1)
 have A:Shapes.prod d≤4096:=by have:=(Shapes.ok_prod b (k+1)).2;rw [e];exact this
 have g:=BS.drop c (i:=k+1) (by omega)
 rw [← e] at g ⊢
 refine Bb (n:=22) func219 O<|Af<|Ab O<|Bl<|Ab O<|Bh<|Ac O<|Ac O<|Aa ((De O O (by omega)).as (cngA (Value.int .i64) (show (k:Int)+1=((k+1:Nat):Int) by omega))) O<|Aa (Fe (i:=k+1) Ng O O c (by omega)) O<|Aa (Au Ng O ‹_›) O ?_
 refine Ac O<|Ak<|Ao ?_
 refine Bq (S:=Nat) (fun j=>[(5, .int .i64 (Shapes.prod (d.take j))),(11,cut u 1 (k+1) s.length),(12, .int .i64 (d.length:Int)),(13, .int .i64 (j:Int))]) (fun j f=>j≤d.length∧f=w) (fun j=>d.length - j) (0) ⟨rfl,rfl,rfl,rfl,trivial⟩ ?_ ?_
 ·exact ⟨Nat.zero_le _,rfl⟩
 rintro j p ⟨z,rfl⟩
 refine Af<|B3 O<|Ak<|An<|Aq O ?_ ?_
 ·intro h
  have a:j<d.length:=by have:=AD h;omega
  have e1:Shapes.prod (d.take (j+1))=Shapes.prod (d.take j)*d.getD j default:=by
   rw [take_succ_eq_append_getElem a,Shapes.prod_append];simp [Shapes.prod,a]
  have e2:Shapes.prod d=Shapes.prod (d.take (j+1))*Shapes.prod (d.drop (j+1)):=by rw [← Shapes.prod_append,take_append_drop]
  have y:=Shapes.prod_pos (s:=d.take (j+1)) fun x o=>l x (mem_of_mem_take o)
  have m:=Shapes.prod_pos (Shapes.good_drop l (j+1))
  have t:Shapes.prod (d.take (j+1))*1≤Shapes.prod (d.take (j+1))*Shapes.prod (d.drop (j+1)):=Int.mul_le_mul_of_nonneg_left m (by omega)
  refine B0<|An<|Ao<|Af<|Aa (Ay Ng O O ‹_› _ O (by omega)) O ?_
  refine Aa (Bj (AK _) O ‹_› (by omega)) O ?_
  refine Ab O<|Ak<|Bw<|Ac O<|Ac O<|Aa (C6 O O (by omega)) O<|Ab O<|Bf<|Bn<|Ch<|B7 O (by omega)<|Ac O<|Bf ?_
  exact Ap (Pw.next (j+1) ⟨cngA (fun x=>some (Value.int .i64 x)) e1.symm,rfl,rfl,rfl,trivial⟩ (⟨a,rfl⟩) (by omega))
 intro h
 have a:j=d.length:=by have:=AB h;omega
 subst a
 exact Bp<|Al<|Al<|Bd<|Cm<|Ac rfl<|Ab rfl<|Bc<|Ax rfl rfl<|⟨by rw [take_length],Below.refl _ _⟩
theorem OH (u:Value) (s:List Int) (f:FuncId) (q:List Value) (F:Nat→BitVec 32) (W:World) (c:BS (Value.int .i64) W u s) (hok:Shapes.ok s=true)
  (hf:∀(i:Nat) (a:Value) (w:World),Below W.heap.size W w→i<(Shapes.size s).toNat→BS (Value.int .i64) w a (Shapes.place s i)→AM prog f ([a]++q) w (fun r B=>r=i32 (F i)∧Below w.heap.size w B)):
  AM prog 217 [u, .func (.func f) #[] q.toArray] W (fun r B=>Below W.heap.size W B∧∃x y,r= .tuple #[.agg #[x,y], .int .i64 0]∧DA W B x y s ((range (Shapes.size s).toNat).map F)):=by
 have L:=Below.refl W.heap.size W
 have szs:=Shapes.size_le s
 have v:=c
 refine Bb (n:=38) func217 O<|Af<|Cx AY O ?_
 rintro X w eA_r b K -
 have L:=L.bs K
 have c:=c.bs K
 refine Ab O<|Bl<|Ac O ?_
 have N:=AH b
 refine Aj O O (Ot u s _ c) ?_
 rintro _ w7 ⟨G,⟨hk,x,y,rfl,hm⟩|⟨hk,rfl⟩⟩
 ·refine Ac O<|Aa (As (i:=0) O O) O<|Aa (As (i:=1) O O) O<|C1 (cs:=[x,y]) AY O O O O (fun _=>rfl) (hm.one) ?_
  rintro T w8 z d C A
  have M:=ES hm z d C A G.size
  have j:=bt G C
  have zw:=j.size
  have zB:=AA L
  have L:=L.bs j
  have c:=c.bs j
  have b:=b.bs j
  clear hm d G C z A j
  obtain ⟨fl,E⟩:∃l,l=(range (Shapes.size s).toNat).map F:=⟨_,rfl⟩
  obtain ⟨t,H⟩:∃l,l=replicate (Shapes.size s).toNat 0#32:=⟨_,rfl⟩
  rw [← H] at M
  have n1:fl.length=t.length:=by rw [E,H];simp
  have n2:t.length=(Shapes.size s).toNat:=by rw [H];simp
  have d:=M.box
  have R:=M.sly
  refine Ab O<|Bh<|Be underlying33 O (BC _)<|Aa (Ah (BG _) O ‹_› rfl) O ?_
  refine Aa (Au AU O ‹_›) O ?_
  refine Ac O<|Ak<|Ao ?_
  refine Bq (S:=Nat) (fun i=>[(0,u),(1, .func (.func f) #[] q.toArray),(4, .pointer (some ⟨X,0,none⟩)),(6, .pointer (some ⟨T,0,none⟩)),(7, .int .i64 0),(18, .int .i64 (t.length:Int)),(19, .int .i64 (i:Int))]) (fun i B=>i≤t.length∧Below w.heap.size w8 B∧FP B w.heap.size w8.heap.size T x y s (fl.take i++t.drop i)) (fun i=>t.length - i) (0) ⟨rfl,rfl,rfl,rfl,rfl,rfl,rfl,trivial⟩ ?_ ?_
  ·exact ⟨by omega,Below.refl _ _,by rw [GH];exact M⟩
  clear M d R
  rintro i Q ⟨hi,D,M⟩
  have o:=L.trans (D.mono (by omega))
  refine Af<|B3 O<|Ak<|An<|Aq O ?_ ?_
  ·intro h
   have m:i<t.length:=by have:=AD h;omega
   have Z:BS (Value.int .i64) Q u s:=Sl.stay v fun k e Y=>o.block k (Sl.blk v Y k e)
   refine B0<|An<|Ao<|Af<|Ac O<|Ab O<|Bl<|Ac O<|Ac O<|Aj O O (Ze s u (i:Int) Q Z) ?_
   rintro _ w12 ⟨a,rfl,V,K⟩
   have V:=V.sl
   rw [show Shapes.atl s (i:Int)=Shapes.place s i by unfold Shapes.atl;rw [if_pos (by omega)]] at V
   have M:=M.bs K
   have I:=bt o K
   have D:=D.trans (K.mono (by have:=D.size;omega))
   have d:=M.box
   have R:=M.sly
   have e1:=HD (i:=i) n1
   refine Ac O<|Aa (As (i:=0) O O) O<|Aa (As (i:=1) O O) O<|Ab O<|Ab O<|Ak<|Cw.tail 7 AS (by kernel_rfl)<|Ad (fun U g=>Cd underlying33 O (BC _)) O<|Ad (fun U g=>Ah (BG _) O (AO.bs ‹_› g) O) O ?_
   refine Bg O<|Bg O<|Bg O<|E1 (p:=[]) (q:=q) O O O (fun U g=>(hf i a U (bt I g) (by omega) (V.bs g)).q g)<|Ad (fun U g=>Ay AU O O (Sl.bs ‹_› g) _ O (by omega)) O ?_
   refine Dc (fun w13 g=> ?_)
   refine Az ((M.bs g).st (ER _) O O (by omega)) ?_
   rintro w14 ⟨J,hg2, -⟩
   have hw2:=(M.bs g).below (D.trans (g.mono (by have:=D.size;omega))) (by omega) hg2
   rw [show F i=fl.getD i default by rw [E];simp [show i<(Shapes.size s).toNat by omega],HC n1 m] at J
   refine Bf<|Bn<|Ch<|B7 O (by omega)<|Ac O<|Bf ?_
   exact Ap (Pw.next (i+1) ⟨rfl,rfl,rfl,rfl,rfl,rfl,rfl,trivial⟩ (⟨m,hw2,J⟩) (by omega))
  intro h
  have m:i=t.length:=by have:=AB h;omega
  subst m
  rw [HE n1] at M
  have d:=M.box
  have b:=b.bl D N
  rw [E] at M
  refine Bp<|Al<|Al<|Bd<|Cm<|Aa (B9 (AT _) (AP _) O O ‹_›) O ?_
  refine Ac O<|Az (Bv (cs:=[x,y]) O O O O (JD M).one b O) ?_
  rintro w12 ⟨b_r2,hg, -⟩
  have J:=M.keep hg (by rintro _ ⟨⟩;exact .inl N)
  have I:=o.grown hg (AA o) (by rintro _ ⟨⟩;omega)
  refine Ab O<|Bc<|Bt O O O ‹_› underlying33 O O O ?_
  exact ⟨I,x,y,rfl,⟨J.row.mono (by omega),BH J.lst.own (by omega),J.yx⟩⟩
 exact absurd hok (by rw [hk];decide)
theorem UH (d e:Nat) (v:Value) (o:List Int) (t:T4) (a:Value) (i:Nat) (w:World) (Y:AO w d 23 [v]) (D:AO w e 33 [t.x,t.y]) (C:BS (Value.int .i64) w v o) (A:t.at w) (F:tok t.s t.l=true) (B:DL o=true) (I:o.length=t.s.length)
  (y:BS (Value.int .i64) w a (Shapes.place (turn t.s o) i)):
  AM prog 218 ([a]++[.pointer (some ⟨d,0,none⟩), .pointer (some ⟨e,0,none⟩)]) w (fun r E=>r=i32 (t.l.getD (NN t.s o (Shapes.place (turn t.s o) i) o.length).toNat default)∧Below w.heap.size w E):=by
 have hB:=Below.refl w.heap.size w
 obtain ⟨g,k2⟩:=BJ F
 have S:=(Shapes.ok_iff t.s).1 g
 have J:=GE g B I
 have T:=(Shapes.ok_iff (turn t.s o)).1 J
 obtain ⟨p,H⟩:∃p,p=Shapes.place (turn t.s o) i:=⟨_,rfl⟩
 have l:Shapes.inn (turn t.s o) p=true:=by rw [H];exact Shapes.place_in (by omega) T.2.1
 have lp:p.length=o.length:=by rw [H,Shapes.place_length,BP]
 rw [← H] at y ⊢
 have hle:=C.le
 have U:=Sn g B I l
 have X:=Shapes.size_ok g
 have hz:=Shapes.size_le t.s
 show AM prog 218 [a, .pointer (some ⟨d,0,none⟩), .pointer (some ⟨e,0,none⟩)] w _
 refine Bb (n:=32) func218 O<|Af<|Aa (Cf (show _=some (i32 (0#32)) from rfl)) O<|Bl<|Ab O<|Bh<|Aa (Ah (AF _) O ‹_› rfl) O ?_
 refine Aa (Au AC O ‹_›) O ?_
 refine Ac O<|Ak<|Ao ?_
 refine Bq (S:=Nat) (fun j=>[(0,a),(1, .pointer (some ⟨d,0,none⟩)),(2, .pointer (some ⟨e,0,none⟩)),(5, .int .i64 (NN t.s o p j)),(8,v),(9, .int .i64 (o.length:Int)),(10, .int .i64 (j:Int))]) (fun j E=>j≤o.length∧Below w.heap.size w E) (fun j=>o.length - j) (0) ⟨rfl,rfl,rfl,rfl,rfl,rfl,rfl,trivial⟩ ?_ ?_
 ·exact ⟨Nat.zero_le _,hB⟩
 rintro j f ⟨Z,m⟩
 have z:=C.bs m
 have Q:=y.bs m
 have N:=D.bs m
 have u:=(A.bs m).1
 refine Af<|B3 O<|Ak<|An<|Aq O ?_ ?_
 ·intro h
  have b:j<o.length:=by have:=AD h;omega
  obtain ⟨k,G⟩:∃k:Nat,o.getD j default=(k:Int):=⟨_,(Int.toNat_of_nonneg (Gl B b).1).symm⟩
  have s:k<t.s.length:=by have:=(Gl B b).2;omega
  have M:=Shapes.inn_at l (k:=j) (by rw [BP];exact b)
  rw [GF b,G,Int.toNat_natCast] at M
  have ds:=Iz S.2.1 s
  have V:=Shapes.ok_prod g (k+1)
  have m0:0≤p.getD j default*Shapes.prod (t.s.drop (k+1)):=Int.mul_nonneg M.1 (by omega)
  have m1:p.getD j default*Shapes.prod (t.s.drop (k+1))≤64*4096:=Int.mul_le_mul (by omega) V.2 (by omega) (by decide)
  have l1:=W9 g B I l Z
  have W:NN t.s o p j+p.getD j default*Shapes.prod (t.s.drop (k+1))=NN t.s o p (j+1):=by
   show _=NN t.s o p j+WA t.s o p j
   unfold WA;rw [G,Int.toNat_natCast]
  refine B0<|An<|Ao<|Af<|Ac O<|Aa (Ay AC O O ‹_› _ O (by omega)) O ?_
  refine Aa ((Bj (AK _) O z b).as (cngA (Value.int .i64) G)) O<|Ab O<|Ab O<|Ak<|Cv AS (by kernel_rfl)<|Bg O<|Bg O<|Bg O<|Ad (fun f c=>Ay AC O O (Sl.bs ‹_› c) _ O (by omega)) O ?_
  refine Ad (fun f c=>Bj (AK _) O (Sl.bs ‹_› c) (by omega)) O ?_
  refine Ad (fun f c=>Cd underlying33 O (AN _)) O<|Ad (fun f c=>Ah (AF _) O (AO.bs ‹_› c) O) O ?_
  refine Bg O<|C3 O O (fun f c=>(OV t.x t.s k f (u.bs c) g s).q c)<|Ad (fun f c=>C6 O O (by omega)) O<|Ad (fun f c=>De O O (by omega)) O<|Dk O ?_
  refine Cr (fun w2 c=> ?_)
  refine Bn<|Ch<|B7 O (by omega)<|Ac O<|Bf ?_
  exact Ap (Pw.next (j+1) ⟨rfl,rfl,rfl,cngA (fun x=>some (Value.int .i64 x)) W,rfl,rfl,rfl,trivial⟩ (⟨b,bt m c⟩) (by omega))
 intro h
 have b:j=o.length:=by have:=AB h;omega
 subst b
 obtain ⟨K,R⟩:∃K:Nat,NN t.s o p o.length=(K:Int):=⟨_,(Int.toNat_of_nonneg U.1).symm⟩
 have q:=(A.bs m).2
 have L:K<t.l.length:=by omega
 refine Bp<|Al<|Al<|Bd<|Cm<|Be underlying33 O (BC _)<|Aa (Ah (BG _) O ‹_› rfl) O ?_
 refine Ac O<|Aa (Ay AU O O q K R L) O<|Aa (Bj (CF _) O ‹_› (by omega)) O ?_
 exact Ab rfl<|Bc<|Ax rfl rfl<|⟨by rw [R,Int.toNat_natCast],m⟩
def K2 (t:T4) (o:List Int):Int:=if tok t.s t.l && decide (o.length=t.s.length) && DL o then 0 else 1
theorem Vr (t:T4) (v:Value) (o:List Int) (W:World) (f:t.at W) (p:BS (Value.int .i64) W v o):
  AM prog 126 [t.v,v] W (fun r J=>Below W.heap.size W J∧Jw W J r (K2 t o) (turn t.s o) (UI t.s t.l o)):=by
 have q:=Below.refl W.heap.size W
 have hvo:=p.one
 refine Bb (n:=61) func126 O<|Af<|B5 (cs:=[t.x,t.y]) O O O ?_
 rintro I w eA_t s m -
 have q:=q.bs m
 have f:=f.bs m
 have p:=p.bs m
 refine B5 (cs:=[v]) O hvo O ?_
 rintro H w eA_o u m -
 have q:=q.bs m
 have f:=f.bs m
 have p:=p.bs m
 have s:=s.bs m
 have z0:=AA q
 refine Cx AY O ?_
 rintro T w eA_r d m -
 have q:=q.bs m
 have f:=f.bs m
 have p:=p.bs m
 have s:=s.bs m
 have u:=u.bs m
 refine Ab O<|Bh<|Aa (B9 (AT _) (AP _) O O ‹_›) O ?_
 have z_r:=AH d
 have A:=f.1
 refine Aj O O (DS t.x t.y t.s t.l _ f.1 f.2) ?_
 rintro _ w ⟨rfl,m⟩
 have q:=q.bs m
 have f:=f.bs m
 have p:=p.bs m
 have s:=s.bs m
 have u:=u.bs m
 have d:=d.bs m
 have A:=A.bs m
 refine Aa (Ck O) O<|Ac O ?_
 refine Cc 12 O ?_ ?_
 ·intro g
  refine Ae (dj:=12) O O O O<|Ae (dj:=12) O O O O<|Ae (dj:=12) O O O O<|Ae (dj:=12) O O O O<|Ae (dj:=12) O O O O<|Ae (dj:=12) O O O O<|B4 O<|Ak<|Bz O<|Af<|C8 O<|Az (Bv (cs:=[.slice none 0 0, .slice none 0 0]) O O O O O d O) ?_
  rintro U ⟨d,D, -⟩
  have q:=q.grown D (AA q) (by rintro _ ⟨⟩;omega)
  refine Ab O<|Bu<|Bt O O O ‹_› underlying33 O O O ?_
  rw [show K2 t o=1 by simp_all [K2]]
  exact ⟨q,CC (by decide)⟩
 intro Y
 have G:tok t.s t.l=true:=by simpa using Y
 refine Ag (dj:=12) O O<|Aa (Ah (AF _) O ‹_› rfl) O ?_
 refine Ag (dj:=12) O O<|Aa (Au AC O ‹_›) O ?_
 refine Ag (dj:=12) O O<|Be underlying33 O (AN _)<|Ag (dj:=12) O O<|Aa (Ah (AF _) O ‹_› rfl) O ?_
 refine Ag (dj:=12) O O<|Aa (Au AC O ‹_›) O ?_
 refine Ag (dj:=12) O O<|Aa (Cs O O) O<|Cn O<|Ak<|Aq O ?_ ?_
 ·intro g
  have g:¬o.length=t.s.length:=by have:=g;simp at this;omega
  refine Af<|C8 O<|Az (Bv (cs:=[.slice none 0 0, .slice none 0 0]) O O O O O d O) ?_
  rintro U ⟨d,D, -⟩
  have q:=q.grown D (AA q) (by rintro _ ⟨⟩;omega)
  refine Ab O<|Bu<|Bt O O O ‹_› underlying33 O O O ?_
  rw [show K2 t o=1 by unfold K2;rw [decide_eq_false g,Bool.and_false,Bool.false_and];rfl]
  exact ⟨q,CC (by decide)⟩
 intro X
 have hl:o.length=t.s.length:=by have:=X;simp at this;omega
 clear Y X
 have S:=(Shapes.ok_iff t.s).1 (BJ G).1
 refine Co<|Aa (Ah (AF _) O ‹_› rfl) O ?_
 refine Aa (Au AC O ‹_›) O ?_
 have zB:=AA q
 obtain ⟨B,hBB⟩:∃B,B=w.heap.size:=⟨_,rfl⟩
 have p_t:=f
 have p_v:=p
 have y_t:=AH s
 have y_o:=AH u
 have y_r:=AH d
 rename World=>w0
 refine Bk (Ed (l:=o.length) (c:=o.length) AC DI O O O (AX _) (by omega) (by omega)) O ?_
 rintro y w1 ⟨E, -,m, -⟩
 obtain ⟨N,Z⟩:∃l,l=replicate o.length (0:Int):=⟨_,rfl⟩
 have n2:N.length=o.length:=by rw [Z];simp
 have n1:(turn t.s o).length=N.length:=by rw [BP,n2]
 have E:w1.ownsRow w0.heap.size 3 1 y N.length (N.map (Value.int .i64)):=by rw [n2,Z,← Oi (enc:=Value.int .i64) (z:=0)];exact E
 have q:=q.bs m
 have f:=f.bs m
 have p:=p.bs m
 have s:=s.bs m
 have u:=u.bs m
 have d:=d.bs m
 have A:=A.bs m
 have zn:=m.size
 refine Ab O<|Bh<|Aa (Ah (AF _) O ‹_› rfl) O ?_
 refine Aa (Au AC O ‹_›) O ?_
 refine Ac O<|Ak<|Ao ?_
 refine Bq (S:=Nat) (fun i=>[(2, .pointer (some ⟨I,0,none⟩)),(3, .pointer (some ⟨H,0,none⟩)),(4, .pointer (some ⟨T,0,none⟩)),(6,y),(24,v),(25, .int .i64 (o.length:Int)),(26, .int .i64 (i:Int))]) (fun i J=>i≤o.length∧(∀j,j<i→Kj o j=true)∧Below w0.heap.size w1 J∧J.ownsRow w0.heap.size 3 1 y N.length (((turn t.s o).take i++N.drop i).map (Value.int .i64))) (fun i=>o.length - i) (0) ⟨rfl,rfl,rfl,rfl,rfl,rfl,rfl,trivial⟩ ?_ ?_
 ·exact ⟨Nat.zero_le _,fun j hj=>absurd hj (by omega),Below.refl _ _,by rw [GH];exact E⟩
 clear E
 rintro i w2 ⟨hi,hC,F,E⟩
 have zw:=F.size
 have q:=q.trans (F.mono zB)
 have s:=s.bl F y_t
 have u:=u.bl F y_o
 have d:=d.bl F y_r
 have f:=Hn p_t f (AX _) F
 have p:BS (Value.int .i64) w2 v o:=Sl.stay p fun k e hne=>F.block k (Sl.blk p_v hne k e)
 have A:=f.1
 refine Af<|B3 O<|Ak<|An<|Aq O ?_ ?_
 ·intro h
  have C:i<o.length:=by have:=AD h;omega
  obtain ⟨k,Q⟩:∃k,k=o.getD i default:=⟨_,rfl⟩
  refine B0<|An<|Ao<|Af<|Ac O<|Aa (Ay AC O O ‹_› _ O (by omega)) O ?_
  refine Aa ((Bj (AK _) O p C).as (cngA (Value.int .i64) Q.symm)) O<|Ab O<|Ab O<|Bh<|Ac O<|B3 O<|Ac O ?_
  refine Cc 33 O ?_ ?_
  ·intro g
   have g:=AD g
   refine Ae (dj:=33) O O O O<|Ae (dj:=33) O O O O<|Ae (dj:=33) O O O O<|Ae (dj:=33) O O O O<|B4 O<|Ac O<|Ae (dj:=39) O O O O<|Ae (dj:=39) O O O O<|Ae (dj:=39) O O O O<|Ae (dj:=39) O O O O<|Ae (dj:=39) O O O O<|B4 O<|Ak<|Bz O<|Af<|C8 O<|Az (Bv (cs:=[.slice none 0 0, .slice none 0 0]) O O O O O d O) ?_
   rintro U ⟨d,D, -⟩
   have q:=q.grown D (AA q) (by rintro _ ⟨⟩;omega)
   refine Ab O<|Bu<|Bi<|Av<|Av<|Bi<|Av<|Bt O O O ‹_› underlying33 O O O ?_
   rw [show K2 t o=1 by unfold K2;rw [L4 C (by unfold Kj;rw [← Q,decide_eq_false (show ¬0≤k by omega)];rfl),Bool.and_false];rfl]
   exact ⟨q,CC (by decide)⟩
  intro Y
  have Y:=AB Y
  refine Ag (dj:=33) O O<|Ac O<|Ag (dj:=33) O O<|Aa (Ah (AF _) O ‹_› rfl) O ?_
  refine Ag (dj:=33) O O<|Aa (Au AC O ‹_›) O ?_
  refine Ag (dj:=33) O O<|Aa (Ds O O) O<|Cn O<|Ac O ?_
  refine Cc 39 O ?_ ?_
  ·intro g
   have g:=AD g
   refine Ae (dj:=39) O O O O<|Ae (dj:=39) O O O O<|Ae (dj:=39) O O O O<|Ae (dj:=39) O O O O<|Ae (dj:=39) O O O O<|B4 O<|Ak<|Bz O<|Af<|C8 O<|Az (Bv (cs:=[.slice none 0 0, .slice none 0 0]) O O O O O d O) ?_
   rintro U ⟨d,D, -⟩
   have q:=q.grown D (AA q) (by rintro _ ⟨⟩;omega)
   refine Ab O<|Bu<|Bi<|Av<|Av<|Bi<|Av<|Bt O O O ‹_› underlying33 O O O ?_
   rw [show K2 t o=1 by unfold K2;rw [L4 C (by unfold Kj;rw [← Q,decide_eq_false (show ¬k<(o.length:Int) by omega),Bool.and_false];rfl),Bool.and_false];rfl]
   exact ⟨q,CC (by decide)⟩
  intro X
  have X:=AB X
  refine Ag (dj:=39) O O<|Aa (Ah (AF _) O ‹_› rfl) O ?_
  refine Ag (dj:=39) O O<|Ac O<|Ag (dj:=39) O O<|Aa (Ey AC O O p hi) O<|Ag (dj:=39) O O<|Ac O<|Ag (dj:=39) O O<|Aj O O (Ju (cut v 1 0 i) (o.take i) k _ (BS.take p hi)) ?_
  rintro _ U ⟨rfl,m⟩
  have F:=F.trans (m.mono (by omega))
  have q:=q.bs m
  have f:=f.bs m
  have p:=p.bs m
  have s:=s.bs m
  have u:=u.bs m
  have d:=d.bs m
  have E:=E.bs m
  refine Cn O<|Ak<|Aq O ?_ ?_
  ·intro g
   refine Af<|C8 O<|Az (Bv (cs:=[.slice none 0 0, .slice none 0 0]) O O O O O d O) ?_
   rintro U ⟨d,D, -⟩
   have q:=q.grown D (AA q) (by rintro _ ⟨⟩;omega)
   refine Ab O<|Bu<|Bi<|Av<|Av<|Bi<|Av<|Bt O O O ‹_› underlying33 O O O ?_
   rw [show K2 t o=1 by unfold K2;rw [L4 C (by unfold Kj;rw [← Q,g,Bool.not_true,Bool.and_false]),Bool.and_false];rfl]
   exact ⟨q,CC (by decide)⟩
  intro g3
  have hO:Kj o i=true:=by unfold Kj;rw [← Q,g3,decide_eq_true (show 0≤k by omega),decide_eq_true (show k<(o.length:Int) by omega)];rfl
  obtain ⟨K,hK⟩:∃K:Nat,k=(K:Int):=⟨_,(Int.toNat_of_nonneg (by omega)).symm⟩
  have hKs:K<t.s.length:=by omega
  have A:=f.1
  have e1:=HD (i:=i) n1
  have M:=E
  rw [← e1] at M
  have L:=AQ M
  clear M
  have hC' :∀j,j<i+1→Kj o j=true:=by
   intro j hj
   rcases Nat.lt_or_ge j i with h|h
   ·exact hC j h
   ·obtain rfl:j=i:=by omega
    exact hO
  have eV:t.s.getD K default=(turn t.s o).getD i default:=by rw [GF C,← Q,hK,Int.toNat_natCast]
  refine B0<|Bw<|Ac O<|Ac O<|Be underlying33 O (AN _)<|Aa (Ah (AF _) O ‹_› rfl) O ?_
  refine Ac O<|Aa (Ay AC O O A K hK hKs) O<|Aa ((Bj (AK _) O A hKs).as (cngA (Value.int .i64) eV)) O<|Aa (Ay AC O O L i O (by omega)) O<|Az (D3 (BA _) O O O E (by rw [length_map];omega)) ?_
  rintro w4 ⟨V,D, -⟩
  rw [← map_set,HC n1 (by omega)] at V
  have hw4:=F.grown D (by have:=F.size;omega) (fun b e=>(AG E b e).1)
  refine Bf<|Bn<|Ch<|B7 O (by omega)<|Ac O<|Bf ?_
  exact Ap (Pw.next (i+1) ⟨rfl,rfl,rfl,rfl,rfl,rfl,rfl,trivial⟩ (⟨C,hC',hw4,V⟩) (by omega))
 intro h
 have C:i=o.length:=by have:=AB h;omega
 subst C
 have ho:DL o=true:=Hx.2 hC
 rw [← n2,HE n1] at E
 rw [← n1] at E
 have L:=AQ E
 have okT:=GE (BJ G).1 ho hl
 have q_r:T<w2.heap.size:=by omega
 rw [show K2 t o=0 by unfold K2;rw [G,decide_eq_true hl,ho];rfl]
 refine Bp<|Al<|Al<|Bd<|Cm<|Ac O<|Aa (Ef (vs:=[]) (us:=[.pointer (some ⟨H,0,none⟩), .pointer (some ⟨I,0,none⟩)]) O O) O<|Aj O O (OH y (turn t.s o) 218 [.pointer (some ⟨H,0,none⟩), .pointer (some ⟨I,0,none⟩)] (fun i=>t.l.getD (NN t.s o (Shapes.place (turn t.s o) (i:Int)) o.length).toNat default) _ L okT (fun i a J hb _ ha=>UH H I v o t a i J (u.bs hb) (s.bs hb) (p.bs hb) (f.bs hb) G ho hl ha)) ?_
 rintro _ w ⟨m,x,x2,rfl,R⟩
 have R:=R.k
 have q:=q.bs m
 have f:=f.bs m
 have p:=p.bs m
 have s:=s.bs m
 have u:=u.bs m
 have d:=d.bs m
 refine Aa (As (i:=0) O O) O<|Aa (As (i:=1) O O) O<|Az (Bv (cs:=[x,x2]) O O O O R.at.one d O) ?_
 rintro w5 ⟨b_r5,D, -⟩
 have hB5:=q.grown D (AA q) (by rintro _ ⟨⟩;omega)
 refine Ab O<|Bc<|Bt O O O ‹_› underlying33 O O O ?_
 have zz:=AA q
 exact ⟨hB5,x,x2,rfl,fun h=>absurd rfl h,fun _=>⟨(Hm R.row D q_r).mono (by omega),(Hm R.col D q_r).mono (by omega),R.apart⟩⟩

def gf (l:List (BitVec 8)):BitVec 32:=Zp (l.getD 0 default) (l.getD 1 default) (l.getD 2 default) (l.getD 3 default)
theorem PS (k:Nat) (w:World) (h:k≤16777216):AM prog 245 [.slice none 0 0, .int .i64 (k:Int)] w (fun r b=>b.ownsRow w.heap.size 3 1 r 0 []∧Below w.heap.size w b):=by
 have a:=C0 w 1
 refine Bb (n:=27) func245 O<|Af<|Ab O<|Bh<|Ac O<|B3 O<|Ak<|Ca O false (by simp)<|B0<|An<|Af<|Ac O<|Ac O<|Aa (Fy AC O) O<|Ac O<|Aa (Au AC O ‹_›) O ?_
 refine Aa (Du O O (by omega)) O<|Aa (Du O O (by omega)) O<|Ab O<|Bl<|Ac O<|Aa (Dr O O) O<|Ak<|Aq O ?_ ?_
 ·intro g
  have e:0<k:=by have:=AD g;omega
  refine Bw<|Ac O<|Ac O<|Aa (Fy AC O) O<|Aa (Ex.as (u:= .slice none 0 0) (Ey (j:=0) AC O O a (AX 0)) O) O<|Aa (Ex.as (u:= .int .i64 (k:Int)) (B6 O) (cngA (Value.int .i64) (by omega))) O<|Bk (Xw.grow0 (tn:=3) (kn:= .i64) AC DI O (by decide) NW O O e (by omega) (by omega)) O ?_
  rintro v c ⟨cap,xs,rfl,d,f⟩
  have a:=C0 c 1
  refine Ac O<|Aa (Au AC O ‹_›) O ?_
  exact Aa (Ew (j:=0) AC rfl rfl (Nat.zero_le cap)) rfl<|Ab rfl<|Bl<|Ac rfl<|Ab rfl<|Bc<|Ax rfl rfl<|⟨Ki (k:=0) (m:=k) (xs:=[]) (by simpa using d) rfl,f⟩
 ·intro g
  exact Co<|Ac rfl<|Ab rfl<|Bc<|Ax rfl rfl<|⟨⟨rfl, .inl ⟨rfl,rfl⟩⟩,Below.refl _ _⟩
theorem ON (v:Value) (ps:List (Value×List (Int))) (w:World) (o:BS (fun p:Value×List (Int)=>p.1) w v ps) (y:∀p ∈ ps,BS (Value.int .i64) w p.1 p.2) (s:(ps.map (·.2)).flatten.length≤16777216):
  AM prog 220 [v] w (fun r d=>d.ownsRow w.heap.size 3 1 r (ps.map (·.2)).flatten.length ((ps.map (·.2)).flatten.map (Value.int .i64))∧Below w.heap.size w d):=by
 have A:=o.le
 have c:∀i,i<ps.length→BS (Value.int .i64) w (ps.getD i default).1 (ps.getD i default).2:=fun i m=>y _ (EU m)
 refine Bb (n:=36) func220 O<|Af<|Ab O<|Bl<|Ab O<|Bh<|Ac O<|Aa (Au BB O ‹_›) O ?_
 refine Ac O<|Ak<|Ao ?_
 refine Bq (S:=Nat) (fun i=>[(0,v),(3, .int .i64 ((((ps.take i).map (·.2)).flatten.length:Nat):Int)),(9,v),(10, .int .i64 (ps.length:Int)),(11, .int .i64 (i:Int))]) (fun i d=>i≤ps.length∧d=w) (fun i=>ps.length - i) (0) ⟨rfl,rfl,rfl,rfl,rfl,trivial⟩ ?_ ?_
 ·exact ⟨by omega,rfl⟩
 rintro i f ⟨m,rfl⟩
 refine Af<|B3 O<|Ak<|An<|Aq O ?_ ?_
 ·intro h
  have a:i<ps.length:=by simp at h;omega
  have hs:=c i a
  have t:=Ue (ps:=ps) (i+1)
  have k:=OP a
  have l:=cngA length k
  rw [length_append] at l
  refine B0<|An<|Ao<|Af<|Aa (Ay BB O O ‹_› _ O (by omega)) O ?_
  refine Aa (Bj (AF _) O ‹_› (by omega)) O ?_
  refine Ab O<|Bl<|Ac O<|Ac O<|Aa (Au AC O ‹_›) O ?_
  refine B7 O (by omega)<|Ab O<|Bl<|Ac O<|B3 O<|Ak<|Ca O false (by simp;omega)<|Cp<|Bn<|Ch<|B7 O (by omega)<|Ac O<|Bf ?_
  exact Ap (Pw.next (i+1) ⟨rfl,(cngA (fun x=>some (Value.int .i64 x)) (by omega)),rfl,rfl,rfl,trivial⟩ (⟨a,rfl⟩) (by omega))
 intro h
 have a:i=ps.length:=by simp at h;omega
 subst a
 rw [take_length]
 refine Bp<|Al<|Al<|Bd<|Cm<|Ac O<|Aj O O (PS _ f s) ?_
 rintro x B ⟨e,b⟩
 have j:=o.bs b
 refine Ab O<|Bh<|Ac O<|Aa (Au BB O ‹_›) O ?_
 refine Ac O<|Ak<|Ao ?_
 refine Bq (S:=(Nat×Value)) (fun z=>[(0,v),(6,z.2),(25,v),(26, .int .i64 (ps.length:Int)),(27, .int .i64 (z.1:Int))]) (fun z d=>z.1≤ps.length∧d.ownsRow f.heap.size 3 1 z.2 ((ps.take z.1).map (·.2)).flatten.length (((ps.take z.1).map (·.2)).flatten.map (Value.int .i64))∧Below f.heap.size f d) (fun z=>ps.length - z.1) ((0,x)) ⟨rfl,rfl,rfl,rfl,rfl,trivial⟩ ?_ ?_
 ·exact ⟨Nat.zero_le _,by simpa using e,b⟩
 clear e b j
 rintro ⟨i,x⟩ B ⟨m,e,b⟩
 dsimp only at m e ⊢
 have j:=o.bs b
 refine Af<|B3 O<|Ak<|An<|Aq O ?_ ?_
 ·intro h
  have a:i<ps.length:=by simp at h;omega
  have hs:=(c i a).bs b
  have t:=Ue (ps:=ps) (i+1)
  have k:=OP a
  have l:=cngA length k
  rw [length_append] at l
  refine B0<|An<|Ao<|Af<|Aa (Ay BB O O ‹_› _ O (by omega)) O ?_
  refine Aa (Bj (AF _) O ‹_› (by omega)) O ?_
  refine Ab O<|Ak<|Bw<|Ac O<|Ac O<|Bk (Dp (base:=f.heap.size) AC DI O (by decide) O O e hs (DE (fun _=>rfl) _) (by omega) (by omega) b.size) O ?_
  rintro u C ⟨g,q, -⟩
  rw [← map_append,← k,← l] at g
  refine Ab O<|Bf<|Bn<|Ch<|B7 O (by omega)<|Ac O<|Bf ?_
  exact Ap (Pw.next ((i+1,u)) ⟨rfl,rfl,rfl,rfl,rfl,trivial⟩ (⟨a,g,b.trans q⟩) (by simp only;omega))
 intro h
 have a:i=ps.length:=by simp at h;omega
 subst a
 rw [take_length] at e
 exact Bp<|Al<|Al<|Bd<|Cm<|Ac rfl<|Ab rfl<|Bc<|Ax rfl rfl<|⟨e,b⟩

theorem JQ (u:Value) (s:List Int) (k a:Nat) (w:World) (b:BS (Value.int .i64) w u s) (f:Shapes.ok s=true) (h:k<s.length) (j:Shapes.prod (s.drop (k+1))=(a:Int)):
  AM prog 221 [.agg #[u, .int .i64 (k:Int)]] w (fun r i=>r= .int .i64 (a:Int)∧Below w.heap.size w i):=by
 have d:=Below.refl w.heap.size w
 refine Bb (n:=8) func221 O<|Af<|B5 (cs:=[u, .int .i64 (k:Int)]) O O O ?_
 rintro l w g e c -
 have d:=d.bs c
 have b:=b.bs c
 refine Ab O<|Bl<|Be underlying239 O (S8 _)<|Aa (Ah (U3 _) O ‹_› rfl) O ?_
 refine Be underlying239 O (BA _)<|Aa (Ah (AK _) O ‹_› rfl) O ?_
 refine Aj O O (OV u s k _ b f h) ?_
 rintro _ w ⟨rfl,c⟩
 have d:=d.bs c
 have b:=b.bs c
 have e:=e.bs c
 exact Ab rfl<|Bc<|Ax rfl rfl<|⟨by rw [j],d⟩
theorem Wn (u:Value) (s:List Int) (k a:Nat) (w:World) (b:BS (Value.int .i64) w u s) (d:k<s.length) (h:s.getD k default=(a:Int)):
  AM prog 222 [.agg #[u, .int .i64 (k:Int)]] w (fun r g=>r= .int .i64 (a:Int)∧Below w.heap.size w g):=by
 have c:=Below.refl w.heap.size w
 refine Bb (n:=9) func222 O<|Af<|B5 (cs:=[u, .int .i64 (k:Int)]) O O O ?_
 rintro i w e j f -
 have c:=c.bs f
 have b:=b.bs f
 refine Ab O<|Bl<|Be underlying239 O (S8 _)<|Aa (Ah (U3 _) O ‹_› rfl) O ?_
 refine Be underlying239 O (BA _)<|Aa (Ah (AK _) O ‹_› rfl) O ?_
 exact Aa (Ay Ng rfl rfl b k rfl d) rfl<|Aa ((Bj (AK _) rfl b d).as (cngA (Value.int .i64) h)) rfl<|Ab rfl<|Bc<|Ax rfl rfl<|⟨rfl,c⟩
theorem Ui (y:Value) (a:Int) (e:y.cells=[y].toArray):Tryz.prog.built 239 [(0,y),(1, .int .i64 a)]=some [y, .int .i64 a].toArray:=by
 have b:Tryz.prog.info? 239=some Tryz.t239:=rfl
 have c:Tryz.prog.info? 235=some Tryz.t235:=rfl
 have d:Tryz.prog.info? 3=some Tryz.t3:=rfl
 simp [Program.built,b,underlying239,c,d,Instr.fill,e]
 rfl
def KO (t:T4) (along:Int):Int:=if tok t.s t.l && decide (0≤along) && decide (along<(t.s.length:Int)) then 0 else 1
set_option maxHeartbeats 1000000 in
theorem Xi (t:T4) (N:Int) (W:World) (d:t.at W):
  AM prog 128 [t.v, .int .i64 N] W (fun r w' =>Below W.heap.size W w' ∧Jw W w' r (KO t N) (BK t.s N.toNat) (QC t.s t.l N.toNat)):=by
 have u:=Below.refl W.heap.size W
 refine Bb (n:=99) func128 O<|Af<|B5 (cs:=[t.x,t.y]) O O O ?_
 rintro A_t w eA_t m B -
 have u:=u.bs B
 have d:=d.bs B
 have z0:=AA u
 refine Cx AY O ?_
 rintro A_r w eA_r e B -
 have u:=u.bs B
 have d:=d.bs B
 have m:=m.bs B
 refine Ab O<|Bh<|Aa (B9 (AT _) (AP _) O O ‹_›) O ?_
 have z_r:=AH e
 have c:=d.1
 refine Aj O O (DS t.x t.y t.s t.l _ d.1 d.2) ?_
 rintro _ w ⟨rfl,B⟩
 have u:=u.bs B
 have d:=d.bs B
 have m:=m.bs B
 have e:=e.bs B
 have c:=c.bs B
 refine Aa (Ck O) O<|Ac O ?_
 refine Cc 16 O ?_ ?_
 ·intro g
  refine Ae (dj:=16) O O O O<|Ae (dj:=16) O O O O<|B4 O<|Ac O<|Ae (dj:=20) O O O O<|Ae (dj:=20) O O O O<|Ae (dj:=20) O O O O<|Ae (dj:=20) O O O O<|Ae (dj:=20) O O O O<|B4 O<|Ak<|Bz O<|Af<|C8 O<|Az (Bv (cs:=[.slice none 0 0, .slice none 0 0]) O O O O O e O) ?_
  rintro w3 ⟨e,hg, -⟩
  have u:=u.grown hg (AA u) (by rintro _ ⟨⟩;omega)
  refine Ab O<|Bu<|Bt O O O ‹_› underlying33 O O O ?_
  rw [show KO t N=1 by simp_all [KO]]
  exact ⟨u,CC (by decide)⟩
 intro g1
 have k_t:tok t.s t.l=true:=by simpa using g1
 refine Ag (dj:=16) O O<|Ac O<|Ag (dj:=16) O O<|B3 O<|Cn O<|Ac O ?_
 refine Cc 20 O ?_ ?_
 ·intro g
  have g:=AD g
  refine Ae (dj:=20) O O O O<|Ae (dj:=20) O O O O<|Ae (dj:=20) O O O O<|Ae (dj:=20) O O O O<|Ae (dj:=20) O O O O<|B4 O<|Ak<|Bz O<|Af<|C8 O<|Az (Bv (cs:=[.slice none 0 0, .slice none 0 0]) O O O O O e O) ?_
  rintro w3 ⟨e,hg, -⟩
  have u:=u.grown hg (AA u) (by rintro _ ⟨⟩;omega)
  refine Ab O<|Bu<|Bt O O O ‹_› underlying33 O O O ?_
  rw [show KO t N=1 by unfold KO;rw [decide_eq_false (show ¬0≤N by omega),Bool.and_false,Bool.false_and];rfl]
  exact ⟨u,CC (by decide)⟩
 intro g2
 have g2:=AB g2
 refine Ag (dj:=20) O O<|Ac O<|Ag (dj:=20) O O<|Be underlying33 O (AN _)<|Ag (dj:=20) O O<|Aa (Ah (AF _) O ‹_› rfl) O ?_
 refine Ag (dj:=20) O O<|Aa (Au AC O ‹_›) O ?_
 refine Ag (dj:=20) O O<|Aa (Ds O O) O<|Cn O<|Ak<|Aq O ?_ ?_
 ·intro g
  have g:=AD g
  refine Af<|C8 O<|Az (Bv (cs:=[.slice none 0 0, .slice none 0 0]) O O O O O e O) ?_
  rintro w3 ⟨e,hg, -⟩
  have u:=u.grown hg (AA u) (by rintro _ ⟨⟩;omega)
  refine Ab O<|Bu<|Bt O O O ‹_› underlying33 O O O ?_
  rw [show KO t N=1 by unfold KO;rw [decide_eq_false (show ¬N<(t.s.length:Int) by omega),Bool.and_false];rfl]
  exact ⟨u,CC (by decide)⟩
 intro g3
 have g3:=AB g3
 rw [show KO t N=0 by unfold KO;rw [k_t,decide_eq_true (show 0≤N by omega),decide_eq_true (show N<(t.s.length:Int) by omega)];rfl]
 clear g1
 obtain ⟨k,rfl⟩:∃k:Nat,N=(k:Int):=⟨N.toNat,by omega⟩
 rw [Int.toNat_natCast]
 have hk:k<t.s.length:=by omega
 clear g2 g3
 obtain ⟨k1,k2⟩:=BJ k_t
 have S:=(Shapes.ok_iff t.s).1 k1
 have okW:=Gj k1 hk
 have pr:=Shapes.ok_prod k1 (k+1)
 have dk:=Iz S.2.1 hk
 obtain ⟨a,ha⟩:∃a:Nat,Shapes.prod (t.s.drop (k+1))=(a:Int):=⟨_,(Int.toNat_of_nonneg (by omega)).symm⟩
 obtain ⟨n,B⟩:∃n:Nat,t.s.getD k default=(n:Int):=⟨_,(Int.toNat_of_nonneg (by omega)).symm⟩
 obtain ⟨ps,H⟩:∃ps:List (Value×List Int),ps=[(cut t.x 1 0 k,t.s.take k),(cut t.x 1 (k+1) t.s.length,t.s.drop (k+1))]:=⟨_,rfl⟩
 have v:=BS.take c (j:=k) (by omega)
 have A:=BS.drop c (i:=k+1) (by omega)
 refine B0<|An<|Cw.tail 9 AS (by kernel_rfl)<|Ad (fun o b=>Cd underlying33 O (AN _)) O<|Ad (fun o b=>Ah (AF _) O (AO.bs ‹_› b) O) O ?_
 refine Bg O<|Ad (fun o b=>Ey AC O O (Sl.bs ‹_› b) (by omega)) O ?_
 refine Ad (fun o b=>Cd underlying33 O (AN _)) O<|Ad (fun o b=>Ah (AF _) O (AO.bs ‹_› b) O) O ?_
 refine Bg O<|Ad (fun o b=>(De O O (by omega)).as (cngA (Value.int .i64) (show (k:Int)+1=((k+1:Nat):Int) by omega))) O<|Ad (fun o b=>Fe AC O O (Sl.bs ‹_› b) (by omega)) O ?_
 refine Dc (fun w2 b=> ?_)
 have u:=u.bs b
 have d:=d.bs b
 have m:=m.bs b
 have e:=e.bs b
 have c:=c.bs b
 have v:=v.bs b
 have A:=A.bs b
 clear b
 refine Bk (Dl (vs:=ps.map (fun p=>p.1)) BB HT O (by rw [H];rfl) (by rw [H];rfl) (by rw [H];simp [v.one',A.one']) O) O ?_
 rintro x0 w ⟨hx0, -,I, -⟩
 have hx0:w.ownsRow w2.heap.size 23 1 x0 ps.length (ps.map (fun p=>p.1)):=by rw [show ps.length=2 by rw [H];rfl];exact hx0
 have u:=u.bs I
 have d:=d.bs I
 have m:=m.bs I
 have e:=e.bs I
 have c:=c.bs I
 have v:=v.bs I
 have A:=A.bs I
 have zc:=AA u
 refine Aj O O (ON x0 ps w (AQ hx0) (by rw [H];intro p hp;simp at hp;rcases hp with rfl|rfl;exact v;exact A) (by rw [H];simp;omega)) ?_
 rintro x w ⟨U,G⟩
 have Q:(ps.map (·.2)).flatten=t.s.take k++t.s.drop (k+1):=by rw [H];simp
 rw [Q] at U
 have U:=BH U zc
 have u:=u.bs G
 have d:=d.bs G
 have m:=m.bs G
 have e:=e.bs G
 have c:=c.bs G
 have v:=v.bs G
 have A:=A.bs G
 clear G hx0 Q
 have Z:=AQ U
 refine Ab O<|Bh<|Ac O<|Aa (Au AC O ‹_›) O ?_
 refine Aa (Da O O) O<|Ak ?_
 refine Fi (St:=Value) (fun z=>[(1, .int .i64 (k:Int)),(2, .pointer (some ⟨A_t,0,none⟩)),(4, .pointer (some ⟨A_r,0,none⟩)),(6,z)]) (fun z w' =>Below w.heap.size w w' ∧BS (Value.int .i64) w' z (BK t.s k)) ?_ ?_
 ·have hM:=Below.refl w.heap.size w
  refine Aq O ?_ ?_
  ·intro g
   have g:=AD g
   have l1:t.s.length=1:=by rw [length_append,length_take,length_drop] at g;omega
   refine Bw<|Bk (Dl (vs:=[(1:Int)].map (Value.int .i64)) AC DI O O O O O) O ?_
   rintro z w ⟨hz, -,D, -⟩
   have u:=u.bs D
   have d:=d.bs D
   have m:=m.bs D
   have e:=e.bs D
   have c:=c.bs D
   have v:=v.bs D
   have A:=A.bs D
   have U:=U.bs D
   have Z:=Z.bs D
   have hM:=hM.bs D
   refine Ab O<|Bf ?_
   exact Dq (z) ⟨rfl,rfl,rfl,rfl,trivial⟩ (⟨hM,by unfold BK;rw [if_pos l1];exact AQ hz⟩)
  intro g
  have g:=AB g
  have l1:¬t.s.length=1:=by intro h;apply g;rw [length_append,length_take,length_drop];omega
  refine Cp ?_
  exact Dq (x) ⟨rfl,rfl,rfl,rfl,trivial⟩ (⟨hM,by unfold BK;rw [if_neg l1];exact AQ U⟩)
 rintro z w ⟨E,h_z⟩
 have u:=u.bs E
 have d:=d.bs E
 have m:=m.bs E
 have e:=e.bs E
 have c:=c.bs E
 have v:=v.bs E
 have A:=A.bs E
 have U:=U.bs E
 have Z:=Z.bs E
 clear U Z
 refine B8 ?_
 have L:=d.2
 refine Af<|Be underlying33 O (AN _)<|Aa (Ah (AF _) O ‹_› rfl) O ?_
 refine Ac O<|Aa (C4 (vs:=[(0,t.x),(1, .int .i64 (k:Int))]) (cs:=[t.x, .int .i64 (k:Int)]) O (Ui _ _ c.one)) O<|C1 (cs:=[t.x, .int .i64 (k:Int)]) Xp O O O O (fun _=>rfl) (by simp [c.one'];rfl) ?_
 rintro A_f w eA_f X B -
 have u:=u.bs B
 have d:=d.bs B
 have m:=m.bs B
 have e:=e.bs B
 have c:=c.bs B
 have v:=v.bs B
 have A:=A.bs B
 have h_z:=h_z.bs B
 have L:=L.bs B
 clear B
 refine Bl<|Ac O ?_
 have y_t:=AH m
 have y_r:=AH e
 have y_f:=AH X
 have y_B:=AA u
 have p_t:=d
 refine Aj O O (Ot z (BK t.s k) _ h_z) ?_
 rintro _ w7 ⟨hn7,⟨hk',x,y,rfl,hm⟩|⟨hk',rfl⟩⟩
 ·refine Ac O<|Aa (As (i:=0) O O) O<|Aa (As (i:=1) O O) O<|C1 (cs:=[x,y]) AY O O O O (fun _=>rfl) (hm.one) ?_
  rintro A_m w8 eA_m T hn8 zhn8
  have M:=ES hm eA_m T hn8 zhn8 hn7.size
  have C:=bt hn7 hn8
  have zw:=C.size
  have u:=u.bs C
  have d:=d.bs C
  have m:=m.bs C
  have e:=e.bs C
  have c:=c.bs C
  have v:=v.bs C
  have A:=A.bs C
  have h_z:=h_z.bs C
  have L:=L.bs C
  have X:=X.bs C
  clear hm T hn7 hn8 eA_m zhn8 C
  have zB:=AA u
  have szW:=Shapes.size_le (BK t.s k)
  have szo:=Shapes.size_ok okW
  rw [HB hk,ha] at szo
  obtain ⟨P,hP⟩:∃P:Nat,Shapes.prod (t.s.take k)=(P:Int):=⟨_,(Int.toNat_of_nonneg (by have:=Shapes.prod_pos (s:=t.s.take k) fun x U=>S.2.1 x (mem_of_mem_take U);omega)).symm⟩
  have hM:(Shapes.size (BK t.s k)).toNat=P*a:=by
   have:((P*a:Nat):Int)=Shapes.size (BK t.s k):=by rw [szo,hP];push_cast;rfl
   omega
  have hL:t.l.length=P*(n*a):=by
   have e1:=Shapes.size_ok k1
   rw [Jh hk,ha,B,hP] at e1
   have:((P*(n*a):Nat):Int)=Shapes.size t.s:=by rw [e1];push_cast;rfl
   have:=Shapes.size_le t.s
   omega
  have sz4:t.l.length≤4096:=by have:=Shapes.size_le t.s;omega
  obtain ⟨fl,Q⟩:∃l,l=QC t.s t.l k:=⟨_,rfl⟩
  obtain ⟨R,hzs⟩:∃l,l=replicate (Shapes.size (BK t.s k)).toNat 0#32:=⟨_,rfl⟩
  rw [← hzs] at M
  have n1:fl.length=R.length:=by rw [Q,hzs];simp [QC]
  have n2:R.length=P*a:=by rw [hzs,length_replicate,hM]
  have hF:∀i,i<P*a→fl.getD i default=sm n (RS t.s t.l k i):=fun i hi=>by rw [Q];unfold QC;rw [hM,B,Int.toNat_natCast];simp [hi]
  have hG:∀i j,RS t.s t.l k i j=t.l.getD (i / a*a*n+i % a+j*a) default:=fun i j=>by unfold RS;rw [ha,B,Int.toNat_natCast,Int.toNat_natCast]
  have T:=M.box
  have y_m:=M.sly
  refine Ab O<|Bh<|Be underlying33 O (BC _)<|Aa (Ah (BG _) O ‹_› rfl) O ?_
  refine Aa (Au AU O ‹_›) O ?_
  refine Ac O<|Ak<|Ao ?_
  refine Bq (S:=Nat) (fun i=>[(2, .pointer (some ⟨A_t,0,none⟩)),(4, .pointer (some ⟨A_r,0,none⟩)),(7, .pointer (some ⟨A_f,0,none⟩)),(8, .pointer (some ⟨A_m,0,none⟩)),(9, .int .i64 0),(54, .int .i64 (R.length:Int)),(55, .int .i64 (i:Int))]) (fun i w' =>i≤R.length∧Below w.heap.size w8 w' ∧FP w' w.heap.size w8.heap.size A_m x y (BK t.s k) (fl.take i++R.drop i)) (fun i=>R.length - i) (0) ⟨rfl,rfl,rfl,rfl,rfl,rfl,rfl,trivial⟩ ?_ ?_
  ·exact ⟨by omega,Below.refl _ _,by rw [GH];exact M⟩
  clear M T y_m
  rintro i w11 ⟨hi,F,M⟩
  refine Af<|B3 O<|Ak<|An<|Aq O ?_ ?_
  ·intro h
   have V:i<R.length:=by have:=AD h;omega
   have hiP:i<P*a:=by omega
   have J:=X.bl F y_f
   have f:=(Hn p_t d (AX _) F).1
   have a1:1≤a:=by omega
   have r0:=Wi (n:=n) hiP (j:=0) (by omega)
   rw [Nat.zero_mul,Nat.add_zero,← hL] at r0
   obtain ⟨fi,hfi⟩:∃x,x=i / a*a*n+i % a:=⟨_,rfl⟩
   obtain ⟨qa,Y⟩:∃x,x=i / a*a:=⟨_,rfl⟩
   obtain ⟨qn,hqn⟩:∃x,x=qa*n:=⟨_,rfl⟩
   obtain ⟨q,hqq⟩:∃x,x=i / a:=⟨_,rfl⟩
   obtain ⟨rr,hrr⟩:∃x,x=i % a:=⟨_,rfl⟩
   rw [← hqq] at Y
   rw [← hqq,← Y,← hqn,← hrr] at hfi r0
   have c1:(q:Int)*(a:Int)=(qa:Int):=by rw [Y];push_cast;rfl
   have c2:(qa:Int)*(n:Int)=(qn:Int):=by rw [hqn];push_cast;rfl
   have qle:qa≤i:=by rw [Y,hqq];exact Nat.div_mul_le_self i a
   refine B0<|An<|Ao<|Af<|Ac O<|Ab O<|Ak<|An<|Cv AS (by kernel_rfl)<|Bg O<|Ad (fun o b=>B9 (Kz _) (Kb _) O O (AO.bs ‹_› b)) O ?_
   refine C3 O O (fun o b=>(JQ t.x t.s k a o (f.bs b) k1 hk ha).q b)<|Ad (fun o b=>(Dz O O (by omega) (by omega)).as (cngA (Value.int .i64) (show (i:Int) / (a:Int)=(q:Int) by rw [hqq];rfl))) O<|Ad (fun o b=>B9 (Kz _) (Kb _) O O (AO.bs ‹_› b)) O ?_
   refine C3 O O (fun o b=>(JQ t.x t.s k a o (f.bs b) k1 hk ha).q b)<|Ad (fun o b=>(C6 O O (by omega)).as (cngA (Value.int .i64) c1)) O<|Ad (fun o b=>B9 (Kz _) (Kb _) O O (AO.bs ‹_› b)) O ?_
   refine C3 O O (fun o b=>(Wn t.x t.s k n o (f.bs b) hk B).q b)<|Ad (fun o b=>(C6 O O (by omega)).as (cngA (Value.int .i64) c2)) O<|Bg O<|Ad (fun o b=>B9 (Kz _) (Kb _) O O (AO.bs ‹_› b)) O ?_
   refine C3 O O (fun o b=>(JQ t.x t.s k a o (f.bs b) k1 hk ha).q b)<|Ad (fun o b=>(El O O (by omega) (by omega)).as (cngA (Value.int .i64) (show (i:Int) % (a:Int)=(rr:Int) by rw [hrr];rfl))) O<|Ad (fun o b=>(De O O (by omega)).as (cngA (Value.int .i64) (show (qn:Int)+(rr:Int)=(fi:Int) by omega))) O<|Dk O ?_
   refine Cr (fun w12 b=> ?_)
   refine Ap<|B8<|An ?_
   have F:=F.trans (b.mono (by have:=F.size;omega))
   have M:=M.bs b
   have J:=J.bs b
   have f:=f.bs b
   refine Bw<|Aa (B9 (Kz _) (Kb _) O O ‹_›) O ?_
   refine Aj O O (Wn t.x t.s k n w12 f hk B) ?_
   rintro _ w13 ⟨rfl,b⟩
   have F:=F.trans (b.mono (by have:=F.size;omega))
   have M:=M.bs b
   have e1:=HD (i:=i) n1
   have h0:(fl.take i++R.drop i).set i 0#32=fl.take i++R.drop i:=Rq (by omega) (by rw [Sv n1 V,hzs];exact OF (by omega))
   refine Ac O<|Ak<|Ao ?_
   refine Bq (S:=Nat) (fun j=>[(2, .pointer (some ⟨A_t,0,none⟩)),(4, .pointer (some ⟨A_r,0,none⟩)),(7, .pointer (some ⟨A_f,0,none⟩)),(8, .pointer (some ⟨A_m,0,none⟩)),(9, .int .i64 0),(54, .int .i64 (R.length:Int)),(55, .int .i64 (i:Int)),(10, .int .i64 (i:Int)),(11, .int .i64 (fi:Int)),(74, .int .i64 (n:Int)),(75, .int .i64 (j:Int))]) (fun j w' =>j≤n∧Below w.heap.size w8 w' ∧FP w' w.heap.size w8.heap.size A_m x y (BK t.s k) ((fl.take i++R.drop i).set i (sm j (RS t.s t.l k i)))) (fun j=>n - j) (0) ⟨rfl,rfl,rfl,rfl,rfl,rfl,rfl,rfl,rfl,rfl,rfl,trivial⟩ ?_ ?_
   ·exact ⟨Nat.zero_le _,F,by rw [show sm 0 (RS t.s t.l k i)=0#32 from rfl,h0];exact M⟩
   clear M F b J f
   rintro j w14 ⟨hj,F,M⟩
   refine Af<|B3 O<|Ak<|An<|Aq O ?_ ?_
   ·intro h
    have hj' :j<n:=by have:=AD h;omega
    have J:=X.bl F y_f
    have b_t1:=m.bl F y_t
    have h_t1a:=Hn p_t d (AX _) F
    have f:=h_t1a.1
    have h_t12:=h_t1a.2
    have T:=M.box
    have y_m:=M.sly
    have hil:i<((fl.take i++R.drop i).set i (sm j (RS t.s t.l k i))).length:=by rw [length_set];omega
    have rK:=Wi (n:=n) hiP hj'
    rw [← hL] at rK
    obtain ⟨ja,hja⟩:∃x,x=j*a:=⟨_,rfl⟩
    obtain ⟨K,hK⟩:∃x,x=fi+ja:=⟨_,rfl⟩
    have eK:i / a*a*n+i % a+j*a=K:=by rw [hK,hja,hfi,hqn,Y,hqq,hrr]
    rw [eK] at rK
    have c3:(j:Int)*(a:Int)=(ja:Int):=by rw [hja];push_cast;rfl
    have eV:sm j (RS t.s t.l k i)+t.l.getD K default=sm (j+1) (RS t.s t.l k i):=by
     show _=sm j (RS t.s t.l k i)+RS t.s t.l k i j
     rw [hG,eK]
    refine B0<|An<|Ao<|Af<|Ac O<|Ab O<|Ak<|Cw.tail 17 AS (by kernel_rfl)<|Ad (fun o b=>Cd underlying33 O (BC _)) O<|Ad (fun o b=>Ah (BG _) O (AO.bs ‹_› b) O) O ?_
    refine Bg O<|Ad (fun o b=>Ay AU O O (Sl.bs y_m b) i O hil) O<|Ad (fun o b=>(Bj (CF _) O (Sl.bs y_m b) hil).as (cngA i32 (JM (by omega)))) O<|Ad (fun o b=>Cd underlying33 O (BC _)) O<|Ad (fun o b=>Ah (BG _) O (AO.bs ‹_› b) O) O ?_
    refine Bg O<|Bg O<|Ad (fun o b=>B9 (Kz _) (Kb _) O O (AO.bs ‹_› b)) O ?_
    refine C3 O O (fun o b=>(JQ t.x t.s k a o (f.bs b) k1 hk ha).q b)<|Ad (fun o b=>(C6 O O (by omega)).as (cngA (Value.int .i64) c3)) O<|Ad (fun o b=>(De O O (by omega)).as (cngA (Value.int .i64) (show (fi:Int)+(ja:Int)=(K:Int) by omega))) O<|Ad (fun o b=>Ay AU O O (Sl.bs h_t12 b) K O rK) O<|Ad (fun o b=>Bj (CF _) O (Sl.bs h_t12 b) rK) O<|Ad (fun o b=>(D7 O O).as (cngA i32 eV)) O<|Ad (fun o b=>Ay AU O O (Sl.bs y_m b) i O hil) O ?_
    refine Dc (fun w15 b=> ?_)
    refine Az ((M.bs b).st (ER _) O O hil) ?_
    rintro w16 ⟨M2,hg2, -⟩
    have hw2:=(M.bs b).below (F.trans (b.mono (by have:=F.size;omega))) (by omega) hg2
    rw [set_set] at M2
    refine Bf<|Bn<|Ch<|B7 O (by omega)<|Ac O<|Bf ?_
    exact Ap (Pw.next (j+1) ⟨rfl,rfl,rfl,rfl,rfl,rfl,rfl,rfl,rfl,rfl,rfl,trivial⟩ (⟨hj',hw2,M2⟩) (by omega))
   intro h
   have hj' :j=n:=by have:=AB h;omega
   subst hj'
   rw [← hF i hiP,HC n1 V] at M
   refine Bp<|Al<|Al<|Bd<|Bn<|Ch<|B7 O (by omega)<|Ac O<|Bf ?_
   exact Ap (Pw.next (i+1) ⟨rfl,rfl,rfl,rfl,rfl,rfl,rfl,trivial⟩ (⟨V,F,M⟩) (by omega))
  intro h
  have V:i=R.length:=by have:=AB h;omega
  subst V
  rw [HE n1,Q] at M
  have T:=M.box
  have e:=e.bl F y_r
  have hB2:=u.trans (F.mono (by omega))
  refine Bp<|Al<|Al<|Bd<|Cm<|Aa (B9 (AT _) (AP _) O O ‹_›) O ?_
  refine Ac O<|Az (Bv (cs:=[x,y]) O O O O (JD M).one e O) ?_
  rintro w12 ⟨b_r2,hg, -⟩
  have M2:=M.keep hg (by rintro _ ⟨⟩;exact .inl y_r)
  have hB3:=hB2.grown hg (AA hB2) (by rintro _ ⟨⟩;omega)
  refine Ab O<|Bc<|Bt O O O ‹_› underlying33 O O O ?_
  exact ⟨hB3,x,y,rfl,fun h=>absurd rfl h,fun _=>⟨M2.row.mono (by omega), .inl (BH M2.lst.own (by omega)),M2.yx⟩⟩
 exact absurd okW (by rw [hk'];decide)

theorem MV {w b:World} (a:w.grownBy b (Value.ownBlock (.slice none 0 0))):Below w.heap.size w b:=⟨a.os,a.tape,a.output,a.size,fun k c=>a.block k c (by simp [Value.ownBlock])⟩
theorem Rs (t:T4) (u:Value) (s:List Int) (W:World) (d:t.at W) (f:BS (Value.int .i64) W u s):
  AM prog 42 [t.v,u] W (fun r I=>Below W.heap.size W I∧Jw W I r (KV t s) s t.l):=by
 have l:=Below.refl W.heap.size W
 refine Bb (n:=28) func42 O<|Af<|B5 (cs:=[t.x,t.y]) O O O ?_
 rintro L w N m j -
 have l:=l.bs j
 have d:=d.bs j
 have f:=f.bs j
 have z0:=AA l
 have y_t:=AH m
 refine Cx AY O ?_
 rintro z w Y a j -
 have l:=l.bs j
 have d:=d.bs j
 have f:=f.bs j
 have m:=m.bs j
 refine Ab O<|Bh<|Aa (B9 (AT _) (AP _) O O ‹_›) O ?_
 have Z:=AH a
 refine Aj O O (CY t.x t.y t.s t.l _ d.1 d.2) ?_
 rintro _ w ⟨rfl,j⟩
 have l:=l.bs j
 have d:=d.bs j
 have f:=f.bs j
 have m:=m.bs j
 have a:=a.bs j
 refine Aa (Ck O) O<|Ac O ?_
 refine Cc 9 O ?_ ?_
 ·intro g
  refine Ae (dj:=9) O O O O<|Ae (dj:=9) O O O O<|Ae (dj:=9) O O O O<|B4 O<|Ak<|Bz O<|Af<|C8 O<|Az (Bv (cs:=[.slice none 0 0, .slice none 0 0]) O O O O O a O) ?_
  rintro Q ⟨a,q, -⟩
  have l:=l.grown q (AA l) (by rintro _ ⟨⟩;omega)
  refine Ab O<|Bu<|Bt O O O ‹_› underlying33 O O O ?_
  rw [show KV t s=1 by simp_all [KV]]
  exact ⟨l,CC (by decide)⟩
 intro V
 refine Ag (dj:=9) O O<|Ac O<|Ag (dj:=9) O O<|Aj O O (CV u s _ f) ?_
 rintro _ w ⟨rfl,j⟩
 have l:=l.bs j
 have d:=d.bs j
 have f:=f.bs j
 have m:=m.bs j
 have a:=a.bs j
 refine Ag (dj:=9) O O<|Aa (Ck O) O<|Cn O<|Ak<|Aq O ?_ ?_
 ·intro g
  refine Af<|C8 O<|Az (Bv (cs:=[.slice none 0 0, .slice none 0 0]) O O O O O a O) ?_
  rintro Q ⟨a,q, -⟩
  have l:=l.grown q (AA l) (by rintro _ ⟨⟩;omega)
  refine Ab O<|Bu<|Bt O O O ‹_› underlying33 O O O ?_
  rw [show KV t s=1 by simp_all [KV]]
  exact ⟨l,CC (by decide)⟩
 intro T
 have C:tok t.s t.l=true:=by simpa using V
 have E:Shapes.ok s=true:=by simpa using T
 have szs:=Shapes.size_le s
 have szt:=Shapes.size_le t.s
 have lt:=(BJ C).2
 have S:=(Shapes.ok_iff s).1 E
 clear V T
 have o:=d.2
 refine B0<|An<|An<|Cv AS (by kernel_rfl)<|Bg O<|C3 O O (fun p v=>(HH u s p (f.bs v)).q v)<|Ad (fun p v=>Cd underlying33 O (BC _)) O<|Ad (fun p v=>Ah (BG _) O (AO.bs ‹_› v) O) O ?_
 refine Ad (fun p v=>Au AU O (Sl.bs ‹_› v)) O ?_
 refine Ad (fun p v=>Cs O O) O ?_
 refine Cr (fun p v=> ?_)
 refine Ap<|B8 ?_
 have l:=l.bs v
 have d:=d.bs v
 have f:=f.bs v
 have m:=m.bs v
 have a:=a.bs v
 have o:=o.bs v
 refine Aq O ?_ ?_
 ·intro g
  have g:¬Shapes.size s=(t.l.length:Int):=by simpa using g
  refine Af<|C8 O<|Az (Bv (cs:=[.slice none 0 0, .slice none 0 0]) O O O O O a O) ?_
  rintro Q ⟨a,q, -⟩
  have l:=l.grown q (AA l) (by rintro _ ⟨⟩;omega)
  refine Ab O<|Bu<|Bt O O O ‹_› underlying33 O O O ?_
  rw [show KV t s=10 by unfold KV;rw [C,E];simp [g]]
  exact ⟨l,CC (by decide)⟩
 intro g
 have g:Shapes.size s=(t.l.length:Int):=by simpa using g
 rw [show KV t s=0 by unfold KV;rw [C,E];simp [g]]
 refine B0<|An ?_
 rename World=>p
 have R:=AA l
 have F:z<p.heap.size:=AH a
 have U:=m
 have J:=o
 refine Cw.any AS (fun w c _=> ?_)
 have l:=l.bs c
 have d:=d.bs c
 have f:=f.bs c
 have m:=m.bs c
 have a:=a.bs c
 have o:=o.bs c
 have H:L<z:=by omega
 refine Dh (fun I=>Below z p I) (fun hC=> ?_) (c.mono (by omega))
 refine Cj (Am Bo)<|Ai 0 O (fun p G=>B6 O) O<|Ai 2 O (fun p G=>Cd underlying33 O (BC _)) O<|Ai 3 O (fun p G=>Ah (BG _) O (AO.bl ‹_› G H) O) O<|Cb ?_
 refine AZ.only (by first|exact B|exact c.mono (by omega)) (i:=1) (by kernel_rfl) O ?_
 have M:=c.size
 refine Bk (Eb (k:=0) (xs:=[]) AC DI O (by decide) O O ⟨rfl, .inl ⟨rfl,rfl⟩⟩ f (DE (fun _=>rfl) _) (by omega) (by omega) (AX _)) O ?_
 rintro x w ⟨A,q, -⟩
 have j:=MV q
 rw [Nat.zero_add,nil_append] at A
 have A:=BH (B' :=p.heap.size) A (by omega)
 clear M q
 have l:=l.bs j
 have d:=d.bs j
 have f:=f.bs j
 have m:=m.bs j
 have a:=a.bs j
 have o:=o.bs j
 have c:=c.bs j
 refine AZ.back<|AZ.only (by first|exact B|exact c.mono (by omega)) (i:=4) (by kernel_rfl) O ?_
 have M:=c.size
 have zx:∀b,x.ownBlock=some b→b<_:=fun b e=>(AG A b e).2
 refine Bk (Eb (k:=0) (xs:=[]) AU DY O (by decide) O O ⟨rfl, .inl ⟨rfl,rfl⟩⟩ o (DE (fun _=>rfl) _) (by omega) (by omega) (AX _)) O ?_
 rintro y w ⟨D,q, -⟩
 have j:=MV q
 rw [Nat.zero_add,nil_append] at D
 have py:=AG D
 have D:=BH (B' :=p.heap.size) D (by omega)
 clear M q
 have l:=l.bs j
 have d:=d.bs j
 have f:=f.bs j
 have m:=m.bs j
 have a:=a.bs j
 have o:=o.bs j
 have c:=c.bs j
 have A:=A.bs j
 refine AZ.back<|Cj (Am Bo)<|Ai 5 O (fun p G=>C4 (vs:=[(0,x),(1,y)]) (cs:=[x,y]) O (Hs _ _ (AI A).one (AI D).one)) O<|Cb<|AZ.only (by first|exact B|exact c.mono (by omega)) (i:=6) (by kernel_rfl) O ?_
 have K:[x,y].all (·.oneCell')=true:=by simp [(AI A).one',(AI D).one']
 refine Az (Bv (cs:=[x,y]) O O O O K a O) ?_
 rintro w2 ⟨X,q, -⟩
 have kx:=Hm (.inl A) q F
 have ky:=Hm (.inl D) q F
 have l:=l.grown q (AA l) (by rintro _ ⟨⟩;omega)
 have B:Below z p w2:=(c.mono (by omega)).grown q (by have:=c.size;omega) (by rintro _ ⟨⟩;omega)
 refine AZ.back<|Cj (Am Bo)<|Ai 7 O (fun p G=>Cf O) O<|Cb<|Cu (by first|exact B|exact c.mono (by omega)) (by kernel_rfl)<|Ap<|B8<|Df<|Bt O O O ‹_› underlying33 O O O ?_
 exact ⟨l,x,y,rfl,fun h=>absurd rfl h,fun _=>⟨kx.mono R,ky.mono R,fun b e1 e2=>by
  have h1:=py b e1
  have h2:=zx b e2
  omega⟩⟩
theorem I6 (u v:Value) (s o:List Int) (W:World) (w:BS (Value.int .i64) W u s) (m:BS (Value.int .i64) W v o) (F:∀j,j<o.length→0≤o.getD j default∧o.getD j default<(s.length:Int)) (K:o.length≤4):
  AM prog 148 [u,v] W (fun r d=>Below W.heap.size W d∧d.ownsRow W.heap.size 3 1 r o.length ((turn s o).map (Value.int .i64))):=by
 refine Bb (n:=24) func148 O<|Af<|Ab O<|Bl<|Ab O<|Bh<|Ab O<|Ak<|Ao ?_
 refine Bq (S:=(Nat×Value)) (fun z=>[(0,u),(1,v),(5,z.2),(6, .int .i64 (z.1:Int))]) (fun z d=>z.1≤o.length∧Below W.heap.size W d∧d.ownsRow W.heap.size 3 1 z.2 z.1 (((turn s o).take z.1).map (Value.int .i64))) (fun z=>o.length - z.1) ((0, .slice none 0 0)) ⟨rfl,rfl,rfl,rfl,trivial⟩ ?_ ?_
 ·exact ⟨Nat.zero_le _,Below.refl _ _,World.ownsRow_nil _ _ _ _⟩
 rintro ⟨i,x⟩ I ⟨H,b,c⟩
 dsimp only at H c ⊢
 have f:=w.bs b
 have l:=m.bs b
 have B:=b.size
 refine An<|Af<|Ac O<|Ac O<|Aa (Au AC O ‹_›) O ?_
 refine B3 O<|Ak<|Aq O ?_ ?_
 ·intro g
  have a:i<o.length:=by have:=AD g;omega
  have G:=F i a
  obtain ⟨k,A⟩:∃k:Nat,o.getD i default=(k:Int):=⟨_,(Int.toNat_of_nonneg G.1).symm⟩
  have p:k<s.length:=by omega
  have lt:=BP s o
  have e1:(turn s o).take (i+1)=(turn s o).take i++[s.getD k default]:=by
   have e:(turn s o).getD i default=s.getD k default:=by rw [GF a,A,Int.toNat_natCast]
   have h:i<(turn s o).length:=by omega
   rw [take_succ_eq_append_getElem h,← e];simp [h]
  refine B0<|An<|Ao<|Bw<|Ac O<|Ac O<|Ac O<|Ac O<|Aa (Ay AC O O ‹_› _ O (by omega)) O ?_
  refine Aa ((Bj (AK _) O l a).as (cngA (Value.int .i64) A)) O<|Aa (Ay AC O O f k O p) O<|Aa (Bj (AK _) O ‹_› (by omega)) O ?_
  refine Bk (Dl (vs:=[s.getD k default].map (Value.int .i64)) AC DI O O O O O) O ?_
  rintro q L ⟨E, -,D, -⟩
  have c:=AL c D
  have b:=bt b D
  have B:=b.size
  refine Bk (Dp (base:=W.heap.size) AC DI O (by decide) O O c (AI E) (DE (fun _=>rfl) _) (by omega) (by omega) B) O ?_
  rintro y J ⟨C,t, -⟩
  have b:=b.trans t
  rw [← map_append,← e1] at C
  refine Ab O<|Bf<|Bn<|Ch<|Ac O<|B7 O (by omega)<|Ab O<|Bf ?_
  exact Ap (Pw.next ((i+1,y)) ⟨rfl,rfl,rfl,rfl,trivial⟩ (⟨a,b,C⟩) (by simp only;omega))
 intro g
 have a:i=o.length:=by have:=AB g;omega
 rw [a,take_of_length_le (by rw [BP];exact AX _)] at c
 exact Bp<|Al<|Al<|Bd<|Cm<|Ac rfl<|Ab rfl<|Bc<|Ax rfl rfl<|⟨b,c⟩
theorem UD {s:List Int} {k i:Nat} (h:i<s.length):wo (s.take (i+1)) k=if i=k then wo (s.take i) k else wo (s.take i) k++[s.getD i default]:=by
 have e:s.take (i+1)=s.take i++[s.getD i default]:=by rw [take_succ_eq_append_getElem h];simp [h]
 have l:(s.take i).length=i:=by rw [length_take];omega
 unfold wo
 rw [e,take_append,drop_append,l]
 by_cases g:i=k
 ·subst g
  rw [if_pos rfl,Nat.sub_self,take_zero,append_nil,drop_of_length_le (by rw [l];omega)]
  rw [drop_of_length_le (by simp)]
  simp
 ·rw [if_neg g]
  rcases Nat.lt_or_ge i k with b|b
  ·have a:(s.take i).drop (k+1)=[]:=drop_of_length_le (by omega)
   have d:[s.getD i default].drop (k+1 - i)=[]:=drop_of_length_le (by simp;omega)
   have c:[s.getD i default].take (k - i)=[s.getD i default]:=take_of_length_le (by simp;omega)
   rw [a,d,c];simp
  ·rw [show k - i=0 by omega,show k+1 - i=0 by omega,take_zero,drop_zero,append_nil,append_assoc]
def UE (s:List Int) (k:Nat):List Int:=if (wo s k).length=0 then [1] else wo s k
theorem Sd {s:List Int} {k:Nat} (a:k<s.length):UE s k=BK s k:=by
 have b:=JZ a
 unfold UE
 by_cases g:s.length=1
 ·rw [if_pos (by omega)];unfold BK;rw [if_pos g]
 ·rw [if_neg (by omega),Jb g]
theorem K4 (u:Value) (s:List Int) (k:Nat) (W:World) (m:BS (Value.int .i64) W u s) (D:s.length≤4):
  AM prog 152 [u, .int .i64 (k:Int)] W (fun r e=>Below W.heap.size W e∧e.ownsRow W.heap.size 3 1 r (UE s k).length ((UE s k).map (Value.int .i64))):=by
 refine Bb (n:=28) func152 O<|Af<|Ab O<|Bl<|Ab O<|Bh<|Ab O<|Ak<|Ao ?_
 refine Bq (S:=(Nat×Value)) (fun z=>[(0,u),(1, .int .i64 (k:Int)),(5,z.2),(6, .int .i64 (z.1:Int))]) (fun z e=>z.1≤s.length∧Below W.heap.size W e∧e.ownsRow W.heap.size 3 1 z.2 (wo (s.take z.1) k).length ((wo (s.take z.1) k).map (Value.int .i64))) (fun z=>s.length - z.1) ((0, .slice none 0 0)) ⟨rfl,rfl,rfl,rfl,trivial⟩ ?_ ?_
 ·exact ⟨Nat.zero_le _,Below.refl _ _,by show W.ownsRow _ _ _ _ (wo (s.take 0) k).length ((wo (s.take 0) k).map _);rw [show wo (s.take 0) k=[] by simp [wo]];exact World.ownsRow_nil _ _ _ _⟩
 rintro ⟨i,x⟩ v ⟨B,c,d⟩
 dsimp only at B d ⊢
 have p:=m.bs c
 have l:=c.size
 have E:(wo (s.take i) k).length≤i:=by
  unfold wo
  rw [length_append,length_take,length_drop,length_take];omega
 refine An<|Af<|Ac O<|Ac O<|Aa (Au AC O ‹_›) O ?_
 refine B3 O<|Ak<|Aq O ?_ ?_
 ·intro g
  have b:i<s.length:=by have:=AD g;omega
  have e1:=UD (k:=k) b
  refine B0<|An<|Ao<|Af<|Ac O<|Ac O<|Aa (Cs O O) O<|Ak<|Aq O ?_ ?_
  ·intro a
   have a:¬i=k:=by have:=a;simp at this;omega
   rw [if_neg a] at e1
   refine Bw<|Ac O<|Ac O<|Ac O<|Aa (Ay AC O O ‹_› _ O (by omega)) O ?_
   refine Aa (Bj (AK _) O ‹_› (by omega)) O ?_
   refine Bk (Dl (vs:=[s.getD i default].map (Value.int .i64)) AC DI O O O O O) O ?_
   rintro q C ⟨h, -,f, -⟩
   have d:=AL d f
   have c:=bt c f
   have l:=c.size
   refine Bk (Dp (base:=W.heap.size) AC DI O (by decide) O O d (AI h) (DE (fun _=>rfl) _) (by omega) (by omega) l) O ?_
   rintro y w ⟨t,j, -⟩
   have c:=c.trans j
   rw [← map_append,← e1] at t
   have o:w.ownsRow W.heap.size 3 1 y (wo (s.take (i+1)) k).length ((wo (s.take (i+1)) k).map (Value.int .i64)):=by rw [e1,length_append,← e1];exact t
   refine Ab O<|Bf<|Bn<|Ch<|Ac O<|B7 O (by omega)<|Ab O<|Bf ?_
   exact Ap (Pw.next ((i+1,y)) ⟨rfl,rfl,rfl,rfl,trivial⟩ (⟨b,c,o⟩) (by simp only;omega))
  intro a
  have a:i=k:=by have:=a;simp at this;omega
  rw [if_pos a] at e1
  refine Cp<|Bn<|Ch<|Ac O<|B7 O (by omega)<|Ab O<|Bf ?_
  exact Ap (Pw.next ((i+1,x)) ⟨rfl,rfl,rfl,rfl,trivial⟩ (⟨b,c,by show v.ownsRow _ _ _ _ (wo (s.take (i+1)) k).length ((wo (s.take (i+1)) k).map _);rw [e1];exact d⟩) (by simp only;omega))
 intro g
 have b:i=s.length:=by have:=AB g;omega
 rw [b,take_length] at d
 have A:=AQ d
 refine Bp<|Al<|Al<|Bd<|Ap<|B8<|An<|Af<|Ac O<|Aa (Au AC O ‹_›) O ?_
 refine Aa (Da O O) O<|Ak<|Aq O ?_ ?_
 ·intro a
  have a:(wo s k).length=0:=by have:=AD a;omega
  refine Bw<|Bk (Dl (vs:=[(1:Int)].map (Value.int .i64)) AC DI O O O O O) O ?_
  rintro q C ⟨h, -,f, -⟩
  refine Ab O<|Bl<|Ac O<|Ab O<|Bc<|Ax O O ?_
  rw [show UE s k=[1] by unfold UE;rw [if_pos a]]
  exact ⟨bt c f,BH h l⟩
 intro a
 have a:¬(wo s k).length=0:=by have:=AB a;omega
 refine Co<|Ac O<|Ab O<|Bc<|Ax O O ?_
 rw [show UE s k=wo s k by unfold UE;rw [if_neg a]]
 exact ⟨c,d⟩
theorem Jf (u:Value) (s:List Int) (k:Nat) (W:World) (a:BS (Value.int .i64) W u s) (c:k<s.length) (d:s.length≤4):
  AM prog 152 [u, .int .i64 (k:Int)] W (fun r b=>Below W.heap.size W b∧b.ownsRow W.heap.size 3 1 r (BK s k).length ((BK s k).map (Value.int .i64))):=by
 have:=K4 u s k W a d
 rwa [Sd c] at this

def cn (i:Int):List Int→Nat
 |[]=>0
 |x::l=>(if x=i then 1 else 0)+cn i l
def fl (m:Int):List Int→Nat
 |[]=>0
 |x::l=>(if 0≤x∧x<m then 1 else 0)+fl m l
theorem Ky (i:Int):∀a b:List Int,cn i (a++b)=cn i a+cn i b
 |[],b=>by simp [cn]
 |x::a,b=>by simp only [cons_append,cn];rw [Ky i a b];omega
theorem Qh {i:Int}:∀{l:List Int},i ∈ l→1≤cn i l
 |x::l,h=>by
  simp only [cn]
  rcases List.mem_cons.1 h with rfl|h
  ·rw [if_pos rfl];omega
  ·have:=Qh h;omega
theorem Wv (i:Int):∀l:List Int,cn i l≤l.length
 |[]=>AX _
 |x::l=>by
  have:=Wv i l
  simp only [cn,length_cons]
  split<;>omega
theorem Ld (m:Nat):∀l:List Int,fl ((m+1:Nat):Int) l=fl (m:Int) l+cn (m:Int) l
 |[]=>rfl
 |x::l=>by
  simp only [fl,cn]
  rw [Ld m l]
  split<;>split<;>split<;>omega
theorem QZ:∀l:List Int,fl 0 l=0
 |[]=>rfl
 |x::l=>by
  simp only [fl]
  rw [QZ l,if_neg (by omega)]
theorem TP (m:Int):∀l:List Int,fl m l≤l.length
 |[]=>AX _
 |x::l=>by
  have:=TP m l
  simp only [fl,length_cons]
  split<;>omega
theorem TQ {m:Int}:∀{l:List Int},fl m l=l.length→∀x ∈ l,0≤x∧x<m
 |[],_,x,a=>by simp at a
 |y::l,h,x,a=>by
  have:=TP m l
  simp only [fl,length_cons] at h
  by_cases g:0≤y∧y<m
  ·rw [if_pos g] at h
   rcases List.mem_cons.1 a with rfl|a
   ·exact g
   ·exact TQ (by omega) x a
  ·rw [if_neg g] at h;omega
theorem Uc {l:List Int} (h:∀i:Nat,i<l.length→cn (i:Int) l=1):DL l=true:=by
 have e:∀m:Nat,m≤l.length→fl (m:Int) l=m:=fun m=>by
  induction m with
  |zero=>intro _;exact QZ l
  |succ m ih=>intro d;rw [Ld,ih (by omega),h m (by omega)]
 have a:=TQ (e l.length (AX _))
 refine Hx.2 fun j b=> ?_
 have d:l.getD j default ∈ l:=by simp [b]
 have c:=a _ d
 unfold Kj
 rw [decide_eq_true c.1,decide_eq_true c.2]
 cases hc:(l.take j).contains (l.getD j default) with
 |false=>rfl
 |true=>
  have f:l.getD j default ∈ l.take j:=by simpa using hc
  have o:=Qh f
  have k:cn (l.getD j default) (l.drop j)=1+cn (l.getD j default) (l.drop (j+1)):=by
   rw [drop_eq_getElem_cons b]
   simp [cn,b]
  have n:cn (l.getD j default) l=cn (l.getD j default) (l.take j)+cn (l.getD j default) (l.drop j):=by rw [← Ky,take_append_drop]
  have g:=h (l.getD j default).toNat (by omega)
  rw [Int.toNat_of_nonneg c.1] at g
  omega
theorem MN (i:Nat):∀n,FU (fun x=>if x=i then 1 else 0) n=if i<n then 1 else 0
 |0=>rfl
 |n+1=>by
  simp only [FU]
  rw [MN i n]
  split<;>split<;>split<;>omega
theorem Rd (i:Nat):∀{l:List Int},(∀x ∈ l,0≤x)→(cn (i:Int) l:Int)=HW (fun x=>if x=i then 1 else 0) (Hy l)
 |[],_=>rfl
 |x::l,h=>by
  have c:=h x (by simp)
  have a:=Rd i (l:=l) fun y b=>h y (by simp [b])
  simp only [Hy] at a ⊢
  simp only [map_cons,HW,cn]
  rw [← a]
  by_cases g:x=(i:Int)
  ·rw [if_pos g,if_pos (by omega)];omega
  ·rw [if_neg g,if_neg (by omega)];omega
theorem Tl {l:List Int} (h:DL l=true) (b:l.length≤4) {i:Nat} (d:i<l.length):cn (i:Int) l=1:=by
 have c:∀x ∈ l,0≤x:=fun x f=>by
  obtain ⟨j,a,e⟩:=getElem_of_mem f
  have:=(Gl h a).1
  rwa [show l.getD j default=x by simp [a,e]] at this
 have e:=Rd i c
 rw [Ku (Iq h b),HI,MN,if_pos d] at e
 omega
theorem Oh (u:Value) (l:List Int) (n:Nat) (w:World) (e:BS (Value.int .i64) w u l) (y:n≤4):
  AM prog 138 [u, .int .i64 (n:Int)] w (fun r f=>r= .bool (decide (l.length=n) && DL l)∧Below w.heap.size w f):=by
 have z:=e.le
 refine Bb (n:=32) func138 O<|Af<|Ab O<|Bh<|Ac O<|Aa (Au AC O ‹_›) O ?_
 refine Ac O<|Aa (Cs O O) O<|Ak<|Aq O ?_ ?_
 ·intro g
  have g:¬l.length=n:=by have:=g;simp at this;omega
  refine Af<|Ab O<|Bu<|Ax O O ?_
  exact ⟨by rw [decide_eq_false g];rfl,Below.refl _ _⟩
 intro g
 have g:l.length=n:=by have:=g;simp at this;omega
 subst g
 rw [decide_eq_true rfl,Bool.true_and]
 refine B0<|An<|Af<|Ab O<|Ak<|Ao ?_
 refine Bq (S:=Nat) (fun i=>[(0,u),(1, .int .i64 (l.length:Int)),(5, .int .i64 (i:Int))]) (fun i f=>i≤l.length∧(∀j:Nat,j<i→cn (j:Int) l=1)∧Below w.heap.size w f) (fun i=>l.length - i) (0) ⟨rfl,rfl,rfl,trivial⟩ ?_ ?_
 ·exact ⟨Nat.zero_le _,fun j t=>absurd t (by omega),Below.refl _ _⟩
 rintro i A ⟨C,p,m⟩
 have s:=e.bs m
 refine An<|Af<|Ac O<|Ac O<|B3 O<|Ak<|Aq O ?_ ?_
 ·intro g
  have d:i<l.length:=by have:=AD g;omega
  refine B0<|An<|Ao<|Af<|Ab O<|Bh<|Ab O<|Ak<|Ao ?_
  refine Bq (S:=Nat) (fun k=>[(0,u),(1, .int .i64 (l.length:Int)),(5, .int .i64 (i:Int)),(6, .int .i64 ((cn (i:Int) (l.take k):Nat):Int)),(7, .int .i64 (k:Int))]) (fun k f=>k≤l.length∧Below w.heap.size w f) (fun k=>l.length - k) (0) ⟨rfl,rfl,rfl,rfl,rfl,trivial⟩ ?_ ?_
  ·exact ⟨Nat.zero_le _,m⟩
  rintro k D ⟨B,c⟩
  have q:=e.bs c
  have v:=Wv (i:Int) (l.take k)
  rw [length_take] at v
  refine An<|Af<|Ac O<|Ac O<|B3 O<|Ak<|Aq O ?_ ?_
  ·intro h
   have b:k<l.length:=by have:=AD h;omega
   have e1:l.take (k+1)=l.take k++[l.getD k default]:=by rw [take_succ_eq_append_getElem b];simp [b]
   have e2:cn (i:Int) (l.take (k+1))=cn (i:Int) (l.take k)+if l.getD k default=(i:Int) then 1 else 0:=by rw [e1,Ky];simp [cn]
   refine B0<|An<|Ao<|Af<|Ac O<|Ac O<|Aa (Ay AC O O ‹_› _ O (by omega)) O ?_
   refine Aa (Bj (AK _) O ‹_› (by omega)) O ?_
   refine Ac O<|Aa (Da O O) O<|Ak<|Aq O ?_ ?_
   ·intro a
    have a:=AD a
    rw [if_pos a] at e2
    refine Bw<|Ac O<|B7 O (by omega)<|Ab O<|Bf<|Bn<|Ch<|Ac O<|B7 O (by omega)<|Ab O<|Bf ?_
    exact Ap (Pw.next (k+1) ⟨rfl,rfl,rfl,cngA (fun x=>some (Value.int .i64 x)) (show ((cn (i:Int) (l.take k):Nat):Int)+1=((cn (i:Int) (l.take (k+1)):Nat):Int) by omega),rfl,trivial⟩ (⟨b,c⟩) (by omega))
   intro a
   have a:=AB a
   rw [if_neg a] at e2
   refine Cp<|Bn<|Ch<|Ac O<|B7 O (by omega)<|Ab O<|Bf ?_
   exact Ap (Pw.next (k+1) ⟨rfl,rfl,rfl,cngA (fun x=>some (Value.int .i64 x)) (show ((cn (i:Int) (l.take k):Nat):Int)=((cn (i:Int) (l.take (k+1)):Nat):Int) by omega),rfl,trivial⟩ (⟨b,c⟩) (by omega))
  intro h
  have b:k=l.length:=by have:=AB h;omega
  rw [b,take_length]
  refine Bp<|Al<|Al<|Bd<|Cm<|Ac O<|Aa (Cs O O) O<|Ak<|Aq O ?_ ?_
  ·intro a
   have a:¬cn (i:Int) l=1:=by have:=a;simp at this;omega
   refine Af<|Ab O<|Bc<|Bi<|Av<|Av<|Bi<|Av<|Ax O O ?_
   refine ⟨cngA Value.bool ?_,c⟩
   cases ho:DL l with
   |false=>rfl
   |true=>exact absurd (Tl ho y d) a
  intro a
  have a:cn (i:Int) l=1:=by have:=a;simp at this;omega
  have o:∀j:Nat,j<i+1→cn (j:Int) l=1:=fun j t=>by
   rcases Nat.lt_or_ge j i with h|h
   ·exact p j h
   ·obtain rfl:j=i:=by omega
    exact a
  refine Cp<|Bn<|Ch<|Ac O<|B7 O (by omega)<|Ab O<|Bf ?_
  exact Ap (Pw.next (i+1) ⟨rfl,rfl,rfl,trivial⟩ (⟨d,o,c⟩) (by omega))
 intro g
 have d:i=l.length:=by have:=AB g;omega
 subst d
 exact Bp<|Al<|Al<|Bd<|Cm<|Ab rfl<|Bc<|Ax rfl rfl<|⟨cngA Value.bool (Uc p).symm,m⟩

theorem VD {a b:List Int} (h:a.length=b.length) (g:∀j,j<a.length→a.getD j default=b.getD j default):a=b:=by
 refine ext_getElem h fun i c d=> ?_
 simpa [c,d] using g i c
theorem UG {s o p:List Int} (d:DL o=true) (D:o.length=s.length) (C:s.length≤4) (u:Shapes.inn (turn s o) p=true):∃q,Shapes.inn s q=true∧turn q o=p:=by
 have n:∀k,k<s.length→∃j,j<o.length∧o.getD j default=(k:Int):=fun k a=>by
  have m:k ∈ Hy o:=(Iq d (by omega)).mem_iff.2 (List.mem_range.2 (by omega))
  obtain ⟨x,B,e⟩:=List.mem_map.1 m
  obtain ⟨j,b,e2⟩:=getElem_of_mem B
  have:=Gl d b
  have w:o.getD j default=x:=by simp [b,e2]
  rw [w] at this
  exact ⟨j,b,by rw [w];omega⟩
 obtain ⟨f,v⟩:∃f:Nat→Nat,∀k,k<s.length→f k<o.length∧o.getD (f k) default=(k:Int):=
  ⟨fun k=>if h:k<s.length then Classical.choose (n k h) else 0,fun k a=>by
   dsimp only
   rw [dif_pos a];exact Classical.choose_spec (n k a)⟩
 have t:=Shapes.inn_length u
 rw [BP] at t
 obtain ⟨q,r⟩:∃q,q=(range s.length).map fun k=>p.getD (f k) default:=⟨_,rfl⟩
 have z:q.length=s.length:=by rw [r];simp
 have y:∀k,k<s.length→q.getD k default=p.getD (f k) default:=fun k a=>by rw [r];simp [a]
 refine ⟨q,Shapes.inn_iff.2 ⟨z,fun k a=> ?_⟩,VD (by rw [BP,t]) fun j b=> ?_⟩
 ·obtain ⟨l,i⟩:=v k a
  have:=Shapes.inn_at u (k:=f k) (by rw [BP];exact l)
  rw [GF l,i,Int.toNat_natCast] at this
  rw [y k a];exact this
 ·rw [BP] at b
  have A:=Gl d b
  obtain ⟨k,a⟩:∃k:Nat,o.getD j default=(k:Int):=⟨_,(Int.toNat_of_nonneg A.1).symm⟩
  have c:k<s.length:=by omega
  obtain ⟨l,i⟩:=v k c
  rw [GF b,a,Int.toNat_natCast,y k c]
  have:f k=j:=by
   rcases Nat.lt_trichotomy (f k) j with g|g|g
   ·exact absurd (i.trans a.symm) (P1 d g b)
   ·exact g
   ·exact absurd (a.trans i.symm) (P1 d g l)
  rw [this]
def OX (s o:List Int) (i:Nat):Nat:=(Shapes.idx (turn s o) (turn (Shapes.place s (i:Int)) o)).toNat
theorem SR {s o:List Int} (hs:Shapes.ok s=true) (b:DL o=true) (c:o.length=s.length) {i:Nat} (d:(i:Int)<Shapes.prod s):
  Shapes.inn (turn s o) (turn (Shapes.place s (i:Int)) o)=true∧OX s o i<(Shapes.prod (turn s o)).toNat∧NN s o (Shapes.place (turn s o) (OX s o i:Int)) o.length=(i:Int):=by
 have S:=(Shapes.ok_iff s).1 hs
 have T:=(Shapes.ok_iff _).1 (GE hs b c)
 have a:=NZ b c (Shapes.place_in (i:=(i:Int)) (by omega) S.2.1)
 have lt:=Shapes.idx_lt T.2.1 a
 refine ⟨a,by unfold OX;omega, ?_⟩
 unfold OX
 rw [Int.toNat_of_nonneg lt.1,Shapes.place_idx T.2.1 a,Oa b c S.1.2 (by rw [Shapes.place_length]),Shapes.idx_place (by omega) S.2.1,Int.emod_eq_of_lt (by omega) d]
theorem Vb {s o:List Int} {l m:List (BitVec 32)} (hs:Shapes.ok s=true) (a:DL o=true) (b:o.length=s.length) (g:m.length=(Shapes.prod (turn s o)).toNat)
  (h:∀j:Nat,(j:Int)<Shapes.prod s→m.getD (OX s o j) default=l.getD j default):m=UI s l o:=by
 have S:=(Shapes.ok_iff s).1 hs
 have T:=(Shapes.ok_iff _).1 (GE hs a b)
 refine Tj T.2.1 g (by rw [So hs a b,I9]) fun p d=> ?_
 obtain ⟨q,c,rfl⟩:=UG a b S.1.2 d
 rw [XZ hs a b c]
 have f:=Shapes.idx_lt S.2.1 c
 have e:((Shapes.idx s q).toNat:Int)=Shapes.idx s q:=Int.toNat_of_nonneg f.1
 have:=h (Shapes.idx s q).toNat (by omega)
 unfold OX at this
 rw [e,Shapes.place_idx S.2.1 c] at this
 exact this
theorem Tb (t:T4) (v:Value) (o:List Int) (W:World) (b:t.at W) (d:BS (Value.int .i64) W v o):
  AM prog 43 [t.v,v] W (fun r w' =>Below W.heap.size W w' ∧Jw W w' r (K2 t o) (turn t.s o) (UI t.s t.l o)):=by
 have D:=Below.refl W.heap.size W
 refine Bb (n:=66) func43 O<|Af<|B5 (cs:=[t.x,t.y]) O O O ?_
 rintro A_t w eA_t s c -
 have D:=D.bs c
 have b:=b.bs c
 have d:=d.bs c
 have z0:=AA D
 have y_t:=AH s
 refine Cx AY O ?_
 rintro A_r w eA_r f c -
 have D:=D.bs c
 have b:=b.bs c
 have d:=d.bs c
 have s:=s.bs c
 refine Ab O<|Bh<|Aa (B9 (AT _) (AP _) O O ‹_›) O ?_
 have z_r:=AH f
 have A:=b.1
 have q:=b.2
 refine Aj O O (CY t.x t.y t.s t.l _ b.1 b.2) ?_
 rintro _ w ⟨rfl,c⟩
 have D:=D.bs c
 have b:=b.bs c
 have d:=d.bs c
 have s:=s.bs c
 have f:=f.bs c
 have A:=A.bs c
 have q:=q.bs c
 refine Aa (Ck O) O<|Ac O ?_
 refine Cc 16 O ?_ ?_
 ·intro g
  refine Ae (dj:=16) O O O O<|Ae (dj:=16) O O O O<|Ae (dj:=16) O O O O<|Ae (dj:=16) O O O O<|Ae (dj:=16) O O O O<|Ae (dj:=16) O O O O<|B4 O<|Ak<|Bz O<|Af<|C8 O<|Az (Bv (cs:=[.slice none 0 0, .slice none 0 0]) O O O O O f O) ?_
  rintro w3 ⟨f,hg, -⟩
  have D:=D.grown hg (AA D) (by rintro _ ⟨⟩;omega)
  refine Ab O<|Bu<|Bt O O O ‹_› underlying33 O O O ?_
  rw [show K2 t o=1 by simp_all [K2]]
  exact ⟨D,CC (by decide)⟩
 intro g1
 have L:tok t.s t.l=true:=by simpa using g1
 have S:=(Shapes.ok_iff t.s).1 (BJ L).1
 refine Ag (dj:=16) O O<|Ac O<|Ag (dj:=16) O O<|Be underlying33 O (AN _)<|Ag (dj:=16) O O<|Aa (Ah (AF _) O ‹_› rfl) O ?_
 refine Ag (dj:=16) O O<|Aa (Au AC O ‹_›) O ?_
 refine Ag (dj:=16) O O<|Aj O O (Oh v o t.s.length _ d S.1.2) ?_
 rintro _ w ⟨rfl,c⟩
 have D:=D.bs c
 have b:=b.bs c
 have d:=d.bs c
 have s:=s.bs c
 have f:=f.bs c
 have A:=A.bs c
 have q:=q.bs c
 refine Ag (dj:=16) O O<|Aa (Ck O) O<|Cn O<|Ak<|Aq O ?_ ?_
 ·intro g
  refine Af<|C8 O<|Az (Bv (cs:=[.slice none 0 0, .slice none 0 0]) O O O O O f O) ?_
  rintro w3 ⟨f,hg, -⟩
  have D:=D.grown hg (AA D) (by rintro _ ⟨⟩;omega)
  refine Ab O<|Bu<|Bt O O O ‹_› underlying33 O O O ?_
  have g3:(decide (o.length=t.s.length) && DL o)=false:=by
   cases hc:(decide (o.length=t.s.length) && DL o) with
   |false=>rfl
   |true=>rw [hc] at g;simp at g
  rw [show K2 t o=1 by unfold K2;rw [L,Bool.true_and,g3];rfl]
  exact ⟨D,CC (by decide)⟩
 intro g2
 have g2:(decide (o.length=t.s.length) && DL o)=true:=by simpa using g2
 rw [Bool.and_eq_true,decide_eq_true_eq] at g2
 obtain ⟨X,R⟩:=g2
 have hs:=(BJ L).1
 have N:=GE hs R X
 have T:=(Shapes.ok_iff _).1 N
 have hE:K2 t o=0:=by unfold K2;rw [L,decide_eq_true X,R];rfl
 rw [hE]
 have lenl:t.l.length=(Shapes.prod t.s).toNat:=by rw [(BJ L).2,Shapes.size_ok hs]
 clear g1
 refine Co<|Be underlying33 O (AN _)<|Aa (Ah (AF _) O ‹_› rfl) O ?_
 refine Ac O<|Aj O O (I6 t.x v t.s o _ A d (fun j Q=>by rw [← X];exact Gl R Q) (by omega)) ?_
 rintro u w ⟨c,hu⟩
 rw [← BP t.s o] at hu
 have s_u:=AQ hu
 have D:=D.bs c
 have b:=b.bs c
 have d:=d.bs c
 have s:=s.bs c
 have f:=f.bs c
 have A:=A.bs c
 have q:=q.bs c
 clear c hu
 have lT:=BP t.s o
 refine Aj O O (Ii u (turn t.s o) _ s_u) ?_
 rintro _ w7 ⟨hn7,⟨hk,x,y,rfl,hm⟩|⟨hk,rfl⟩⟩
 ·refine Ac O<|Aa (As (i:=0) O O) O<|Aa (As (i:=1) O O) O<|C1 (cs:=[x,y]) AY O O O O (fun _=>rfl) (hm.one) ?_
  rintro A_m w8 U E hn8 V
  have M:=ES hm U E hn8 V hn7.size
  have G:=bt hn7 hn8
  have zw:=G.size
  have zB:=AA D
  have p_t:=b
  have p_v:=d
  have q_t:=AH s
  have q_r:=AH f
  have D:=D.bs G
  have b:=b.bs G
  have d:=d.bs G
  have s:=s.bs G
  have f:=f.bs G
  have A:=A.bs G
  have q:=q.bs G
  have s_u:=s_u.bs G
  clear hm E hn7 hn8 U V G
  obtain ⟨zs,hzs⟩:∃l,l=replicate (Shapes.size (turn t.s o)).toNat 0#32:=⟨_,rfl⟩
  rw [← hzs] at M
  have n2:zs.length=(Shapes.prod (turn t.s o)).toNat:=by rw [hzs,Shapes.size_ok N];simp
  have E:=M.box
  have F:=M.sly
  refine Ab O<|Bh<|Ab O<|Ak<|Ao ?_
  refine Bq (S:=(Nat×List (BitVec 32))) (fun z=>[(1,v),(2, .pointer (some ⟨A_t,0,none⟩)),(4, .pointer (some ⟨A_r,0,none⟩)),(6, .pointer (some ⟨A_m,0,none⟩)),(8, .int .i64 (z.1:Int))]) (fun z w' =>z.1≤t.l.length∧Below w.heap.size w8 w' ∧FP w' w.heap.size w8.heap.size A_m x y (turn t.s o) z.2∧z.2.length=(Shapes.prod (turn t.s o)).toNat∧(∀j:Nat,j<z.1→z.2.getD (OX t.s o j) default=t.l.getD j default)) (fun z=>t.l.length - z.1) ((0,zs)) ⟨rfl,rfl,rfl,rfl,rfl,trivial⟩ ?_ ?_
  ·exact ⟨Nat.zero_le _,Below.refl _ _,M,n2,fun j Q=>absurd Q (by omega)⟩
  clear M E F
  rintro ⟨i,m⟩ w11 ⟨hi,C,M,lm,hs2⟩
  dsimp only at hi M lm hs2 ⊢
  have hB2:=D.trans (C.mono (by omega))
  have J:=C.size
  have b:=Hn p_t b (AX _) C
  have d:BS (Value.int .i64) w11 v o:=Sl.stay d fun k e hne=>C.block k (Sl.blk p_v hne k e)
  have s:=s.bl C q_t
  have f:=f.bl C q_r
  have E:=M.box
  have F:=M.sly
  have q:=b.2
  clear A p_t p_v
  refine An<|Af<|Ac O<|Be underlying33 O (BC _)<|Aa (Ah (BG _) O ‹_› rfl) O ?_
  refine Aa (Au AU O ‹_›) O ?_
  refine B3 O<|Ak<|Aq O ?_ ?_
  ·intro g
   have I:i<t.l.length:=by have:=AD g;omega
   have hip:(i:Int)<Shapes.prod t.s:=by omega
   obtain ⟨tin,slt,srec⟩:=SR hs R X hip
   have slt0:=Shapes.idx_lt T.2.1 tin
   have hk2:Shapes.idx (turn t.s o) (turn (Shapes.place t.s (i:Int)) o)=((OX t.s o i:Nat):Int):=(Int.toNat_of_nonneg slt0.1).symm
   have lp:=Shapes.place_length t.s (i:Int)
   refine B0<|An<|Ao<|Af<|Be underlying33 O (AN _)<|Aa (Ah (AF _) O ‹_› rfl) O ?_
   refine Ac O<|Aj O O (Wl t.s t.x (i:Int) w11 b.1) ?_
   rintro _ w12 ⟨c,a,rfl,ha⟩
   rw [show Shapes.atl t.s (i:Int)=Shapes.place t.s (i:Int) by unfold Shapes.atl;rw [if_pos ⟨by omega,by rw [Shapes.size_ok hs];exact hip⟩]] at ha
   have M:=M.bs c
   have d:=d.bs c
   have b:=b.bs c
   have s:=s.bs c
   have f:=f.bs c
   have C:=C.trans (c.mono (by omega))
   have J:=C.size
   have E:=M.box
   have F:=M.sly
   have H:=M.row.slT
   have q:=b.2
   have hs3:∀j:Nat,j<i+1→(m.set (OX t.s o i) (t.l.getD i default)).getD (OX t.s o j) default=t.l.getD j default:=fun j Q=>by
    by_cases e:j=i
    ·subst e
     exact JM (by omega)
    ·have hjp:(j:Int)<Shapes.prod t.s:=by omega
     obtain ⟨-, -,jrec⟩:=SR hs R X hjp
     have hne:OX t.s o i≠OX t.s o j:=fun e2=>by
      rw [e2,jrec] at srec
      omega
     rw [← hs2 j (by omega),getD_eq_getElem?_getD,getElem?_set_ne hne,getD_eq_getElem?_getD]
   refine Ac O<|Aa (As (i:=0) O O) O<|Aa (As (i:=1) O O) O<|Ab O<|Ab O<|Ak<|An ?_
   refine Cw.any AS (fun w13 Z _=> ?_)
   have M:=M.bs Z
   have d:=d.bs Z
   have b:=b.bs Z
   have s:=s.bs Z
   have f:=f.bs Z
   have C:=C.trans (Z.mono (by omega))
   have J:=C.size
   have E:=M.box
   have F:=M.sly
   have H:=M.row.slT
   have q:=b.2
   have ha:=ha.bs Z
   clear Z
   refine Aw.take (i:=0) (Am (Bs (Am (Am (Bs (Am Bo)))))) O (by kernel_rfl) (by kernel_rfl) (by kernel_rfl) (fun _=>Cd underlying33 O (AN _)) O<|Aw.take (i:=2) (Am (Bs (Am (Am (Bs (Am Bo)))))) O (by kernel_rfl) (by kernel_rfl) (by kernel_rfl) (fun _=>B6 O) O<|Aw.take (i:=3) (Am (Bs (Am (Am (Bs (Am Bo)))))) O (by kernel_rfl) (by kernel_rfl) (by kernel_rfl) (fun _=>B6 O) O ?_
   refine F6 (i:=1) (j:=4) (by kernel_rfl) O O ?_ ?_
   ·refine Aa (Ah (AF _) O ‹_› rfl) O ?_
    refine Aw.back<|Aw.only (i:=4) (by kernel_rfl) O<|Aj O O (I6 a v (Shapes.place t.s (i:Int)) o _ ha d (fun j Q=>by rw [lp,← X];exact Gl R Q) (by omega)) ?_
    rintro p w14 ⟨c,hp⟩
    have M:=M.bs c
    have d:=d.bs c
    have b:=b.bs c
    have s:=s.bs c
    have f:=f.bs c
    have C:=C.trans (c.mono (by omega))
    have J:=C.size
    have E:=M.box
    have F:=M.sly
    have H:=M.row.slT
    have q:=b.2
    rw [← BP (Shapes.place t.s (i:Int)) o] at hp
    have s_p:=AQ hp
    refine Aw.back<|Aw.only (i:=5) (by kernel_rfl) O<|Aj O O (Ij (turn t.s o) (turn (Shapes.place t.s (i:Int)) o) x p _ H s_p) ?_
    rintro _ w15 ⟨rfl,c⟩
    rw [GP N tin]
    have M:=M.bs c
    have d:=d.bs c
    have b:=b.bs c
    have s:=s.bs c
    have f:=f.bs c
    have C:=C.trans (c.mono (by omega))
    have J:=C.size
    have E:=M.box
    have F:=M.sly
    have H:=M.row.slT
    have q:=b.2
    refine Aw.back<|Aw.take (i:=6) (Am (Bs (Am (Am (Bs (Am Bo)))))) O (by kernel_rfl) (by kernel_rfl) (by kernel_rfl) (fun _=>B6 O) O<|Aw.take (i:=7) (Am (Bs (Am (Am (Bs (Am Bo)))))) O (by kernel_rfl) (by kernel_rfl) (by kernel_rfl) (fun _=>As (i:=0) O O) O<|Aw.take (i:=8) (Am (Bs (Am (Am (Bs (Am Bo)))))) O (by kernel_rfl) (by kernel_rfl) (by kernel_rfl) (fun _=>As (i:=1) O O) O<|Aw.take (i:=9) (Am (Bs (Am (Am (Bs (Am Bo)))))) O (by kernel_rfl) (by kernel_rfl) (by kernel_rfl) (fun _=>Cf O) O<|Aw.take (i:=10) (Am (Bs (Am (Am (Bs (Am Bo)))))) O (by kernel_rfl) (by kernel_rfl) (by kernel_rfl) (fun _=>Cf O) O<|Ea (by kernel_rfl)<|Ap<|B8<|Cw.tail 9 AS (by kernel_rfl)<|Ad (fun K B=>Cd underlying33 O (BC _)) O<|Ad (fun K B=>Ah (BG _) O (AO.bs ‹_› B) O) O ?_
    refine Bg O<|Ad (fun K B=>Cd underlying33 O (BC _)) O<|Ad (fun K B=>Ah (BG _) O (AO.bs ‹_› B) O) O ?_
    refine Bg O<|Ad (fun K B=>Ay AU O O (Sl.bs q B) i O I) O<|Ad (fun K B=>Bj (CF _) O (Sl.bs ‹_› B) (by omega)) O ?_
    refine Ad (fun K B=>Ay AU O O (Sl.bs F B) (OX t.s o i) hk2 (by omega)) O ?_
    refine Dc (fun w16 B=> ?_)
    refine Az ((M.bs B).st (ER _) O O (by omega)) ?_
    rintro w17 ⟨Y,hg2, -⟩
    have hw2:=(M.bs B).below (C.trans (B.mono (by omega))) (by omega) hg2
    refine Bf<|Bn<|Ch<|Ac O<|B7 O (by omega)<|Ab O<|Bf ?_
    exact Ap (Pw.next ((i+1,m.set (OX t.s o i) (t.l.getD i default))) ⟨rfl,rfl,rfl,rfl,rfl,trivial⟩ (⟨I,hw2,Y,by rw [length_set];exact lm,hs3⟩) (by simp only;omega))
   ·refine Aj O O (I6 a v (Shapes.place t.s (i:Int)) o _ ha d (fun j Q=>by rw [lp,← X];exact Gl R Q) (by omega)) ?_
    rintro p w14 ⟨c,hp⟩
    have M:=M.bs c
    have d:=d.bs c
    have b:=b.bs c
    have s:=s.bs c
    have f:=f.bs c
    have C:=C.trans (c.mono (by omega))
    have J:=C.size
    have E:=M.box
    have F:=M.sly
    have H:=M.row.slT
    have q:=b.2
    rw [← BP (Shapes.place t.s (i:Int)) o] at hp
    have s_p:=AQ hp
    refine Aw.back<|Aw.only (i:=1) (by kernel_rfl) O<|Aa (Ah (AF _) O ‹_› rfl) O ?_
    refine Aw.back<|Aw.only (i:=5) (by kernel_rfl) O<|Aj O O (Ij (turn t.s o) (turn (Shapes.place t.s (i:Int)) o) x p _ H s_p) ?_
    rintro _ w15 ⟨rfl,c⟩
    rw [GP N tin]
    have M:=M.bs c
    have d:=d.bs c
    have b:=b.bs c
    have s:=s.bs c
    have f:=f.bs c
    have C:=C.trans (c.mono (by omega))
    have J:=C.size
    have E:=M.box
    have F:=M.sly
    have H:=M.row.slT
    have q:=b.2
    refine Aw.back<|Aw.take (i:=6) (Am (Bs (Am (Am (Bs (Am Bo)))))) O (by kernel_rfl) (by kernel_rfl) (by kernel_rfl) (fun _=>B6 O) O<|Aw.take (i:=7) (Am (Bs (Am (Am (Bs (Am Bo)))))) O (by kernel_rfl) (by kernel_rfl) (by kernel_rfl) (fun _=>As (i:=0) O O) O<|Aw.take (i:=8) (Am (Bs (Am (Am (Bs (Am Bo)))))) O (by kernel_rfl) (by kernel_rfl) (by kernel_rfl) (fun _=>As (i:=1) O O) O<|Aw.take (i:=9) (Am (Bs (Am (Am (Bs (Am Bo)))))) O (by kernel_rfl) (by kernel_rfl) (by kernel_rfl) (fun _=>Cf O) O<|Aw.take (i:=10) (Am (Bs (Am (Am (Bs (Am Bo)))))) O (by kernel_rfl) (by kernel_rfl) (by kernel_rfl) (fun _=>Cf O) O<|Ea (by kernel_rfl)<|Ap<|B8<|Cw.tail 9 AS (by kernel_rfl)<|Ad (fun K B=>Cd underlying33 O (BC _)) O<|Ad (fun K B=>Ah (BG _) O (AO.bs ‹_› B) O) O ?_
    refine Bg O<|Ad (fun K B=>Cd underlying33 O (BC _)) O<|Ad (fun K B=>Ah (BG _) O (AO.bs ‹_› B) O) O ?_
    refine Bg O<|Ad (fun K B=>Ay AU O O (Sl.bs q B) i O I) O<|Ad (fun K B=>Bj (CF _) O (Sl.bs ‹_› B) (by omega)) O ?_
    refine Ad (fun K B=>Ay AU O O (Sl.bs F B) (OX t.s o i) hk2 (by omega)) O ?_
    refine Dc (fun w16 B=> ?_)
    refine Az ((M.bs B).st (ER _) O O (by omega)) ?_
    rintro w17 ⟨Y,hg2, -⟩
    have hw2:=(M.bs B).below (C.trans (B.mono (by omega))) (by omega) hg2
    refine Bf<|Bn<|Ch<|Ac O<|B7 O (by omega)<|Ab O<|Bf ?_
    exact Ap (Pw.next ((i+1,m.set (OX t.s o i) (t.l.getD i default))) ⟨rfl,rfl,rfl,rfl,rfl,trivial⟩ (⟨I,hw2,Y,by rw [length_set];exact lm,hs3⟩) (by simp only;omega))
  intro g
  have I:i=t.l.length:=by have:=AB g;omega
  subst I
  have em:m=UI t.s t.l o:=Vb hs R X lm fun j Q=>hs2 j (by omega)
  refine Bp<|Al<|Al<|Bd<|Cm<|Aa (B9 (AT _) (AP _) O O ‹_›) O ?_
  refine Az (Bv (cs:=[x,y]) O O O O (JD M).one f O) ?_
  rintro w12 ⟨b_r2,hg, -⟩
  have Y:=M.keep hg (by rintro _ ⟨⟩;exact .inl q_r)
  have hB3:=hB2.grown hg (AA hB2) (by rintro _ ⟨⟩;omega)
  refine Ab O<|Bc<|Bt O O O ‹_› underlying33 O O O ?_
  rw [em] at Y
  exact ⟨hB3,x,y,rfl,fun h=>absurd rfl h,fun _=>⟨Y.row.mono (by omega), .inl (BH Y.lst.own (by omega)),Y.yx⟩⟩
 exact absurd N (by rw [hk];decide)

def HS (s:List Int) (k i:Nat):Nat:=(Shapes.idx (wo s k) (wo (Shapes.place s (i:Int)) k)).toNat
theorem XS {s p:List Int} {k:Nat} (hs:Shapes.good s) (l:k<s.length) (m:Shapes.inn s p=true):∃X C d:Nat,
  Shapes.inn (wo s k) (wo p k)=true∧Shapes.idx (wo s k) (wo p k)=((X*(Shapes.prod (s.drop (k+1))).toNat+C:Nat):Int)∧
  Shapes.idx s p=((X*((s.getD k default).toNat*(Shapes.prod (s.drop (k+1))).toNat)+(d*(Shapes.prod (s.drop (k+1))).toNat+C):Nat):Int)∧X<(Shapes.prod (s.take k)).toNat∧d<(s.getD k default).toNat∧C<(Shapes.prod (s.drop (k+1))).toNat:=by
 have B:=Shapes.inn_length m
 have f:k<p.length:=by omega
 have z:Shapes.good (s.take k):=fun y w=>hs y (mem_of_mem_take w)
 have u:=Shapes.good_drop hs (k+1)
 have h:(p.take k).length=(s.take k).length:=by rw [length_take,length_take];omega
 have c:=m
 rw [GV l,GV f,Shapes.inn_append h,Bool.and_eq_true] at c
 obtain ⟨q,b⟩:=c
 simp only [Shapes.inn,Bool.and_eq_true,decide_eq_true_eq] at b
 obtain ⟨⟨v,D⟩,b⟩:=b
 have t:=Shapes.idx_lt z q
 have x:=Shapes.idx_lt u b
 have e1:Shapes.idx (wo s k) (wo p k)=Shapes.idx (s.take k) (p.take k)*Shapes.prod (s.drop (k+1))+Shapes.idx (s.drop (k+1)) (p.drop (k+1)):=Shapes.idx_append h
 have e2:Shapes.idx s p=Shapes.idx (s.take k) (p.take k)*(s.getD k default*Shapes.prod (s.drop (k+1)))+(p.getD k default*Shapes.prod (s.drop (k+1))+Shapes.idx (s.drop (k+1)) (p.drop (k+1))):=by
  have e:Shapes.idx s p=Shapes.idx (s.take k++s.getD k default::s.drop (k+1)) (p.take k++p.getD k default::p.drop (k+1)):=by rw [← GV l,← GV f]
  rw [e,Shapes.idx_append h];rfl
 have A:Shapes.inn (wo s k) (wo p k)=true:=by
  unfold wo
  rw [Shapes.inn_append h,q,b];rfl
 obtain ⟨X,j⟩:=Int.eq_ofNat_of_zero_le t.1
 obtain ⟨C,i⟩:=Int.eq_ofNat_of_zero_le x.1
 obtain ⟨d,r⟩:=Int.eq_ofNat_of_zero_le v
 obtain ⟨a,g⟩:=Int.eq_ofNat_of_zero_le (show 0≤Shapes.prod (s.drop (k+1)) by omega)
 obtain ⟨n,o⟩:=Int.eq_ofNat_of_zero_le (show 0≤s.getD k default by omega)
 rw [j,g,i] at e1
 rw [j,o,g,i,r] at e2
 refine ⟨X,C,d,A, ?_, ?_,by omega,by omega,by omega⟩
 ·rw [e1,g,Int.toNat_natCast];push_cast;rfl
 ·rw [e2,g,o,Int.toNat_natCast,Int.toNat_natCast];push_cast;rfl
theorem QP {X n a d C:Nat} (c:d<n) (b:C<a):(X*(n*a)+(d*a+C)) / (n*a)=X∧(X*(n*a)+(d*a+C)) % a=C:=by
 have f:d*a+C<n*a:=IU c b
 refine ⟨?_, ?_⟩
 ·rw [Nat.mul_comm X,Nat.mul_add_div (by omega),Nat.div_eq_of_lt f];omega
 ·have e:X*(n*a)+(d*a+C)=a*(X*n+d)+C:=by rw [Nat.mul_add,← Nat.mul_assoc,Nat.mul_comm a (X*n),Nat.mul_comm a d];omega
  rw [e,Nat.mul_add_mod,Nat.mod_eq_of_lt b]
theorem Tz {s:List Int} {k i:Nat} (hs:Shapes.ok s=true) (e:k<s.length) (h:(i:Int)<Shapes.prod s):
  HS s k i=i / ((s.getD k default).toNat*(Shapes.prod (s.drop (k+1))).toNat)*(Shapes.prod (s.drop (k+1))).toNat+i % (Shapes.prod (s.drop (k+1))).toNat∧
  Shapes.inn (wo s k) (wo (Shapes.place s (i:Int)) k)=true:=by
 have S:=(Shapes.ok_iff s).1 hs
 obtain ⟨X,C,d,g,e1,e2, -,c,f⟩:=XS S.2.1 e (Shapes.place_in (i:=(i:Int)) (by omega) S.2.1)
 rw [Shapes.idx_place (by omega) S.2.1,Int.emod_eq_of_lt (by omega) h] at e2
 have e2:i=X*((s.getD k default).toNat*(Shapes.prod (s.drop (k+1))).toNat)+(d*(Shapes.prod (s.drop (k+1))).toNat+C):=by exact_mod_cast e2
 obtain ⟨a,b⟩:=QP (X:=X) c f
 rw [← e2] at a b
 refine ⟨?_,g⟩
 unfold HS
 rw [e1,Int.toNat_natCast,a,b]
theorem UR {P n a X C:Nat} (q:X<P) (g:C<a) (f:Nat→BitVec 32):
  sm (P*(n*a)) (fun i=>if i / (n*a)*a+i % a=X*a+C then f i else 0#32)=sm n fun j=>f (X*(n*a)+(j*a+C)):=by
 have key:∀Y j D,Y<P→j<n→D<a→(if (Y*(n*a)+(j*a+D)) / (n*a)*a+(Y*(n*a)+(j*a+D)) % a=X*a+C then f (Y*(n*a)+(j*a+D)) else 0#32)=if Y=X∧D=C then f (Y*(n*a)+(j*a+D)) else 0#32:=fun Y j D _ d c=>by
  obtain ⟨m,p⟩:=QP (X:=Y) d c
  rw [m,p]
  by_cases e:Y*a+D=X*a+C
  ·have l:(Y*a+D) / a=(X*a+C) / a:=by rw [e]
   have o:(Y*a+D) / a=Y:=by rw [Nat.mul_comm,Nat.mul_add_div (by omega),Nat.div_eq_of_lt c];omega
   have r:(X*a+C) / a=X:=by rw [Nat.mul_comm,Nat.mul_add_div (by omega),Nat.div_eq_of_lt g];omega
   rw [o,r] at l
   subst l
   rw [if_pos e,if_pos ⟨rfl,by omega⟩]
  ·rw [if_neg e,if_neg (by rintro ⟨rfl,rfl⟩;exact e rfl)]
 rw [Lx]
 have e1:sm P (fun Y=>sm (n*a) fun y=>(if (Y*(n*a)+y) / (n*a)*a+(Y*(n*a)+y) % a=X*a+C then f (Y*(n*a)+y) else 0#32))=sm P fun Y=>sm n fun j=>sm a fun D=>if Y=X∧D=C then f (Y*(n*a)+(j*a+D)) else 0#32:=
  Gy fun Y s=>by
   rw [Lx]
   exact Gy fun j d=>Gy fun D c=>key Y j D s d c
 rw [e1,Pr (k:=X) fun Y _ b=>Nj fun j _=>Nj fun D _=>if_neg (fun h=>b h.1),if_pos q]
 refine Gy fun j _=> ?_
 rw [Pr (k:=C) fun D _ b=>if_neg (fun h=>b h.2),if_pos g,if_pos ⟨rfl,rfl⟩]
theorem X1 {s:List Int} {k:Nat} {l m:List (BitVec 32)} (hs:Shapes.ok s=true) (b:k<s.length) (D:l.length=(Shapes.prod s).toNat) (u:m.length=(Shapes.prod (wo s k)).toNat)
  (h:∀c,c<m.length→m.getD c default=sm l.length fun j=>if HS s k j=c then l.getD j default else 0#32):m=QC s l k:=by
 have S:=(Shapes.ok_iff s).1 hs
 refine Tj (KL S.2.1) u (Pp hs b) fun r p=> ?_
 obtain ⟨A,w,H,z⟩:=Sc b p
 have d:=Iz S.2.1 b
 rw [Ye hs b p]
 have M:=Shapes.idx_lt (KL (k:=k) S.2.1) p
 have x:=Shapes.idx_lt (fun y E=>S.2.1 y (mem_of_mem_take E)) H
 have G:=Shapes.idx_lt (Shapes.good_drop S.2.1 (k+1)) z
 have e1:Shapes.idx (wo s k) r=Shapes.idx (s.take k) (r.take k)*Shapes.prod (s.drop (k+1))+Shapes.idx (s.drop (k+1)) (r.drop k):=by
  rw [← Shapes.idx_append w,take_append_drop];rfl
 have e2:∀j:Int,Shapes.idx s (ins k j r)=Shapes.idx (s.take k) (r.take k)*(s.getD k default*Shapes.prod (s.drop (k+1)))+(j*Shapes.prod (s.drop (k+1))+Shapes.idx (s.drop (k+1)) (r.drop k)):=fun j=>by
  have e:Shapes.idx s (ins k j r)=Shapes.idx (s.take k++s.getD k default::s.drop (k+1)) (r.take k++j::r.drop k):=by rw [← GV b];rfl
  rw [e,Shapes.idx_append w];rfl
 have F:=Jh b
 obtain ⟨X,t⟩:=Int.eq_ofNat_of_zero_le x.1
 obtain ⟨C,q⟩:=Int.eq_ofNat_of_zero_le G.1
 obtain ⟨a,g⟩:=Int.eq_ofNat_of_zero_le (show 0≤Shapes.prod (s.drop (k+1)) by omega)
 obtain ⟨n,f⟩:=Int.eq_ofNat_of_zero_le (show 0≤s.getD k default by omega)
 obtain ⟨P,J⟩:=Int.eq_ofNat_of_zero_le (show 0≤Shapes.prod (s.take k) by omega)
 have L:(Shapes.idx (wo s k) r).toNat=X*a+C:=by
  rw [e1,t,g,q]
  exact (cngA Int.toNat (show (X:Int)*a+C=((X*a+C:Nat):Int) by push_cast;rfl)).trans (Int.toNat_natCast _)
 have B:l.length=P*(n*a):=by
  rw [D,F,J,f,g]
  exact (cngA Int.toNat (show (P:Int)*(n*a)=((P*(n*a):Nat):Int) by push_cast;rfl)).trans (Int.toNat_natCast _)
 have v:∀j:Nat,pl s l (ins k (j:Int) r)=l.getD (X*(n*a)+(j*a+C)) default:=fun j=>by
  unfold pl
  rw [e2,t,f,g,q,show (X:Int)*((n:Int)*a)+((j:Int)*a+C)=((X*(n*a)+(j*a+C):Nat):Int) by push_cast;rfl,Int.toNat_natCast]
 have o:(Shapes.idx (wo s k) r).toNat<m.length:=by rw [u];omega
 have I:=h _ o
 unfold pl
 rw [I,L,B]
 have K:sm (P*(n*a)) (fun j=>if HS s k j=X*a+C then l.getD j default else 0#32)=sm (P*(n*a)) fun j=>if j / (n*a)*a+j % a=X*a+C then l.getD j default else 0#32:=Gy fun j v=>by
  have:=(Tz hs b (i:=j) (by omega)).1
  rw [f,g,Int.toNat_natCast,Int.toNat_natCast] at this
  rw [this]
 rw [K,UR (by omega) (by omega) fun i=>l.getD i default,f,Int.toNat_natCast]
 exact Gy fun j _=>(v j).symm
theorem UO {s:List Int} {k i c:Nat} {l m:List (BitVec 32)} (a:∀c,c<m.length→m.getD c default=sm i fun j=>if HS s k j=c then l.getD j default else 0#32) (b:HS s k i<m.length) (d:c<m.length):
  (m.set (HS s k i) (m.getD (HS s k i) default+l.getD i default)).getD c default=sm (i+1) fun j=>if HS s k j=c then l.getD j default else 0#32:=by
 show _=(sm i fun j=>if HS s k j=c then l.getD j default else 0#32)+(if HS s k i=c then l.getD i default else 0#32)
 by_cases e:HS s k i=c
 ·subst e
  rw [JM b,a _ b];simp
 ·rw [getD_eq_getElem?_getD,getElem?_set_ne e,← getD_eq_getElem?_getD,a c d,if_neg e];simp
theorem Vh (t:T4) (R:Int) (W:World) (b:t.at W):
  AM prog 45 [t.v, .int .i64 R] W (fun r w' =>Below W.heap.size W w' ∧Jw W w' r (KO t R) (BK t.s R.toNat) (QC t.s t.l R.toNat)):=by
 have F:=Below.refl W.heap.size W
 refine Bb (n:=77) func45 O<|Af<|B5 (cs:=[t.x,t.y]) O O O ?_
 rintro A_t w eA_t v o -
 have F:=F.bs o
 have b:=b.bs o
 have z0:=AA F
 have y_t:=AH v
 refine Cx AY O ?_
 rintro A_r w eA_r f o -
 have F:=F.bs o
 have b:=b.bs o
 have v:=v.bs o
 refine Ab O<|Bh<|Aa (B9 (AT _) (AP _) O O ‹_›) O ?_
 have z_r:=AH f
 have D:=b.1
 have q:=b.2
 refine Aj O O (CY t.x t.y t.s t.l _ b.1 b.2) ?_
 rintro _ w ⟨rfl,o⟩
 have F:=F.bs o
 have b:=b.bs o
 have v:=v.bs o
 have f:=f.bs o
 have D:=D.bs o
 have q:=q.bs o
 refine Aa (Ck O) O<|Ac O ?_
 refine Cc 15 O ?_ ?_
 ·intro g
  refine Ae (dj:=15) O O O O<|Ae (dj:=15) O O O O<|B4 O<|Ac O<|Ae (dj:=19) O O O O<|Ae (dj:=19) O O O O<|Ae (dj:=19) O O O O<|Ae (dj:=19) O O O O<|Ae (dj:=19) O O O O<|B4 O<|Ak<|Bz O<|Af<|C8 O<|Az (Bv (cs:=[.slice none 0 0, .slice none 0 0]) O O O O O f O) ?_
  rintro w3 ⟨f,Y, -⟩
  have F:=F.grown Y (AA F) (by rintro _ ⟨⟩;omega)
  refine Ab O<|Bu<|Bt O O O ‹_› underlying33 O O O ?_
  rw [show KO t R=1 by simp_all [KO]]
  exact ⟨F,CC (by decide)⟩
 intro g1
 have U:tok t.s t.l=true:=by simpa using g1
 have S:=(Shapes.ok_iff t.s).1 (BJ U).1
 refine Ag (dj:=15) O O<|Ac O<|Ag (dj:=15) O O<|B3 O<|Cn O<|Ac O ?_
 refine Cc 19 O ?_ ?_
 ·intro g
  have g:=AD g
  refine Ae (dj:=19) O O O O<|Ae (dj:=19) O O O O<|Ae (dj:=19) O O O O<|Ae (dj:=19) O O O O<|Ae (dj:=19) O O O O<|B4 O<|Ak<|Bz O<|Af<|C8 O<|Az (Bv (cs:=[.slice none 0 0, .slice none 0 0]) O O O O O f O) ?_
  rintro w3 ⟨f,Y, -⟩
  have F:=F.grown Y (AA F) (by rintro _ ⟨⟩;omega)
  refine Ab O<|Bu<|Bt O O O ‹_› underlying33 O O O ?_
  rw [show KO t R=1 by unfold KO;rw [decide_eq_false (show ¬0≤R by omega),Bool.and_false,Bool.false_and];rfl]
  exact ⟨F,CC (by decide)⟩
 intro g2
 have g2:=AB g2
 refine Ag (dj:=19) O O<|Ac O<|Ag (dj:=19) O O<|Be underlying33 O (AN _)<|Ag (dj:=19) O O<|Aa (Ah (AF _) O ‹_› rfl) O ?_
 refine Ag (dj:=19) O O<|Aa (Au AC O ‹_›) O ?_
 refine Ag (dj:=19) O O<|Aa (Ds O O) O<|Cn O<|Ak<|Aq O ?_ ?_
 ·intro g
  have g:=AD g
  refine Af<|C8 O<|Az (Bv (cs:=[.slice none 0 0, .slice none 0 0]) O O O O O f O) ?_
  rintro w3 ⟨f,Y, -⟩
  have F:=F.grown Y (AA F) (by rintro _ ⟨⟩;omega)
  refine Ab O<|Bu<|Bt O O O ‹_› underlying33 O O O ?_
  rw [show KO t R=1 by unfold KO;rw [decide_eq_false (show ¬R<(t.s.length:Int) by omega),Bool.and_false];rfl]
  exact ⟨F,CC (by decide)⟩
 intro g3
 have g3:=AB g3
 obtain ⟨k,rfl⟩:∃k:Nat,R=(k:Int):=⟨R.toNat,by omega⟩
 have hk:k<t.s.length:=by omega
 have hs:=(BJ U).1
 have X:=Gj hs hk
 have hE:KO t (k:Int)=0:=by unfold KO;rw [U,decide_eq_true (show (0:Int)≤(k:Int) by omega),decide_eq_true (show (k:Int)<(t.s.length:Int) by omega)];rfl
 rw [hE,Int.toNat_natCast]
 have lenl:t.l.length=(Shapes.prod t.s).toNat:=by rw [(BJ U).2,Shapes.size_ok hs]
 clear g1 g2 g3
 refine Co<|Be underlying33 O (AN _)<|Aa (Ah (AF _) O ‹_› rfl) O ?_
 refine Ac O<|Aj O O (Jf t.x t.s k _ D hk S.1.2) ?_
 rintro u w ⟨o,hu⟩
 have s_u:=AQ hu
 have F:=F.bs o
 have b:=b.bs o
 have v:=v.bs o
 have f:=f.bs o
 have D:=D.bs o
 have q:=q.bs o
 clear o hu
 refine Aj O O (Ii u (BK t.s k) _ s_u) ?_
 rintro _ w7 ⟨hn7,⟨hk',x,y,rfl,hm⟩|⟨hk',rfl⟩⟩
 ·refine Ac O<|Aa (As (i:=0) O O) O<|Aa (As (i:=1) O O) O<|C1 (cs:=[x,y]) AY O O O O (fun _=>rfl) (hm.one) ?_
  rintro A_m w8 Z G hn8 zhn8
  have M:=ES hm Z G hn8 zhn8 hn7.size
  have H:=bt hn7 hn8
  have zw:=H.size
  have zB:=AA F
  have p_t:=b
  have q_t:=AH v
  have q_r:=AH f
  have F:=F.bs H
  have b:=b.bs H
  have v:=v.bs H
  have f:=f.bs H
  have D:=D.bs H
  have q:=q.bs H
  have s_u:=s_u.bs H
  clear hm G hn7 hn8 Z zhn8 H
  obtain ⟨zs,hzs⟩:∃l,l=replicate (Shapes.size (BK t.s k)).toNat 0#32:=⟨_,rfl⟩
  rw [← hzs] at M
  have n2:zs.length=(Shapes.prod (wo t.s k)).toNat:=by rw [hzs,Shapes.size_ok X,MX hk];simp
  have n3:∀c,c<zs.length→zs.getD c default=sm 0 fun j=>if HS t.s k j=c then t.l.getD j default else 0#32:=fun c hc=>by
   rw [hzs] at hc ⊢
   simp at hc
   simp [sm,hc]
  have G:=M.box
  have A:=M.sly
  refine Ab O<|Bh<|Ab O<|Ak<|Ao ?_
  refine Bq (S:=(Nat×List (BitVec 32))) (fun z=>[(1, .int .i64 (k:Int)),(2, .pointer (some ⟨A_t,0,none⟩)),(4, .pointer (some ⟨A_r,0,none⟩)),(6, .pointer (some ⟨A_m,0,none⟩)),(8, .int .i64 (z.1:Int))]) (fun z w' =>z.1≤t.l.length∧Below w.heap.size w8 w' ∧FP w' w.heap.size w8.heap.size A_m x y (BK t.s k) z.2∧z.2.length=(Shapes.prod (wo t.s k)).toNat∧(∀c,c<z.2.length→z.2.getD c default=sm z.1 fun j=>if HS t.s k j=c then t.l.getD j default else 0#32)) (fun z=>t.l.length - z.1) ((0,zs)) ⟨rfl,rfl,rfl,rfl,rfl,trivial⟩ ?_ ?_
  ·exact ⟨Nat.zero_le _,Below.refl _ _,M,n2,n3⟩
  clear M G A n3
  rintro ⟨i,m⟩ w11 ⟨hi,E,M,lm,hs2⟩
  dsimp only at hi M lm hs2 ⊢
  have hB2:=F.trans (E.mono (by omega))
  have K:=E.size
  have b:=Hn p_t b (AX _) E
  have v:=v.bl E q_t
  have f:=f.bl E q_r
  have G:=M.box
  have A:=M.sly
  have q:=b.2
  clear D p_t
  refine An<|Af<|Ac O<|Be underlying33 O (BC _)<|Aa (Ah (BG _) O ‹_› rfl) O ?_
  refine Aa (Au AU O ‹_›) O ?_
  refine B3 O<|Ak<|Aq O ?_ ?_
  ·intro g
   have I:i<t.l.length:=by have:=AD g;omega
   have hip:(i:Int)<Shapes.prod t.s:=by omega
   obtain ⟨-,tin⟩:=Tz hs hk hip
   have lp:=Shapes.place_length t.s (i:Int)
   have slt0:=Shapes.idx_lt (KL (k:=k) S.2.1) tin
   have C:HS t.s k i<m.length:=by rw [lm];unfold HS;omega
   have hke:((HS t.s k i:Nat):Int)=Shapes.idx (wo t.s k) (wo (Shapes.place t.s (i:Int)) k):=Int.toNat_of_nonneg slt0.1
   have N:(m.set (HS t.s k i) (m.getD (HS t.s k i) default+t.l.getD i default)).length=(Shapes.prod (wo t.s k)).toNat:=by rw [length_set];exact lm
   have hs3:∀c,c<(m.set (HS t.s k i) (m.getD (HS t.s k i) default+t.l.getD i default)).length→(m.set (HS t.s k i) (m.getD (HS t.s k i) default+t.l.getD i default)).getD c default=sm (i+1) fun j=>if HS t.s k j=c then t.l.getD j default else 0#32:=fun c hc=>UO hs2 C (by rwa [length_set] at hc)
   refine B0<|An<|Ao<|Af<|Be underlying33 O (AN _)<|Aa (Ah (AF _) O ‹_› rfl) O ?_
   refine Ac O<|Aj O O (Wl t.s t.x (i:Int) w11 b.1) ?_
   rintro _ w12 ⟨o,a,rfl,ha⟩
   rw [show Shapes.atl t.s (i:Int)=Shapes.place t.s (i:Int) by unfold Shapes.atl;rw [if_pos ⟨by omega,by rw [Shapes.size_ok hs];exact hip⟩]] at ha
   have M:=M.bs o
   have b:=b.bs o
   have v:=v.bs o
   have f:=f.bs o
   have E:=E.trans (o.mono (by omega))
   have K:=E.size
   have G:=M.box
   have A:=M.sly
   have J:=M.row.slT
   have q:=b.2
   refine Ac O<|Aa (As (i:=0) O O) O<|Aa (As (i:=1) O O) O<|Ab O<|Ab O<|Bl<|Ab O<|Bh<|Ac O<|Aa (Au AC O ‹_›) O ?_
   refine Aa (Dr O O) O<|Ak<|Aq O ?_ ?_
   ·intro g4
    have g4:1<t.s.length:=by have:=AD g4;omega
    have v1:=Jb (s:=t.s) (k:=k) (by omega)
    have v2:=Jb (s:=Shapes.place t.s (i:Int)) (k:=k) (by omega)
    have tin2:Shapes.inn (BK t.s k) (BK (Shapes.place t.s (i:Int)) k)=true:=by rw [v1,v2];exact tin
    have V:Shapes.idx (BK t.s k) (BK (Shapes.place t.s (i:Int)) k)=((HS t.s k i:Nat):Int):=by rw [v1,v2];exact hke.symm
    refine Cw.any AS (fun w13 hd _=> ?_)
    have M:=M.bs hd
    have b:=b.bs hd
    have v:=v.bs hd
    have f:=f.bs hd
    have E:=E.trans (hd.mono (by omega))
    have K:=E.size
    have G:=M.box
    have A:=M.sly
    have J:=M.row.slT
    have q:=b.2
    have ha:=ha.bs hd
    clear hd
    refine Aw.take (i:=0) (Am (Bs (Am (Am (Bs (Am Bo)))))) O (by kernel_rfl) (by kernel_rfl) (by kernel_rfl) (fun _=>Cd underlying33 O (AN _)) O<|Aw.take (i:=2) (Am (Bs (Am (Am (Bs (Am Bo)))))) O (by kernel_rfl) (by kernel_rfl) (by kernel_rfl) (fun _=>B6 O) O<|Aw.take (i:=3) (Am (Bs (Am (Am (Bs (Am Bo)))))) O (by kernel_rfl) (by kernel_rfl) (by kernel_rfl) (fun _=>B6 O) O ?_
    refine F6 (i:=1) (j:=4) (by kernel_rfl) O O ?_ ?_
    ·refine Aa (Ah (AF _) O ‹_› rfl) O ?_
     refine Aw.back<|Aw.only (i:=4) (by kernel_rfl) O<|Aj O O (Jf a (Shapes.place t.s (i:Int)) k _ ha (by omega) (by omega)) ?_
     rintro p w14 ⟨o,hp⟩
     have M:=M.bs o
     have b:=b.bs o
     have v:=v.bs o
     have f:=f.bs o
     have E:=E.trans (o.mono (by omega))
     have K:=E.size
     have G:=M.box
     have A:=M.sly
     have J:=M.row.slT
     have q:=b.2
     have s_p:=AQ hp
     refine Aw.back<|Aw.only (i:=5) (by kernel_rfl) O<|Aj O O (Ij (BK t.s k) (BK (Shapes.place t.s (i:Int)) k) x p _ J s_p) ?_
     rintro _ w15 ⟨rfl,o⟩
     rw [GP X tin2]
     have M:=M.bs o
     have b:=b.bs o
     have v:=v.bs o
     have f:=f.bs o
     have E:=E.trans (o.mono (by omega))
     have K:=E.size
     have G:=M.box
     have A:=M.sly
     have J:=M.row.slT
     have q:=b.2
     refine Aw.back<|Aw.take (i:=6) (Am (Bs (Am (Am (Bs (Am Bo)))))) O (by kernel_rfl) (by kernel_rfl) (by kernel_rfl) (fun _=>B6 O) O<|Aw.take (i:=7) (Am (Bs (Am (Am (Bs (Am Bo)))))) O (by kernel_rfl) (by kernel_rfl) (by kernel_rfl) (fun _=>As (i:=0) O O) O<|Aw.take (i:=8) (Am (Bs (Am (Am (Bs (Am Bo)))))) O (by kernel_rfl) (by kernel_rfl) (by kernel_rfl) (fun _=>As (i:=1) O O) O<|Aw.take (i:=9) (Am (Bs (Am (Am (Bs (Am Bo)))))) O (by kernel_rfl) (by kernel_rfl) (by kernel_rfl) (fun _=>Cf O) O<|Ea (by kernel_rfl)<|Ap<|B8<|Cw.tail 15 AS (by kernel_rfl)<|Ad (fun B d=>Cd underlying33 O (BC _)) O<|Ad (fun B d=>Ah (BG _) O (AO.bs ‹_› d) O) O ?_
     refine Bg O<|Ad (fun B d=>Cd underlying33 O (BC _)) O<|Ad (fun B d=>Ah (BG _) O (AO.bs ‹_› d) O) O ?_
     refine Bg O<|Ad (fun B d=>Ay AU O O (Sl.bs A d) (HS t.s k i) V C) O<|Ad (fun B d=>Bj (CF _) O (Sl.bs A d) C) O<|Ad (fun B d=>Cd underlying33 O (BC _)) O<|Ad (fun B d=>Ah (BG _) O (AO.bs ‹_› d) O) O ?_
     refine Bg O<|Ad (fun B d=>Ay AU O O (Sl.bs q d) i O I) O<|Ad (fun B d=>Bj (CF _) O (Sl.bs ‹_› d) (by omega)) O ?_
     refine Ad (fun B d=>D7 O O) O<|Ad (fun B d=>Ay AU O O (Sl.bs A d) (HS t.s k i) V C) O ?_
     refine Dc (fun w16 d=> ?_)
     refine Az ((M.bs d).st (ER _) O O C) ?_
     rintro w17 ⟨T,Q, -⟩
     have L:=(M.bs d).below (E.trans (d.mono (by omega))) (by omega) Q
     refine Bf<|Bn<|Ch<|Ac O<|B7 O (by omega)<|Ab O<|Bf ?_
     exact Ap (Pw.next ((i+1,m.set (HS t.s k i) (m.getD (HS t.s k i) default+t.l.getD i default))) ⟨rfl,rfl,rfl,rfl,rfl,trivial⟩ (⟨I,L,T,N,hs3⟩) (by simp only;omega))
    ·refine Aj O O (Jf a (Shapes.place t.s (i:Int)) k _ ha (by omega) (by omega)) ?_
     rintro p w14 ⟨o,hp⟩
     have M:=M.bs o
     have b:=b.bs o
     have v:=v.bs o
     have f:=f.bs o
     have E:=E.trans (o.mono (by omega))
     have K:=E.size
     have G:=M.box
     have A:=M.sly
     have J:=M.row.slT
     have q:=b.2
     have s_p:=AQ hp
     refine Aw.back<|Aw.only (i:=1) (by kernel_rfl) O<|Aa (Ah (AF _) O ‹_› rfl) O ?_
     refine Aw.back<|Aw.only (i:=5) (by kernel_rfl) O<|Aj O O (Ij (BK t.s k) (BK (Shapes.place t.s (i:Int)) k) x p _ J s_p) ?_
     rintro _ w15 ⟨rfl,o⟩
     rw [GP X tin2]
     have M:=M.bs o
     have b:=b.bs o
     have v:=v.bs o
     have f:=f.bs o
     have E:=E.trans (o.mono (by omega))
     have K:=E.size
     have G:=M.box
     have A:=M.sly
     have J:=M.row.slT
     have q:=b.2
     refine Aw.back<|Aw.take (i:=6) (Am (Bs (Am (Am (Bs (Am Bo)))))) O (by kernel_rfl) (by kernel_rfl) (by kernel_rfl) (fun _=>B6 O) O<|Aw.take (i:=7) (Am (Bs (Am (Am (Bs (Am Bo)))))) O (by kernel_rfl) (by kernel_rfl) (by kernel_rfl) (fun _=>As (i:=0) O O) O<|Aw.take (i:=8) (Am (Bs (Am (Am (Bs (Am Bo)))))) O (by kernel_rfl) (by kernel_rfl) (by kernel_rfl) (fun _=>As (i:=1) O O) O<|Aw.take (i:=9) (Am (Bs (Am (Am (Bs (Am Bo)))))) O (by kernel_rfl) (by kernel_rfl) (by kernel_rfl) (fun _=>Cf O) O<|Ea (by kernel_rfl)<|Ap<|B8<|Cw.tail 15 AS (by kernel_rfl)<|Ad (fun B d=>Cd underlying33 O (BC _)) O<|Ad (fun B d=>Ah (BG _) O (AO.bs ‹_› d) O) O ?_
     refine Bg O<|Ad (fun B d=>Cd underlying33 O (BC _)) O<|Ad (fun B d=>Ah (BG _) O (AO.bs ‹_› d) O) O ?_
     refine Bg O<|Ad (fun B d=>Ay AU O O (Sl.bs A d) (HS t.s k i) V C) O<|Ad (fun B d=>Bj (CF _) O (Sl.bs A d) C) O<|Ad (fun B d=>Cd underlying33 O (BC _)) O<|Ad (fun B d=>Ah (BG _) O (AO.bs ‹_› d) O) O ?_
     refine Bg O<|Ad (fun B d=>Ay AU O O (Sl.bs q d) i O I) O<|Ad (fun B d=>Bj (CF _) O (Sl.bs ‹_› d) (by omega)) O ?_
     refine Ad (fun B d=>D7 O O) O<|Ad (fun B d=>Ay AU O O (Sl.bs A d) (HS t.s k i) V C) O ?_
     refine Dc (fun w16 d=> ?_)
     refine Az ((M.bs d).st (ER _) O O C) ?_
     rintro w17 ⟨T,Q, -⟩
     have L:=(M.bs d).below (E.trans (d.mono (by omega))) (by omega) Q
     refine Bf<|Bn<|Ch<|Ac O<|B7 O (by omega)<|Ab O<|Bf ?_
     exact Ap (Pw.next ((i+1,m.set (HS t.s k i) (m.getD (HS t.s k i) default+t.l.getD i default))) ⟨rfl,rfl,rfl,rfl,rfl,trivial⟩ (⟨I,L,T,N,hs3⟩) (by simp only;omega))
   intro g4
   have g4:t.s.length=1:=by have:=AB g4;omega
   have hk0:(0:Int)=((HS t.s k i:Nat):Int):=by
    have lw:=JZ hk
    have e:wo t.s k=[]:=eq_nil_of_length_eq_zero (by omega)
    rw [hke,e];simp [Shapes.idx]
   refine B0<|Cw.tail 15 AS (by kernel_rfl)<|Ad (fun B d=>Cd underlying33 O (BC _)) O<|Ad (fun B d=>Ah (BG _) O (AO.bs ‹_› d) O) O ?_
   refine Bg O<|Ad (fun B d=>Cd underlying33 O (BC _)) O<|Ad (fun B d=>Ah (BG _) O (AO.bs ‹_› d) O) O ?_
   refine Bg O<|Ad (fun B d=>Ay AU O O (Sl.bs A d) (HS t.s k i) hk0 C) O<|Ad (fun B d=>Bj (CF _) O (Sl.bs A d) C) O<|Ad (fun B d=>Cd underlying33 O (BC _)) O<|Ad (fun B d=>Ah (BG _) O (AO.bs ‹_› d) O) O ?_
   refine Bg O<|Ad (fun B d=>Ay AU O O (Sl.bs q d) i O I) O<|Ad (fun B d=>Bj (CF _) O (Sl.bs ‹_› d) (by omega)) O ?_
   refine Ad (fun B d=>D7 O O) O<|Ad (fun B d=>Ay AU O O (Sl.bs A d) (HS t.s k i) hk0 C) O ?_
   refine Dc (fun w16 d=> ?_)
   refine Az ((M.bs d).st (ER _) O O C) ?_
   rintro w17 ⟨T,Q, -⟩
   have L:=(M.bs d).below (E.trans (d.mono (by omega))) (by omega) Q
   refine Bf<|Bn<|Ch<|Ac O<|B7 O (by omega)<|Ab O<|Bf ?_
   exact Ap (Pw.next ((i+1,m.set (HS t.s k i) (m.getD (HS t.s k i) default+t.l.getD i default))) ⟨rfl,rfl,rfl,rfl,rfl,trivial⟩ (⟨I,L,T,N,hs3⟩) (by simp only;omega))
  intro g
  have I:i=t.l.length:=by have:=AB g;omega
  subst I
  have em:m=QC t.s t.l k:=X1 hs hk lenl lm hs2
  refine Bp<|Al<|Al<|Bd<|Cm<|Aa (B9 (AT _) (AP _) O O ‹_›) O ?_
  refine Az (Bv (cs:=[x,y]) O O O O (JD M).one f O) ?_
  rintro w12 ⟨b_r2,Y, -⟩
  have T:=M.keep Y (by rintro _ ⟨⟩;exact .inl q_r)
  have hB3:=hB2.grown Y (AA hB2) (by rintro _ ⟨⟩;omega)
  refine Ab O<|Bc<|Bt O O O ‹_› underlying33 O O O ?_
  rw [em] at T
  exact ⟨hB3,x,y,rfl,fun h=>absurd rfl h,fun _=>⟨T.row.mono (by omega), .inl (BH T.lst.own (by omega)),T.yx⟩⟩
 exact absurd X (by rw [hk'];decide)

theorem T9 {s t:List Int} (h:(Shapes.index s t).2=0):0≤(Shapes.index s t).1∧(Shapes.index s t).1<Shapes.size s:=by
 unfold Shapes.index at h ⊢
 split
 ·rename_i g
  simp only [Bool.and_eq_true] at g
  have a:=Shapes.idx_lt ((Shapes.ok_iff s).1 g.1).2.1 g.2
  rw [Shapes.size_ok g.1]
  exact a
 ·rename_i g
  rw [if_neg g] at h
  cases h
def UM (s:List Int) (l:List (BitVec 32)) (t:List Int):Int:=if tok s l then (Shapes.index s t).2 else 1
def Mo (s:List Int) (l:List (BitVec 32)) (t:List Int):BitVec 32:=if tok s l=true∧(Shapes.index s t).2=0 then l.getD (Shapes.index s t).1.toNat default else 0#32
theorem Ya (a:T4) (u:Value) (t:List Int) (W:World) (b:a.at W) (c:BS (Value.int .i64) W u t):
  AM prog 228 [a.v,u] W (fun r p=>r= .tuple #[i32 (Mo a.s a.l t), .int .i64 (UM a.s a.l t)]∧Below W.heap.size W p):=by
 have e:=Below.refl W.heap.size W
 refine Bb (n:=26) func228 O<|Af<|B5 (cs:=[a.x,a.y]) O O O ?_
 rintro s w m f d -
 have e:=e.bs d
 have b:=b.bs d
 have c:=c.bs d
 refine Aa (Cf (show _=some (i32 (0#32)) from rfl)) O<|Ab O<|Bh<|Aa (B9 (AT _) (AP _) O O ‹_›) O ?_
 refine Aj O O (DS a.x a.y a.s a.l _ b.1 b.2) ?_
 rintro _ w ⟨rfl,d⟩
 have e:=e.bs d
 have b:=b.bs d
 have c:=c.bs d
 have f:=f.bs d
 refine Aa (Ck O) O<|Ak<|Aq O ?_ ?_
 ·intro g
  have h:tok a.s a.l=false:=by simpa using g
  exact Af<|Aa (Cf (show _=some (i32 (0#32)) from rfl)) rfl<|Ab rfl<|Bu<|Bx rfl rfl rfl<|⟨by simp [Mo,UM,h],e⟩
 intro g
 have h:tok a.s a.l=true:=by simpa using g
 refine Co<|Be underlying33 O (AN _)<|Aa (Ah (AF _) O ‹_› rfl) O ?_
 refine Ac O<|Aj O O (V5 a.s t a.x u _ b.1 c) ?_
 rintro _ w ⟨rfl,d⟩
 have e:=e.bs d
 have b:=b.bs d
 have c:=c.bs d
 have f:=f.bs d
 refine Ac O<|Aa (As (i:=0) O O) O<|Aa (As (i:=1) O O) O<|Ab O<|Ab O<|Bh<|Ac O<|Aa (Cs O O) O<|Ak<|Aq O ?_ ?_
 ·intro g
  have j:¬(Shapes.index a.s t).2=0:=by simpa using g
  exact Af<|Ac rfl<|Aa (Cf (show _=some (i32 (0#32)) from rfl)) rfl<|Ab rfl<|Bu<|Bx rfl rfl rfl<|⟨by simp [Mo,UM,h,j],e⟩
 intro g
 have j:(Shapes.index a.s t).2=0:=by simpa using g
 have k:=T9 j
 have v:=(BJ h).2
 obtain ⟨i,o⟩:∃i:Nat,(Shapes.index a.s t).1=(i:Int):=⟨_,(Int.toNat_of_nonneg k.1).symm⟩
 have l:i<a.l.length:=by omega
 have q:=b.2
 refine Co<|Be underlying33 O (BC _)<|Aa (Ah (BG _) O ‹_› rfl) O ?_
 refine Ac O<|Aa (Ay AU O O q i o l) O<|Aa (Bj (CF _) O ‹_› (by omega)) O ?_
 exact Ab rfl<|Ab rfl<|Bc<|Bx rfl rfl rfl<|⟨by simp [Mo,UM,h,j,o],e⟩

theorem V2 (t:T4) (w:World) (a:t.at w):AM prog 225 [t.v] w (fun r f=>r= .bool (!tok t.s t.l)∧Below w.heap.size w f):=by
 have d:=Below.refl w.heap.size w
 refine Bb (n:=6) func225 O<|Af<|B5 (cs:=[t.x,t.y]) O O O ?_
 rintro g w e c b -
 have d:=d.bs b
 have a:=a.bs b
 refine Ab O<|Bl<|Aa (B9 (AT _) (AP _) O O ‹_›) O ?_
 refine Aj O O (DS t.x t.y t.s t.l _ a.1 a.2) ?_
 rintro _ w ⟨rfl,b⟩
 have d:=d.bs b
 have a:=a.bs b
 have c:=c.bs b
 exact Aa (Ck rfl) rfl<|Ab rfl<|Bc<|Ax rfl rfl<|⟨rfl,d⟩
def H1 (ts:List T4):Bool:=ts.any fun t=> !tok t.s t.l
theorem WD (v:Value) (ts:List T4) (w:World) (h:CN w v ts) (z:ts.length≤1000):AM prog 246 [v, .func (.func 225) #[] #[]] w (fun r k=>∃j,r= .int .i64 j∧decide (0≤j)=H1 ts∧Below w.heap.size w k):=by
 have B:=h.1
 refine Bb (n:=19) func246 O<|Af<|Ab O<|Bh<|Ac O<|Aa (Au AR O ‹_›) O ?_
 refine Ac O<|Ak<|Ao ?_
 refine Bq (S:=Nat) (fun i=>[(0,v),(1, .func (.func 225) #[] #[]),(7, .int .i64 (ts.length:Int)),(8, .int .i64 (i:Int))]) (fun i k=>i≤ts.length∧H1 (ts.take i)=false∧Below w.heap.size w k) (fun i=>ts.length - i) (0) ⟨rfl,rfl,rfl,rfl,trivial⟩ ?_ ?_
 ·exact ⟨Nat.zero_le _,rfl,Below.refl _ _⟩
 rintro i t ⟨A,o,d⟩
 have m:=h.bs d
 refine Af<|B3 O<|Ak<|An<|Aq O ?_ ?_
 ·intro f
  have b:i<ts.length:=by have:=AD f;omega
  obtain ⟨a,y,s,u,x⟩:=Hi b
  have l:=m.2 a s
  have e1:H1 (ts.take (i+1))=(H1 (ts.take i)|| !tok a.s a.l):=by unfold H1;rw [take_succ_eq_append_getElem b,any_append,← y];simp
  refine B0<|An<|Ao<|Af<|Ac O<|Ab O<|Bl<|Ac O<|Ac O<|Ac O<|Aa (Ci AR O O m.1 i O b) O<|Aa (Cq (cs:=[a.x,a.y]) (AT _) (AP _) O m.1 O (by decide) (FA u x)) O<|Ec (p:=[]) (q:=[]) O O O (V2 a t l) ?_
  rintro _ C ⟨rfl,c⟩
  refine Ak<|Aq O ?_ ?_
  ·intro g
   refine Af<|Ac O<|Ab O<|Bc<|Bi<|Av<|Av<|Bi<|Av<|Ax O O ?_
   refine ⟨(i:Int),rfl, ?_,bt d c⟩
   have:H1 ts=true:=by
    unfold H1
    exact List.any_eq_true.2 ⟨a,s,g⟩
   rw [this,decide_eq_true (by omega)]
  intro g
  refine Cp<|Bn<|Ch<|B7 O (by omega)<|Ac O<|Bf ?_
  exact Ap (Pw.next (i+1) ⟨rfl,rfl,rfl,rfl,trivial⟩ (⟨b,by rw [e1,o,g];rfl,bt d c⟩) (by omega))
 intro e
 have b:i=ts.length:=by have:=AB e;omega
 subst b
 rw [take_length] at o
 refine Bp<|Al<|Al<|Bd<|Cm<|Ab O<|Bc<|Ax O O ?_
 exact ⟨-1,rfl,by rw [o];rfl,d⟩
theorem WE (v:Value) (ts:List T4) (w:World) (h:CN w v ts) (b:ts.length≤1000):AM prog 224 [v, .func (.func 225) #[] #[]] w (fun r a=>r= .bool (H1 ts)∧Below w.heap.size w a):=by
 refine Bb (n:=9) func224 O<|Af<|Ab O<|Bl<|Ac O<|Ac O<|Aj O O (WD v ts w h b) ?_
 rintro _ _ ⟨j,rfl,c,d⟩
 exact Aa (Ds rfl rfl) rfl<|Ab rfl<|Bc<|Ax rfl rfl<|⟨cngA Value.bool c,d⟩
def HX (a b:List Int) (k:Nat):Bool:=decide (a.length=b.length) && decide (a.take k=b.take k) && decide (a.drop (k+1)=b.drop (k+1))
theorem VY (u v:Value) (a b:List Int) (k:Nat) (w:World) (f:BS (Value.int .i64) w u a) (e:BS (Value.int .i64) w v b) (o:k<b.length):AM prog 226 [u,v, .int .i64 (k:Int)] w (fun r l=>r= .bool (HX a b k)∧Below w.heap.size w l):=by
 have m:=e.le
 refine Bb (n:=32) func226 O<|Af<|Ab O<|Ak<|An<|Cv AS (by kernel_rfl)<|Bg O<|Ad (fun d c=>Au AC O (Sl.bs ‹_› c)) O ?_
 refine Bg O<|Ad (fun d c=>Au AC O (Sl.bs ‹_› c)) O ?_
 refine Ad (fun d c=>Da O O) O<|Bg O ?_
 refine Dm 12 O ?_ ?_
 ·intro g
  have i:a.length=b.length:=by have:=AD g;omega
  refine Ba (dj:=12) O O<|Bg O<|Ba (dj:=12) O O<|Bg O<|Ba (dj:=12) O O<|Ad (fun d c=>Ey AC O O (Sl.bs ‹_› c) (by omega)) O ?_
  refine Ba (dj:=12) O O<|Bg O<|Ba (dj:=12) O O<|Bg O<|Ba (dj:=12) O O<|Ad (fun d c=>Ey AC O O (Sl.bs ‹_› c) (by omega)) O ?_
  refine Ba (dj:=12) O O<|C3 O O (fun d c=>(EW (cut u 1 0 k) (cut v 1 0 k) (a.take k) (b.take k) d (Sl.bs (BS.take f (by omega)) c) (Sl.bs (BS.take e (by omega)) c)).q c)<|Ad (fun d c=>Ct O O) O<|Bg O ?_
  refine Dm 21 O ?_ ?_
  ·intro h
   refine Ba (dj:=21) O O<|Bg O<|Ba (dj:=21) O O<|Bg O<|Ba (dj:=21) O O<|Ad (fun d c=>(De O O (by omega)).as (cngA (Value.int .i64) (show (k:Int)+1=((k+1:Nat):Int) by omega))) O<|Ba (dj:=21) O O<|Ad (fun d c=>Fe AC O O (Sl.bs ‹_› c) (by omega)) O ?_
   refine Ba (dj:=21) O O<|Bg O<|Ba (dj:=21) O O<|Bg O<|Ba (dj:=21) O O<|Ad (fun d c=>(De O O (by omega)).as (cngA (Value.int .i64) (show (k:Int)+1=((k+1:Nat):Int) by omega))) O<|Ba (dj:=21) O O<|Ad (fun d c=>Fe AC O O (Sl.bs ‹_› c) (by omega)) O ?_
   refine Ba (dj:=21) O O<|C3 O O (fun d c=>(EW (cut u 1 (k+1) a.length) (cut v 1 (k+1) b.length) (a.drop (k+1)) (b.drop (k+1)) d (Sl.bs (BS.drop f (by omega)) c) (Sl.bs (BS.drop e (by omega)) c)).q c)<|Ad (fun d c=>Ct O O) O<|Dk O ?_
   refine Cr (fun j c=> ?_)
   refine Ap<|B8<|Df<|Ax O O ?_
   exact ⟨cngA Value.bool (by unfold HX;rw [decide_eq_true i,h];rfl),c⟩
  intro h
  refine Ar (dj:=21) O O O O<|Ar (dj:=21) O O O O<|Ar (dj:=21) O O O O<|Ar (dj:=21) O O O O<|Ar (dj:=21) O O O O<|Ar (dj:=21) O O O O<|Ar (dj:=21) O O O O<|Ar (dj:=21) O O O O<|Ar (dj:=21) O O O O<|Ad (fun d c=>Cz O O) O<|Dk O ?_
  refine Cr (fun j c=> ?_)
  refine Ap<|B8<|Df<|Ax O O ?_
  exact ⟨cngA Value.bool (by unfold HX;rw [h,Bool.and_false,Bool.false_and]),c⟩
 intro g
 have i:¬a.length=b.length:=by have:=AB g;omega
 refine Ar (dj:=12) O O O O<|Ar (dj:=12) O O O O<|Ar (dj:=12) O O O O<|Ar (dj:=12) O O O O<|Ar (dj:=12) O O O O<|Ar (dj:=12) O O O O<|Ar (dj:=12) O O O O<|Ad (fun d c=>Cz O O) O<|Bg O<|Ar (dj:=21) O O O O<|Ar (dj:=21) O O O O<|Ar (dj:=21) O O O O<|Ar (dj:=21) O O O O<|Ar (dj:=21) O O O O<|Ar (dj:=21) O O O O<|Ar (dj:=21) O O O O<|Ar (dj:=21) O O O O<|Ar (dj:=21) O O O O<|Ad (fun d c=>Cz O O) O<|Dk O ?_
 refine Cr (fun j c=> ?_)
 refine Ap<|B8<|Df<|Ax O O ?_
 exact ⟨cngA Value.bool (by unfold HX;rw [decide_eq_false i];rfl),c⟩
def CB (k:Nat):List T4→Int
 |[]=>0
 |t::ts=>t.s.getD k default+CB k ts
theorem Hk (k:Nat):∀(a b:List T4),CB k (a++b)=CB k a+CB k b
 |[],b=>by simp [CB]
 |t::a,b=>by simp only [cons_append,CB];rw [Hk k a b];omega
def jv (k:Nat):List T4→List Int→BitVec 32
 |[],_=>0#32
 |t::ts,p=>if p.getD k default<t.s.getD k default then Mo t.s t.l p else jv k ts (p.set k (p.getD k default - t.s.getD k default))
def OY:List T4→List Int
 |[]=>[]
 |t::_=>t.s
def KZ (ts:List T4) (k:Nat):List Int:=(OY ts).set k (CB k ts)
def K8 (ts:List T4) (al:Int):Bool:=decide (ts.length<1)||decide (4<ts.length)||H1 ts||decide (al<0)||decide (((OY ts).length:Int)≤al)
def Lb (ts:List T4) (al:Int):Int:=if K8 ts al then 1 else if (ts.all fun t=>HX t.s (OY ts) al.toNat) && Shapes.ok (KZ ts al.toNat) then 0 else 10
def Mk (ts:List T4) (k:Nat):List (BitVec 32):=(range (Shapes.size (KZ ts k)).toNat).map fun i:Nat=>jv k ts (Shapes.place (KZ ts k) (i:Int))
theorem NM {a b:List Int} {k:Nat} (c:Int):HX a (b.set k c) k=HX a b k:=by
 have e1:(b.set k c).take k=b.take k:=by
  apply ext_getElem (by simp)
  intro i d e
  simp only [length_take,length_set] at d
  rw [getElem_take,getElem_take,getElem_set,if_neg (by omega)]
 have e2:(b.set k c).drop (k+1)=b.drop (k+1):=by
  apply ext_getElem (by simp)
  intro i d e
  rw [getElem_drop,getElem_drop,getElem_set,if_neg (by omega)]
 unfold HX
 rw [e1,e2,length_set]
theorem V1 (s u k:Nat) (v:Value) (ts:List T4) (p:List Int) (a:Value) (w:World) (b_k:AO w s 3 [.int .i64 (k:Int)]) (b_l:AO w u 26 [v]) (h:CN w v ts) (hl:ts.length≤1000) (hT:∀t ∈ ts,k<t.s.length∧Shapes.ok t.s=true)
  (hk:k<p.length) (hp:p.length≤4) (hc:0≤p.getD k default∧p.getD k default<CB k ts) (hj:CB k ts≤1000) (h_a:BS (Value.int .i64) w a p):
  AM prog 227 ([a]++[.pointer (some ⟨s,0,none⟩), .pointer (some ⟨u,0,none⟩)]) w (fun r T=>r=i32 (jv k ts p)∧Below w.heap.size w T):=by
 show AM prog 227 [a, .pointer (some ⟨s,0,none⟩), .pointer (some ⟨u,0,none⟩)] w _
 have m:p.set k (p.getD k default)=p:=by
  have:p[k]=p.getD k default:=by simp [hk]
  rw [← this];exact set_getElem_self hk
 refine Bb (n:=49) func227 O<|Af<|Aa (Cf (show _=some (i32 (0#32)) from rfl)) O<|Bl<|Ac O<|Aj O O (Hl a p w h_a (by omega)) ?_
 rintro x f ⟨E,F⟩
 refine Ab O<|Ab O<|Ak<|An<|Ao ?_
 refine Bq (S:=(Nat×Int)) (fun z=>[(0,x),(1, .pointer (some ⟨s,0,none⟩)),(2, .pointer (some ⟨u,0,none⟩)),(5, .int .i64 (z.1:Int))]) (fun z T=>z.1≤ts.length∧(0≤z.2∧z.2<CB k (ts.drop z.1)∧z.2≤1000)∧jv k ts p=jv k (ts.drop z.1) (p.set k z.2)∧Below w.heap.size w T∧T.ownsRow w.heap.size 3 1 x p.length ((p.set k z.2).map (Value.int .i64))) (fun z=>ts.length - z.1) ((0,p.getD k default)) ⟨rfl,rfl,rfl,rfl,trivial⟩ ?_ ?_
 ·exact ⟨Nat.zero_le _,⟨hc.1,hc.2,by show p.getD k default≤1000;omega⟩,by rw [m];rfl,F,by show f.ownsRow _ _ _ _ _ ((p.set k (p.getD k default)).map _);rw [m];exact E⟩
 clear E F
 rintro ⟨n,c⟩ w2 ⟨hn,⟨c0,M,c2⟩,W,X,E⟩
 dsimp only at hn c0 M c2 W E ⊢
 have j:n<ts.length:=by
  rcases Nat.lt_or_ge n ts.length with h|h
  ·exact h
  ·rw [drop_of_length_le h] at M;simp [CB] at M;omega
 obtain ⟨t,et,mt,Y,k2⟩:=Hi j
 have hd:ts.drop n=t::ts.drop (n+1):=by rw [drop_eq_getElem_cons j,← et]
 obtain ⟨I,okt⟩:=hT t mt
 have dt:=Iz ((Shapes.ok_iff t.s).1 okt).2.1 I
 have U:=h.bs X
 have h_t:=U.2 t mt
 have y:=h_t.1
 have R:=U.slice j
 have H:=b_k.bs X
 have G:=b_l.bs X
 have J:(p.set k c).length=p.length:=length_set
 have B:=E
 rw [← J] at B
 have C:=AQ B
 clear B
 have V:(p.set k c).getD k default=c:=by simp [hk]
 have o:k<(p.set k c).length:=by omega
 rw [hd] at M W
 have c1' :c<t.s.getD k default+CB k (ts.drop (n+1)):=M
 refine An<|An<|Cv AS (by kernel_rfl)<|Bg O<|Ad (fun f d=>Ah (AK _) O (AO.bs ‹_› d) O) O ?_
 refine Ad (fun f d=>Ay AC O O (Sl.bs C d) k O o) O<|Ad (fun f d=>(Bj (AK _) O (Sl.bs C d) o).as (cngA (Value.int .i64) V)) O<|Ad (fun f d=>Ah (EY _) O (AO.bs ‹_› d) O) O ?_
 refine Bg O<|Ad (fun f d=>Ci AR O O (Sl.bs U.1 d) n O j) O<|Ad (fun f d=>C2 underlying33 O (AN _) O R) O<|Ad (fun f d=>D1 (AF _) O (Sl.bs U.1 d) Y) O<|Ad (fun f d=>Ah (AK _) O (AO.bs ‹_› d) O) O ?_
 refine Ad (fun f d=>Ay AC O O (Sl.bs y d) k O I) O<|Ad (fun f d=>Bj (AK _) O (Sl.bs y d) I) O<|Ad (fun f d=>Ds O O) O ?_
 refine Cr (fun w3 d=> ?_)
 refine Ap<|B8 ?_
 have D:=bt X d
 have hx3:=AL E d
 have Q:=h.bs D
 have A:=Q.2 t mt
 have q:=A.1
 have b_k3:=H.bs d
 have b_l3:=G.bs d
 have l:=C.bs d
 clear d
 refine Aq O ?_ ?_
 ·intro g
  have g:=AD g
  refine B0<|Ao<|An<|Cw.tail 14 AS (by kernel_rfl)<|Bg O<|Ad (fun f d=>Ah (AK _) O (AO.bs ‹_› d) O) O ?_
  refine Ad (fun f d=>Ay AC O O (Sl.bs l d) k O o) O<|Ad (fun f d=>(Bj (AK _) O (Sl.bs l d) o).as (cngA (Value.int .i64) V)) O<|Ad (fun f d=>Ah (EY _) O (AO.bs ‹_› d) O) O ?_
  refine Bg O<|Ad (fun f d=>Ci AR O O (Sl.bs Q.1 d) n O j) O<|Ad (fun f d=>C2 underlying33 O (AN _) O R) O<|Ad (fun f d=>D1 (AF _) O (Sl.bs Q.1 d) Y) O<|Ad (fun f d=>Ah (AK _) O (AO.bs ‹_› d) O) O ?_
  refine Ad (fun f d=>Ay AC O O (Sl.bs q d) k O I) O<|Ad (fun f d=>Bj (AK _) O (Sl.bs q d) I) O<|Ad (fun f d=>Du O O (by omega)) O<|Ad (fun f d=>Ay AC O O (Sl.bs l d) k O o) O ?_
  refine Dc (fun w4 d=> ?_)
  have K:=bt D d
  have L:=AL hx3 d
  refine Az (D3 (BA _) O O O L (by rw [length_map];exact o)) ?_
  rintro w5 ⟨N,hg, -⟩
  rw [← map_set,set_set] at N
  have hB5:=K.grown hg (AA K) (fun b e=>(AG L b e).1)
  have ev:jv k (t::ts.drop (n+1)) (p.set k c)=jv k (ts.drop (n+1)) (p.set k (c - t.s.getD k default)):=by
   rw [jv,V,if_neg (by omega),set_set]
  refine Ak<|Bw<|Ac O<|B7 O (by omega)<|Ab O<|Bf<|Bn ?_
  exact Ap (Pw.next ((n+1,c - t.s.getD k default)) ⟨rfl,rfl,rfl,rfl,trivial⟩ (⟨j,⟨by show 0≤c - t.s.getD k default;omega,by show c - t.s.getD k default<CB k (ts.drop (n+1));omega,by show c - t.s.getD k default≤1000;omega⟩,by rw [W,ev],hB5,N⟩) (by simp only;omega))
 intro g
 have g:=AB g
 have ev:jv k (t::ts.drop (n+1)) (p.set k c)=Mo t.s t.l (p.set k c):=by rw [jv,V,if_pos (by omega)]
 refine Bp<|Al<|Al<|Bd<|Cm<|Aa (Ah (EY _) O ‹_› rfl) O ?_
 refine Ac O<|Aa (Ci AR O O Q.1 n O j) O<|Aa (Cq (cs:=[t.x,t.y]) (AT _) (AP _) O Q.1 O (by decide) (FA Y k2)) O<|Ac O<|Aj O O (Ya t x (p.set k c) _ A l) ?_
 rintro _ w4 ⟨rfl,Z⟩
 exact Ac rfl<|Aa (As (i:=0) rfl rfl) rfl<|Aa (As (i:=1) rfl rfl) rfl<|Ab rfl<|Ab rfl<|Bl<|Ac rfl<|Ab rfl<|Bc<|Ax rfl rfl<|⟨by rw [W,ev],bt D Z⟩
theorem GK {ts:List T4} {a:Int} (h:K8 ts a=true):Lb ts a=1:=by unfold Lb;rw [if_pos h]
theorem N1 {ts:List T4} {a:Int} (h:K8 ts a=false) (g:((ts.all fun t=>HX t.s (OY ts) a.toNat) && Shapes.ok (KZ ts a.toNat))=false):Lb ts a=10:=by unfold Lb;rw [h,if_neg (by decide),g,if_neg (by decide)]
theorem WM {ts:List T4} {t:T4} (h:0<ts.length) (e:t=ts[0]):OY ts=t.s:=by
 match ts,h,e with
 |a::_,_,e=>rw [e];rfl
theorem IG {ts:List T4} (h:H1 ts=false) {t:T4} (a:t ∈ ts):tok t.s t.l=true:=by
 cases hk:tok t.s t.l with
 |true=>rfl
 |false=>
  have:H1 ts=true:=List.any_eq_true.2 ⟨t,a,by rw [hk];rfl⟩
  rw [this] at h;cases h
theorem KY {k:Nat}:∀{ts:List T4},(∀t ∈ ts,0≤t.s.getD k default∧t.s.getD k default≤64)→0≤CB k ts∧CB k ts≤64*ts.length
 |[],_=>by simp [CB]
 |t::ts,h=>by
  have b:=h t (by simp)
  have c:=KY (ts:=ts) fun u a=>h u (by simp [a])
  simp only [CB,length_cons]
  omega
theorem CO {s:List Int} {k:Nat} (h:k<s.length) (c:Int):(s.set k c).getD k default=c:=by simp [h]
set_option maxHeartbeats 1000000 in
theorem Vs (v:Value) (ts:List T4) (U:Int) (W:World) (h:CN W v ts):
  AM prog 132 [v, .int .i64 U] W (fun r w' =>Below W.heap.size W w' ∧Jw W w' r (Lb ts U) (KZ ts U.toNat) (Mk ts U.toNat)):=by
 have f:=Below.refl W.heap.size W
 have hvo:=h.1.one
 have I:=h.1
 refine Bb (n:=77) func132 O<|Af<|B5 (cs:=[v]) O hvo O ?_
 rintro R w eA_l o p -
 have f:=f.bs p
 have h:=h.bs p
 have I:=I.bs p
 refine B5 (cs:=[.int .i64 U]) O O O ?_
 rintro N w eA_k l p -
 have f:=f.bs p
 have h:=h.bs p
 have I:=I.bs p
 have o:=o.bs p
 have z0:=AA f
 refine Cx AY O ?_
 rintro A_r w eA_r d p -
 have f:=f.bs p
 have h:=h.bs p
 have I:=I.bs p
 have o:=o.bs p
 have l:=l.bs p
 refine Ab O<|Ak<|An<|An ?_
 have z_r:=AH d
 refine Cv AS (by kernel_rfl)<|Ad (fun j c=>Ah (EY _) O (AO.bs ‹_› c) O) O ?_
 refine Ad (fun j c=>Au AR O (Sl.bs ‹_› c)) O ?_
 refine Ad (fun j c=>Eh O O) O<|Bg O ?_
 refine Dm 12 O ?_ ?_
 ·intro g
  have g' :ts.length<1:=by have:=AD g;omega
  refine Ar (dj:=12) O O O O<|Ar (dj:=12) O O O O<|Ar (dj:=12) O O O O<|Ad (fun j c=>Ct O O) O<|Bg O<|Ar (dj:=17) O O O O<|Ar (dj:=17) O O O O<|Ad (fun j c=>Ct O O) O<|Bg O<|Ar (dj:=21) O O O O<|Ar (dj:=21) O O O O<|Ad (fun j c=>Ct O O) O<|Bg O<|Ar (dj:=25) O O O O<|Ar (dj:=25) O O O O<|Ar (dj:=25) O O O O<|Ar (dj:=25) O O O O<|Ar (dj:=25) O O O O<|Ar (dj:=25) O O O O<|Ar (dj:=25) O O O O<|Ad (fun j c=>Ct O O) O ?_
  refine Cr (fun j c=> ?_)
  refine Ap<|B8<|Bz O<|Af<|C8 O ?_
  have d:=d.bs c
  have f:=bt f c
  refine Az (Bv (cs:=[.slice none 0 0, .slice none 0 0]) O O O O O d O) ?_
  rintro Y ⟨d,y, -⟩
  have f:=f.grown y (AA f) (by rintro _ ⟨⟩;omega)
  refine Ab O<|Bu<|Bt O O O ‹_› underlying33 O O O ?_
  rw [GK (by unfold K8;rw [decide_eq_true g'];rfl)]
  exact ⟨f,CC (by decide)⟩
 intro g1
 have g1:¬ts.length<1:=by have:=AB g1;omega
 refine Ba (dj:=12) O O<|Ad (fun j c=>Ah (EY _) O (AO.bs ‹_› c) O) O ?_
 refine Ba (dj:=12) O O<|Ad (fun j c=>Au AR O (Sl.bs ‹_› c)) O ?_
 refine Ba (dj:=12) O O<|Ad (fun j c=>Dr O O) O<|Ad (fun j c=>Cz O O) O<|Bg O ?_
 refine Dm 17 O ?_ ?_
 ·intro g
  have g' :4<ts.length:=by have:=AD g;omega
  refine Ar (dj:=17) O O O O<|Ar (dj:=17) O O O O<|Ad (fun j c=>Ct O O) O<|Bg O<|Ar (dj:=21) O O O O<|Ar (dj:=21) O O O O<|Ad (fun j c=>Ct O O) O<|Bg O<|Ar (dj:=25) O O O O<|Ar (dj:=25) O O O O<|Ar (dj:=25) O O O O<|Ar (dj:=25) O O O O<|Ar (dj:=25) O O O O<|Ar (dj:=25) O O O O<|Ar (dj:=25) O O O O<|Ad (fun j c=>Ct O O) O ?_
  refine Cr (fun j c=> ?_)
  refine Ap<|B8<|Bz O<|Af<|C8 O ?_
  have d:=d.bs c
  have f:=bt f c
  refine Az (Bv (cs:=[.slice none 0 0, .slice none 0 0]) O O O O O d O) ?_
  rintro Y ⟨d,y, -⟩
  have f:=f.grown y (AA f) (by rintro _ ⟨⟩;omega)
  refine Ab O<|Bu<|Bt O O O ‹_› underlying33 O O O ?_
  rw [GK (by unfold K8;rw [decide_eq_true g',Bool.or_true];rfl)]
  exact ⟨f,CC (by decide)⟩
 intro q
 have q:¬4<ts.length:=by have:=AB q;omega
 refine Ba (dj:=17) O O<|Ad (fun j c=>Ah (EY _) O (AO.bs ‹_› c) O) O ?_
 refine Ba (dj:=17) O O<|C3 O O (fun j c=>(WE v ts j (h.bs c) (by omega)).q c)<|Ad (fun j c=>Cz O O) O<|Bg O ?_
 refine Dm 21 O ?_ ?_
 ·intro g
  refine Ar (dj:=21) O O O O<|Ar (dj:=21) O O O O<|Ad (fun j c=>Ct O O) O<|Bg O<|Ar (dj:=25) O O O O<|Ar (dj:=25) O O O O<|Ar (dj:=25) O O O O<|Ar (dj:=25) O O O O<|Ar (dj:=25) O O O O<|Ar (dj:=25) O O O O<|Ar (dj:=25) O O O O<|Ad (fun j c=>Ct O O) O ?_
  refine Cr (fun j c=> ?_)
  refine Ap<|B8<|Bz O<|Af<|C8 O ?_
  have d:=d.bs c
  have f:=bt f c
  refine Az (Bv (cs:=[.slice none 0 0, .slice none 0 0]) O O O O O d O) ?_
  rintro Y ⟨d,y, -⟩
  have f:=f.grown y (AA f) (by rintro _ ⟨⟩;omega)
  refine Ab O<|Bu<|Bt O O O ‹_› underlying33 O O O ?_
  rw [GK (by unfold K8;rw [g,Bool.or_true];rfl)]
  exact ⟨f,CC (by decide)⟩
 intro g3
 refine Ba (dj:=21) O O<|Ad (fun j c=>Ah (AK _) O (AO.bs ‹_› c) O) O ?_
 refine Ba (dj:=21) O O<|Ad (fun j c=>Eh O O) O<|Ad (fun j c=>Cz O O) O<|Bg O ?_
 refine Dm 25 O ?_ ?_
 ·intro g
  have g' :U<0:=AD g
  refine Ar (dj:=25) O O O O<|Ar (dj:=25) O O O O<|Ar (dj:=25) O O O O<|Ar (dj:=25) O O O O<|Ar (dj:=25) O O O O<|Ar (dj:=25) O O O O<|Ar (dj:=25) O O O O<|Ad (fun j c=>Ct O O) O ?_
  refine Cr (fun j c=> ?_)
  refine Ap<|B8<|Bz O<|Af<|C8 O ?_
  have d:=d.bs c
  have f:=bt f c
  refine Az (Bv (cs:=[.slice none 0 0, .slice none 0 0]) O O O O O d O) ?_
  rintro Y ⟨d,y, -⟩
  have f:=f.grown y (AA f) (by rintro _ ⟨⟩;omega)
  refine Ab O<|Bu<|Bt O O O ‹_› underlying33 O O O ?_
  rw [GK (by unfold K8;rw [decide_eq_true g',Bool.or_true];rfl)]
  exact ⟨f,CC (by decide)⟩
 intro g4
 have g4:¬U<0:=AB g4
 have E:0<ts.length:=by omega
 obtain ⟨H,e0,m0,c1,c2⟩:=Hi E
 have h_00:=h.2 H m0
 have C:=h_00.1
 have Q:=WM E e0
 have hvs:=h.slice E
 refine Ba (dj:=25) O O<|Ad (fun j c=>Ah (AK _) O (AO.bs ‹_› c) O) O ?_
 refine Ba (dj:=25) O O<|Ad (fun j c=>Ah (EY _) O (AO.bs ‹_› c) O) O ?_
 refine Ba (dj:=25) O O<|Ad (fun j c=>Ci AR O O (Sl.bs I c) 0 O E) O<|Ba (dj:=25) O O<|Ad (fun j c=>C2 underlying33 O (AN _) O hvs) O<|Ba (dj:=25) O O<|Ad (fun j c=>D1 (AF _) O (Sl.bs I c) c1) O<|Ba (dj:=25) O O<|Ad (fun j c=>Au AC O (Sl.bs ‹_› c)) O ?_
 refine Ba (dj:=25) O O<|Ad (fun j c=>Ds O O) O<|Ad (fun j c=>Cz O O) O ?_
 refine Cr (fun j c=> ?_)
 refine Ap<|B8<|Aq O ?_ ?_
 ·intro g
  have g' :((OY ts).length:Int)≤U:=by rw [Q];exact AD g
  refine Af<|C8 O ?_
  have d:=d.bs c
  have f:=bt f c
  refine Az (Bv (cs:=[.slice none 0 0, .slice none 0 0]) O O O O O d O) ?_
  rintro Y ⟨d,y, -⟩
  have f:=f.grown y (AA f) (by rintro _ ⟨⟩;omega)
  refine Ab O<|Bu<|Bt O O O ‹_› underlying33 O O O ?_
  rw [GK (by unfold K8;rw [decide_eq_true g',Bool.or_true])]
  exact ⟨f,CC (by decide)⟩
 intro g5
 have g5:=AB g5
 have hA:K8 ts U=false:=by
  unfold K8
  rw [decide_eq_false g1,decide_eq_false q,g3,decide_eq_false g4,Q,decide_eq_false (by omega)];rfl
 obtain ⟨k,rfl⟩:∃k:Nat,U=(k:Int):=⟨U.toNat,by omega⟩
 have hk:k<H.s.length:=by omega
 have ok0:=(BJ (IG g3 m0)).1
 have S0:=(Shapes.ok_iff H.s).1 ok0
 have f:=f.bs c
 have h:=h.bs c
 have I:=I.bs c
 have o:=o.bs c
 have l:=l.bs c
 have d:=d.bs c
 have C:=C.bs c
 clear c h_00
 refine Co<|Aa (Ah (EY _) O ‹_› rfl) O ?_
 refine Aa (Ci AR O O I 0 O E) O<|Aa (C2 underlying33 O (AN _) O hvs) O<|Aa (D1 (AF _) O I c1) O ?_
 obtain ⟨B,K⟩:∃B,B=j.heap.size:=⟨_,rfl⟩
 have y_l:R<B:=K ▸ AH o
 have y_k:N<B:=K ▸ AH l
 have y_r:A_r<B:=K ▸ AH d
 have y_B:=AA f
 have V:=h
 have b_l0:=o
 have Z:=l
 have b_r0:=d
 have hB0:=f
 refine Aj O O (Hl H.x H.s j C (by omega)) ?_
 rintro x w2 ⟨A,p⟩
 rw [← K] at A
 have zn:=p.size
 have f:=f.bs p
 have h:=h.bs p
 have I:=I.bs p
 have o:=o.bs p
 have l:=l.bs p
 have d:=d.bs p
 have C:=C.bs p
 have z:=K ▸ p
 have s:=AQ A
 refine Ab O<|Bl<|Ac O<|Aa (Ah (AK _) O ‹_› rfl) O ?_
 refine Aa (Ay AC O O s k O hk) O<|Az (D3 (BA _) O O O A (by rw [length_map];exact hk)) ?_
 rintro Y ⟨hx3,y, -⟩
 rw [← map_set] at hx3
 have T:Below B j Y:=Below.grown z y (by omega) (fun b e=>(AG A b e).1)
 clear s A y
 clear I
 have gd:∀t ∈ ts,0≤t.s.getD k default∧t.s.getD k default≤64:=fun t X=>by
  have S:=(Shapes.ok_iff t.s).1 (BJ (IG g3 X)).1
  rcases Nat.lt_or_ge k t.s.length with h|h
  ·have:=Iz S.2.1 h;omega
  ·rw [getD_eq_getElem?_getD,getElem?_eq_none h];decide
 have h3:=V.stay V (Nat.le_of_eq K.symm) T
 have hv3:=h3.1
 have b_l3:=b_l0.bl T y_l
 have b_k3:=Z.bl T y_k
 clear o l d f C h
 refine Bh<|Aa (Ah (EY _) O ‹_› rfl) O ?_
 refine Aa (Au AR O ‹_›) O ?_
 refine Ac O<|Ak<|Ao ?_
 refine Bq (S:=Nat) (fun i=>[(2, .pointer (some ⟨R,0,none⟩)),(3, .pointer (some ⟨N,0,none⟩)),(4, .pointer (some ⟨A_r,0,none⟩)),(6,x),(43,v),(44, .int .i64 (ts.length:Int)),(45, .int .i64 (i:Int))]) (fun i w' =>i≤ts.length∧(∀t ∈ ts.take i,HX t.s H.s k=true)∧Below B j w' ∧w'.ownsRow B 3 1 x H.s.length ((H.s.set k (CB k (ts.take i))).map (Value.int .i64))) (fun i=>ts.length - i) (0) ⟨rfl,rfl,rfl,rfl,rfl,rfl,rfl,trivial⟩ ?_ ?_
 ·exact ⟨Nat.zero_le _,fun t X=>by simp at X,T,hx3⟩
 clear hx3 T b_l3 b_k3 hv3 h3
 rintro i w4 ⟨hi,hC,z,A⟩
 have hK4:=z
 have zK:=z.size
 have h4:=V.stay V (Nat.le_of_eq K.symm) z
 have l:=Z.bl z y_k
 have o:=b_l0.bl z y_l
 have d:=b_r0.bl z y_r
 have f:=hB0.trans (z.mono (by omega))
 obtain ⟨G,D⟩:∃G,G=H.s.set k (CB k (ts.take i)):=⟨_,rfl⟩
 have ls' :G.length=H.s.length:=by rw [D];exact length_set
 rw [← D,← ls'] at A
 have gk:G.getD k default=CB k (ts.take i):=by rw [D];exact CO hk _
 have J:k<G.length:=by omega
 refine Af<|B3 O<|Ak<|An<|Aq O ?_ ?_
 ·intro g
  have L:i<ts.length:=by have:=AD g;omega
  obtain ⟨t,et,mt,k1,k2⟩:=Hi L
  have h_t:=h4.2 t mt
  have e1:ts.take (i+1)=ts.take i++[t]:=by rw [take_succ_eq_append_getElem L,← et]
  have gt:=gd t mt
  have js:CB k (ts.take (i+1))=CB k (ts.take i)+t.s.getD k default:=by rw [e1,Hk];simp [CB]
  have jl:=KY (k:=k) (ts:=ts.take i) fun u hu=>gd u (mem_of_mem_take hu)
  rw [length_take] at jl
  refine B0<|An<|Ao<|Af<|Aa (Ci AR O O h4.1 i O L) O<|Aa (Cq (cs:=[t.x,t.y]) (AT _) (AP _) O h4.1 O (by decide) (FA k1 k2)) O<|C1 (cs:=[t.x,t.y]) AY O O O O (fun _=>rfl) (h_t.one) ?_
  rintro A_x w5 eA_x b_x M zhn5
  have F:=(h_t.bs M).1
  have l:=l.bs M
  have d:=d.bs M
  have A:=AL A M
  have z:=z.trans (M.mono (by omega))
  have zK:=z.size
  have f:=bt f M
  have s:=AQ A
  refine Bh<|Be underlying33 O (AN _)<|Aa (Ah (AF _) O ‹_› rfl) O ?_
  refine Ac O<|Aa (Ah (AK _) O ‹_› rfl) O ?_
  refine Aj O O (VY t.x x t.s G k w5 F s J) ?_
  rintro _ w6 ⟨rfl,m⟩
  have F:=F.bs m
  have b_x:=b_x.bs m
  have l:=l.bs m
  have d:=d.bs m
  have A:=AL A m
  have z:=z.trans (m.mono (by omega))
  have zK:=z.size
  have f:=bt f m
  have s:=AQ A
  refine Aa (Ck O) O<|Ak<|Aq O ?_ ?_
  ·intro q
   have q:HX t.s H.s k=false:=by rw [D,NM] at q;simpa using q
   refine Af<|C8 O<|Az (Bv (cs:=[.slice none 0 0, .slice none 0 0]) O O O O O d O) ?_
   rintro Y ⟨d,y, -⟩
   have f:=f.grown y (AA f) (by rintro _ ⟨⟩;omega)
   refine Ab O<|Bu<|Bi<|Av<|Av<|Bi<|Av<|Bt O O O ‹_› underlying33 O O O ?_
   rw [N1 hA (by rw [Q,show (ts.all fun t=>HX t.s H.s ((k:Int)).toNat)=false from List.all_eq_false.2 ⟨t,mt,by rw [Int.toNat_natCast,q];decide⟩];rfl)]
   exact ⟨f,CC (by decide)⟩
  intro q
  have q:HX t.s H.s k=true:=by rw [D,NM] at q;simpa using q
  have lk:t.s.length=H.s.length:=by
   unfold HX at q
   simp only [Bool.and_eq_true,decide_eq_true_eq] at q
   exact q.1.1
  have hkt:k<t.s.length:=by omega
  refine B0<|Cw.tail 11 AS (by kernel_rfl)<|Bg O<|Ad (fun j c=>Ah (AK _) O (AO.bs ‹_› c) O) O ?_
  refine Ad (fun j c=>Ay AC O O (Sl.bs s c) k O J) O<|Ad (fun j c=>(Bj (AK _) O (Sl.bs s c) J).as (cngA (Value.int .i64) gk)) O<|Ad (fun j c=>Cd underlying33 O (AN _)) O<|Ad (fun j c=>Ah (AF _) O (AO.bs ‹_› c) O) O ?_
  refine Ad (fun j c=>Ah (AK _) O (AO.bs ‹_› c) O) O ?_
  refine Ad (fun j c=>Ay AC O O (Sl.bs F c) k O hkt) O<|Ad (fun j c=>Bj (AK _) O (Sl.bs F c) hkt) O<|Ad (fun j c=>De O O (by omega)) O<|Ad (fun j c=>Ay AC O O (Sl.bs s c) k O J) O ?_
  refine Dc (fun w7 c=> ?_)
  have A:=AL A c
  have z:=z.trans (c.mono (by omega))
  have zK:=z.size
  refine Az (D3 (BA _) O O O A (by rw [length_map];exact J)) ?_
  rintro w8 ⟨hx8,y, -⟩
  rw [← map_set,D,set_set,← js,← D,ls'] at hx8
  have hC' :∀u ∈ ts.take (i+1),HX u.s H.s k=true:=fun u hu=>by
   rw [e1] at hu
   rcases List.mem_append.1 hu with h|h
   ·exact hC u h
   ·rw [List.mem_singleton.1 h];exact q
  have hK8:Below B j w8:=Below.grown z y (by omega) (fun b e=>(AG A b e).1)
  refine Bf<|Bn<|Ch<|B7 O (by omega)<|Ac O<|Bf ?_
  exact Ap (Pw.next (i+1) ⟨rfl,rfl,rfl,rfl,rfl,rfl,rfl,trivial⟩ (⟨L,hC',hK8,hx8⟩) (by omega))
 intro g
 have L:i=ts.length:=by have:=AB g;omega
 subst L
 rw [take_length] at hC D gk
 have eS:G=KZ ts k:=by rw [D];unfold KZ;rw [Q]
 have hAll:(ts.all fun t=>HX t.s (OY ts) k)=true:=List.all_eq_true.2 fun t X=>by rw [Q];exact hC t X
 have hT:∀t ∈ ts,k<t.s.length∧Shapes.ok t.s=true:=fun t X=>⟨by
  have q:=hC t X
  unfold HX at q
  simp only [Bool.and_eq_true,decide_eq_true_eq] at q
  have:=q.1.1
  omega,(BJ (IG g3 X)).1⟩
 have jl:=KY (k:=k) (ts:=ts) gd
 have s:=AQ A
 refine Bp<|Al<|Al<|Bd<|Ap<|B8<|An<|Af<|Ac O<|Aj O O (EL x G w4 s) ?_
 rintro _ w6 ⟨rfl,m⟩
 have h6:=h4.bs m
 have l:=l.bs m
 have o:=o.bs m
 have d:=d.bs m
 have A:=AL A m
 have z:=z.trans (m.mono (by omega))
 have zK:=z.size
 have f:=bt f m
 have s:=AQ A
 refine Aa (Ck O) O<|Ak<|Aq O ?_ ?_
 ·intro q
  have q:Shapes.ok G=false:=by simpa using q
  refine Af<|C8 O<|Az (Bv (cs:=[.slice none 0 0, .slice none 0 0]) O O O O O d O) ?_
  rintro Y ⟨d,y, -⟩
  have f:=f.grown y (AA f) (by rintro _ ⟨⟩;omega)
  refine Ab O<|Bu<|Bt O O O ‹_› underlying33 O O O ?_
  rw [N1 hA (by rw [Int.toNat_natCast,← eS,q,Bool.and_false])]
  exact ⟨f,CC (by decide)⟩
 intro q
 have okS:Shapes.ok G=true:=by simpa using q
 have S:=(Shapes.ok_iff G).1 okS
 have hE:Lb ts (k:Int)=0:=by unfold Lb;rw [hA,Int.toNat_natCast,hAll,← eS,okS];rfl
 have eL:Mk ts k=(range (Shapes.size G).toNat).map fun i:Nat=>jv k ts (Shapes.place G (i:Int)):=by unfold Mk;rw [← eS]
 rw [hE,Int.toNat_natCast,eL,← eS]
 refine Co<|Ac O<|Aa (Ef (vs:=[]) (us:=[.pointer (some ⟨N,0,none⟩), .pointer (some ⟨R,0,none⟩)]) O O) O<|Aj O O (OH x G 227 [.pointer (some ⟨N,0,none⟩), .pointer (some ⟨R,0,none⟩)] (fun i=>jv k ts (Shapes.place G (i:Int))) _ s okS (fun i a w' hb _ ha=>V1 N R k v ts (Shapes.place G i) a w' (l.bs hb) (o.bs hb) (h6.bs hb) (by omega) hT (by rw [Shapes.place_length];exact J) (by rw [Shapes.place_length];exact S.1.2) (gk ▸ Shapes.inn_at (Shapes.place_in (by omega) S.2.1) (k:=k) J) (by omega) ha)) ?_
 rintro _ w ⟨p,x1,x2,rfl,hm⟩
 have hm:=hm.k
 have zw6:=p.size
 have d:=d.bs p
 have f:=bt f p
 have q_r:A_r<w6.heap.size:=by omega
 refine Aa (As (i:=0) O O) O<|Aa (As (i:=1) O O) O<|Az (Bv (cs:=[x1,x2]) O O O O hm.at.one d O) ?_
 rintro w5 ⟨b_r5,y, -⟩
 have hB5:=f.grown y (AA f) (by rintro _ ⟨⟩;omega)
 refine Ab O<|Bc<|Bt O O O ‹_› underlying33 O O O ?_
 have zz:=AA f
 exact ⟨hB5,x1,x2,rfl,fun h=>absurd rfl h,fun _=>⟨(Hm hm.row y q_r).mono (by omega),(Hm hm.col y q_r).mono (by omega),hm.apart⟩⟩
end Go.Proofs.YtmipoeanpnnjoaaGreatDoor

namespace Go.Proofs.YtmipoeanpnnjoaaGreatDoor
open Go Go.Dd Go.RowKit List
set_option maxRecDepth 100000
theorem Ph {s:List Int} {l:List (BitVec 32)} (h:tok s l=true):Shapes.ok s=true∧l.length=(Shapes.prod s).toNat:=by
 obtain ⟨a,b⟩:=BJ h
 exact ⟨a,by rw [b,Shapes.size_ok a]⟩
theorem WC {s p:List Int} {l:List (BitVec 32)} (h:tok s l=true) (a:Shapes.inn s p=true):Mo s l p=pl s l p:=by
 unfold Mo Shapes.index pl
 rw [(BJ h).1,a,h];rfl
theorem Kc {s:List Int} {k:Nat} (h:k<s.length) (c:Int):s.set k c=s.take k++c::s.drop (k+1):=List.set_eq_take_append_cons_drop.trans (if_pos h)
theorem FQ {s:List Int} {k:Nat} (h:k<s.length):s.set k (s.getD k default)=s:=by
 have:s[k]=s.getD k default:=by simp [h]
 rw [← this];exact set_getElem_self h
theorem UZ {s p:List Int} {k:Nat} (h:k<s.length) {c d:Int} (l:Shapes.inn (s.set k c) p=true) (j:p.getD k default<d):Shapes.inn (s.set k d) p=true:=by
 obtain ⟨b,f⟩:=Shapes.inn_iff.1 l
 rw [length_set] at b f
 refine Shapes.inn_iff.2 ⟨by rw [length_set];exact b,fun i g=> ?_⟩
 rw [length_set] at g
 have a:=f i g
 by_cases e:i=k
 ·subst e
  rw [CO h]
  exact ⟨a.1,j⟩
 ·have e1:∀c:Int,(s.set k c).getD i default=s.getD i default:=fun c=>by
   rw [getD_eq_getElem?_getD,getElem?_set_ne (by omega),getD_eq_getElem?_getD]
  rw [e1] at a ⊢
  exact a
theorem JU {a b:List Int} {k:Nat} (h:k<b.length):HX a b k=true↔a=b.set k (a.getD k default):=by
 unfold HX
 simp only [Bool.and_eq_true,decide_eq_true_eq]
 constructor
 ·rintro ⟨⟨j,f⟩,g⟩
  rw [Kc h,← f,← g]
  exact GV (by omega)
 ·intro e
  have d:(b.take k).length=k:=by rw [length_take];omega
  obtain ⟨c,i⟩:∃c,c=a.getD k default:=⟨_,rfl⟩
  rw [← i] at e
  refine ⟨⟨by rw [e,length_set], ?_⟩, ?_⟩
  ·rw [e,Kc h,take_append_of_le_length (by omega),take_of_length_le (by omega)]
  ·rw [e,Kc h,drop_append,drop_of_length_le (by omega),d,show k+1 - k=1 by omega];rfl
structure Jo (k:Nat) (s:List Int) (ts:List T4):Prop where
 few:1≤ts.length∧ts.length≤4
 one:OY ts=s
 toks:∀t ∈ ts,tok t.s t.l=true
 hk:k<s.length
 als:∀t ∈ ts,t.s=s.set k (t.s.getD k default)
 oks:Shapes.ok (s.set k (CB k ts))=true
theorem QT {ts:List T4} {k:Nat}:Lb ts (k:Int)=0↔Jo k (OY ts) ts:=by
 constructor
 ·intro h
  have b:K8 ts (k:Int)=false:=by
   cases hc:K8 ts (k:Int) with
   |false=>rfl
   |true=>rw [GK hc] at h;cases h
  have c:((ts.all fun t=>HX t.s (OY ts) (k:Int).toNat) && Shapes.ok (KZ ts (k:Int).toNat))=true:=by
   cases hc:((ts.all fun t=>HX t.s (OY ts) (k:Int).toNat) && Shapes.ok (KZ ts (k:Int).toNat)) with
   |true=>rfl
   |false=>rw [N1 b hc] at h;cases h
  rw [Int.toNat_natCast,Bool.and_eq_true,all_eq_true] at c
  simp only [K8,Bool.or_eq_false_iff,decide_eq_false_iff_not] at b
  obtain ⟨⟨⟨⟨i,j⟩,e⟩,g⟩,l⟩:=b
  have d:k<(OY ts).length:=by omega
  exact ⟨by omega,rfl,fun t a=>IG e a,d,fun t a=>(JU d).1 (c.1 t a),c.2⟩
 ·intro J
  have f:H1 ts=false:=by
   cases hc:H1 ts with
   |false=>rfl
   |true=>
    obtain ⟨t,a,h⟩:=List.any_eq_true.1 hc
    rw [J.toks t a] at h;cases h
  have b:K8 ts (k:Int)=false:=by
   have:=J.few
   have:=J.hk
   unfold K8
   rw [f,decide_eq_false (by omega),decide_eq_false (by omega),decide_eq_false (by omega),decide_eq_false (by omega)];rfl
  unfold Lb
  rw [b,Int.toNat_natCast,List.all_eq_true.2 fun t a=>(JU J.hk).2 (J.als t a),show Shapes.ok (KZ ts k)=true from J.oks];rfl
theorem Jo.dim {k:Nat} {s:List Int} {ts:List T4} (J:Jo k s ts) {t:T4} (b:t ∈ ts):1≤t.s.getD k default∧t.s.getD k default≤64∧k<t.s.length:=by
 have h:=J.als t b
 have a:k<t.s.length:=by rw [h,length_set];exact J.hk
 have:=Iz ((Shapes.ok_iff t.s).1 (BJ (J.toks t b)).1).2.1 a
 exact ⟨this.1,this.2,a⟩
theorem Jo.S {k:Nat} {s:List Int} {ts:List T4} (J:Jo k s ts):KZ ts k=s.set k (CB k ts):=by unfold KZ;rw [J.one]
theorem Jo.L {k:Nat} {s:List Int} {ts:List T4} (J:Jo k s ts):Mk ts k=Go.Dd.mk (s.set k (CB k ts)) (jv k ts):=by
 unfold Mk Go.Dd.mk
 rw [J.S,Shapes.size_ok J.oks]
theorem Jo.good {k:Nat} {s:List Int} {ts:List T4} (J:Jo k s ts):Shapes.good (s.set k (CB k ts)):=((Shapes.ok_iff _).1 J.oks).2.1
theorem Jo.at {k:Nat} {s p:List Int} {ts:List T4} (J:Jo k s ts) (a:Shapes.inn (s.set k (CB k ts)) p=true):pl (KZ ts k) (Mk ts k) p=jv k ts p:=by
 rw [J.S,J.L];exact Wm J.good a

instance:Inhabited T4:=⟨⟨.slice none 0 0, .slice none 0 0,[],[]⟩⟩
structure LI (w:World) (v:Value) (ps:List (Value×List Int)):Prop where
 sl:BS (fun p:Value×List Int=>p.1) w v ps
 each:∀p ∈ ps,BS (Value.int .i64) w p.1 p.2
theorem LI.bs {w a:World} {v:Value} {ps:List (Value×List Int)} (h:LI w v ps) (g:Below w.heap.size w a):LI a v ps:=⟨h.sl.bs g,fun p b=>(h.each p b).bs g⟩
abbrev BE (ps:List (Value×List Int)):List (List Int):=ps.map (·.2)
def Ms (k:Nat) (s x:List Int):Option (List Int):=if x.length=s.length∧k<s.length∧(∀m,m<s.length→m≠k→s.getD m default=x.getD m default) then some (s.set k (s.getD k default+x.getD k default)) else none
def IH (k:Nat):List Int→List (List Int)→Option (List Int)
 |s,[]=>some s
 |s,x::r=>match Ms k s x with
  |some s' =>IH k s' r
  |none=>none
theorem Yr {s:List Int} (h:Shapes.ok s=true) {i:Nat} (a:i<s.length):1≤s.getD i default∧s.getD i default≤64:=by
 rw [getD_eq_getElem?_getD,getElem?_eq_getElem a]
 exact ((Shapes.ok_iff s).1 h).2.1 _ (getElem_mem a)
end Go.Proofs.YtmipoeanpnnjoaaGreatDoor

namespace Go.Proofs.YtmipoeanpnnjoaaGreatDoor
open Go Go.Dd Go.RowKit List Go.Proofs.Tryz
set_option maxRecDepth 100000
def QU (l:List (List Int)) (al:Int):Bool:=decide (l.length<1)||decide (4<l.length)||l.any (fun s=> !Shapes.ok s)||decide (al<0)||decide (((l.headD []).length:Int)≤al)
def UA (l:List (List Int)) (al:Int):Option (List Int):=IH al.toNat (l.headD []) l.tail
def Y0:Option (List Int)→Int
 |some s=>if Shapes.ok s then 0 else 10
 |none=>10
def Mt (l:List (List Int)) (al:Int):Int:=if QU l al then 1 else Y0 (UA l al)
theorem Ke (v:Value) (ps:List (Value×List Int)) (Q:Int) (W:World) (h:LI W v ps):
  AM prog 151 [v, .int .i64 Q] W (fun r V=>Below W.heap.size W V∧∃x s,r= .tuple #[x, .int .i64 (Mt (BE ps) Q)]∧BS (Value.int .i64) V x s∧(Mt (BE ps) Q=0→UA (BE ps) Q=some s)):=by
 have o:=Below.refl W.heap.size W
 have s_v:=h.sl
 have lv:ps.length≤9223372036854775807:=s_v.le
 obtain ⟨E,hE⟩:∃E,E=Mt (BE ps) Q:=⟨_,rfl⟩
 rw [← hE]
 have li:(BE ps).length=ps.length:=length_map ..
 refine Bb (n:=100) func151 O<|Af<|Ab O<|Ab O<|Bh<|Ac O<|Aa (Au BB O ‹_›) O ?_
 refine B3 O<|Ac O ?_
 refine Cc 13 O ?_ ?_
 ·intro g
  have g:ps.length<1:=by have:=AD g;omega
  refine Ae (dj:=13) O O O O<|Ae (dj:=13) O O O O<|Ae (dj:=13) O O O O<|B4 O<|Ak<|Bz O<|Af<|Ab O<|Ab O<|Bu<|Bx O O O ?_
  have e1:E=1:=by
   rw [hE]
   unfold Mt
   rw [if_pos (by unfold QU;rw [li,decide_eq_true g];rfl)]
  rw [e1]
  exact ⟨o, .slice none 0 0,[],rfl,C0 _ _,fun h=>by cases h⟩
 intro g1
 have g1:¬ps.length<1:=by have:=AB g1;omega
 refine Ag (dj:=13) O O<|Ac O<|Ag (dj:=13) O O<|Aa (Au BB O ‹_›) O ?_
 refine Ag (dj:=13) O O<|Aa (Dr O O) O<|Cn O<|Ak<|Aq O ?_ ?_
 ·intro g
  have g:4<ps.length:=by have:=AD g;omega
  refine Af<|Ab O<|Ab O<|Bu<|Bx O O O ?_
  have e1:E=1:=by
   rw [hE]
   unfold Mt
   rw [if_pos (by unfold QU;rw [li,decide_eq_true g];simp)]
  rw [e1]
  exact ⟨o, .slice none 0 0,[],rfl,C0 _ _,fun h=>by cases h⟩
 intro g2
 have g2:¬4<ps.length:=by have:=AB g2;omega
 refine B0<|An<|Af<|Ab O<|Ak<|Ao ?_
 refine Bq (S:=Nat) (fun i=>[(0,v),(1, .int .i64 Q),(6, .int .i64 (i:Int))]) (fun i V=>i≤ps.length∧(∀p ∈ ps.take i,Shapes.ok p.2=true)∧Below W.heap.size W V) (fun i=>ps.length - i) (0) ⟨rfl,rfl,rfl,trivial⟩ ?_ ?_
 ·exact ⟨Nat.zero_le _,fun p N=>by simp at N,Below.refl _ _⟩
 rintro i A ⟨hi,L,o⟩
 have w:=s_v.bs o
 refine An<|Af<|Ac O<|Ac O<|Aa (Au BB O ‹_›) O ?_
 refine B3 O<|Ak<|Aq O ?_ ?_
 ·intro g
  have d:i<ps.length:=by have:=AD g;omega
  obtain ⟨p,N⟩:∃p,p=ps[i]:=⟨_,rfl⟩
  have pm:p ∈ ps:=N ▸ getElem_mem d
  have s_p:=(h.each p pm).bs o
  have ep:(ps.getD i default).1=p.1:=by rw [getD_eq_getElem?_getD,getElem?_eq_getElem d,← N];rfl
  refine B0<|An<|Ao<|Af<|Ac O<|Ac O<|Aa (Ay BB O O w i O d) O<|Aa (Ex.as (Bj (AF _) O w d) ep) O<|Aj O O (CV p.1 p.2 A s_p) ?_
  rintro _ w2 ⟨rfl,hn⟩
  have hB2:=bt o hn
  refine Aa (Ck O) O<|Ak<|Aq O ?_ ?_
  ·intro U
   have U:Shapes.ok p.2=false:=by simpa using U
   refine Af<|Ab O<|Ab O<|Bc<|Bi<|Av<|Av<|Bi<|Av<|Bx O O O ?_
   have e1:E=1:=by
    rw [hE]
    unfold Mt
    rw [if_pos (by unfold QU;rw [show (BE ps).any (fun s=> !Shapes.ok s)=true from List.any_eq_true.2 ⟨p.2,mem_map_of_mem pm,by rw [U];rfl⟩];simp)]
   rw [e1]
   exact ⟨hB2, .slice none 0 0,[],rfl,C0 _ _,fun h=>by cases h⟩
  intro U
  have U:Shapes.ok p.2=true:=by simpa using U
  refine Cp<|Bn<|Ch<|Ac O<|B7 O (by omega)<|Ab O<|Bf ?_
  have hok' :∀q ∈ ps.take (i+1),Shapes.ok q.2=true:=fun q c=>by
   rw [take_succ_eq_append_getElem d] at c
   rcases List.mem_append.1 c with c|c
   ·exact L q c
   ·rw [List.mem_singleton.1 c,← N];exact U
  exact Ap (Pw.next (i+1) ⟨rfl,rfl,rfl,trivial⟩ (⟨d,hok',hB2⟩) (by omega))
 intro g
 have d:i=ps.length:=by have:=AB g;omega
 rw [d,take_length] at L
 clear g hi d
 have l0:0<ps.length:=by omega
 obtain ⟨F,hp0⟩:∃p,p=ps[0]:=⟨_,rfl⟩
 have pm0:F ∈ ps:=hp0 ▸ getElem_mem l0
 have s_p0:=(h.each F pm0).bs o
 have ep0:(ps.getD 0 default).1=F.1:=by rw [getD_eq_getElem?_getD,getElem?_eq_getElem l0,← hp0];rfl
 have eh:(BE ps).headD []=F.2:=by
  rw [hp0]
  match ps,l0 with
  |a::l,_=>rfl
 have ok0:=L F pm0
 have Xk:=((Shapes.ok_iff F.2).1 ok0).1
 refine Bp<|Al<|Al<|Bd<|Ap<|B8<|An<|Af<|Ac O<|B3 O<|Ac O ?_
 refine Cc 32 O ?_ ?_
 ·intro g
  have g:=AD g
  refine Ae (dj:=32) O O O O<|Ae (dj:=32) O O O O<|Ae (dj:=32) O O O O<|Ae (dj:=32) O O O O<|Ae (dj:=32) O O O O<|Ae (dj:=32) O O O O<|B4 O<|Ak<|Bz O<|Af<|Ab O<|Ab O<|Bu<|Bx O O O ?_
  have e1:E=1:=by
   rw [hE]
   unfold Mt
   rw [if_pos (by unfold QU;rw [decide_eq_true g];simp)]
  rw [e1]
  exact ⟨o, .slice none 0 0,[],rfl,C0 _ _,fun h=>by cases h⟩
 intro U
 have U:¬Q<0:=AB U
 refine Ag (dj:=32) O O<|Ac O<|Ag (dj:=32) O O<|Ac O<|Ag (dj:=32) O O<|Aa (Ay BB O O w 0 O l0) O<|Ag (dj:=32) O O<|Aa (Ex.as (Bj (AF _) O w l0) ep0) O<|Ag (dj:=32) O O<|Aa (Au AC O ‹_›) O ?_
 refine Ag (dj:=32) O O<|Aa (Ds O O) O<|Cn O<|Ak<|Aq O ?_ ?_
 ·intro g
  have g:=AD g
  refine Af<|Ab O<|Ab O<|Bu<|Bx O O O ?_
  have e1:E=1:=by
   rw [hE]
   unfold Mt
   rw [if_pos (by unfold QU;rw [eh,decide_eq_true (show (F.2.length:Int)≤Q by omega)];simp)]
  rw [e1]
  exact ⟨o, .slice none 0 0,[],rfl,C0 _ _,fun h=>by cases h⟩
 intro g4
 have g4:Q<(F.2.length:Int):=by have:=AB g4;omega
 obtain ⟨k,rfl⟩:∃k:Nat,Q=(k:Int):=⟨Q.toNat,by omega⟩
 have hk:k<F.2.length:=by omega
 have hA:QU (BE ps) (k:Int)=false:=by
  unfold QU
  rw [li,eh,decide_eq_false g1,decide_eq_false g2,decide_eq_false U,decide_eq_false (show ¬(F.2.length:Int)≤(k:Int) by omega)]
  rw [List.any_eq_false.2 fun s hs=>by
   obtain ⟨p,N,rfl⟩:=List.mem_map.1 hs
   rw [L p N];decide]
  rfl
 obtain ⟨R,hR⟩:∃R,R=UA (BE ps) (k:Int):=⟨_,rfl⟩
 have hR2:IH k F.2 ((BE ps).drop 1)=R:=by
  rw [hR]
  unfold UA
  rw [eh,Int.toNat_natCast,drop_one]
 have Y:E=Y0 R:=by
  rw [hE,hR]
  unfold Mt
  rw [hA];rfl
 rw [← hR]
 clear hR hE hA eh
 refine Co<|Ac O<|Aa (Ay BB O O w 0 O l0) O<|Aa (Ex.as (Bj (AF _) O w l0) ep0) O<|Bk (Dp (base:=W.heap.size) AC DI O (by decide) O O (World.ownsRow_nil _ _ _ _) s_p0 (DE (fun _=>rfl) _) (by omega) (by omega) o.size) O ?_
 rintro x0 w2 ⟨f,hn, -⟩
 rw [nil_append,Nat.zero_add] at f
 have o:=o.trans hn
 refine Ab O<|Bh<|Ab O<|Ak<|Ao ?_
 refine Bq (S:=(Nat×Value×List Int)) (fun z=>[(0,v),(1, .int .i64 (k:Int)),(7,z.2.1),(8, .int .i64 (z.1:Int))]) (fun z V=>1≤z.1∧z.1≤ps.length∧V.ownsRow W.heap.size 3 1 z.2.1 z.2.2.length (z.2.2.map (Value.int .i64))∧z.2.2.length=F.2.length∧(0≤z.2.2.getD k default∧z.2.2.getD k default≤64*(z.1:Int))∧IH k z.2.2 ((BE ps).drop z.1)=R∧Below W.heap.size W V) (fun z=>ps.length - z.1) ((1,x0,F.2)) ⟨rfl,rfl,rfl,rfl,trivial⟩ ?_ ?_
 ·have:=Yr ok0 hk
  exact ⟨AX _,l0,f,rfl,by simp only;omega,hR2,o⟩
 rintro ⟨i,x,s⟩ w3 ⟨h1,hi,f,ls,hs,K,o⟩
 replace h1:1≤i:=h1
 replace hi:i≤ps.length:=hi
 replace f:w3.ownsRow W.heap.size 3 1 x s.length (s.map (Value.int .i64)):=f
 replace ls:s.length=F.2.length:=ls
 replace hs:0≤s.getD k default∧s.getD k default≤64*(i:Int):=hs
 replace K:IH k s ((BE ps).drop i)=R:=K
 have T:=s_v.bs o
 have G:=AQ f
 refine An<|Af<|Ac O<|Ac O<|Aa (Au BB O ‹_›) O ?_
 refine B3 O<|Ak<|Aq O ?_ ?_
 ·intro g
  have d:i<ps.length:=by have:=AD g;omega
  obtain ⟨p,N⟩:∃p,p=ps[i]:=⟨_,rfl⟩
  have pm:p ∈ ps:=N ▸ getElem_mem d
  have s_p:=(h.each p pm).bs o
  have okp:=L p pm
  have ep:(ps.getD i default).1=p.1:=by rw [getD_eq_getElem?_getD,getElem?_eq_getElem d,← N];rfl
  have ed:(BE ps).drop i=p.2::(BE ps).drop (i+1):=by
   rw [drop_eq_getElem_cons (by rw [li];exact d)]
   congr 1
   rw [N];exact getElem_map ..
  rw [ed] at K
  have hno:Ms k s p.2=none→E=10:=fun hn=>by
   unfold IH at K
   rw [hn] at K
   rw [Y,← K]
   rfl
  refine B0<|An<|Ao<|An<|Af<|Ac O<|Ac O<|Aa (Ay BB O O T i O d) O<|Aa (Ex.as (Bj (AF _) O T d) ep) O<|Aa (Au AC O ‹_›) O ?_
  refine Ac O<|Aa (Au AC O ‹_›) O ?_
  refine Aa (Cs O O) O<|Ak<|Aq O ?_ ?_
  ·intro B
   have B:¬p.2.length=s.length:=fun e=>by rw [e] at B;simp at B
   have M:=hno (by unfold Ms;rw [if_neg fun h=>B h.1])
   refine Af<|Ab O<|Ab O<|Bu<|Bi<|Av<|Av<|Bi<|Av<|Bx O O O ?_
   rw [M]
   exact ⟨o, .slice none 0 0,[],rfl,C0 _ _,fun h=>by cases h⟩
  intro B
  have B:p.2.length=s.length:=by simp at B;omega
  refine B0<|An<|Af<|Ab O<|Ak<|Ao ?_
  refine Bq (S:=Nat) (fun m=>[(0,v),(1, .int .i64 (k:Int)),(7,x),(8, .int .i64 (i:Int)),(9, .int .i64 (m:Int))]) (fun m V=>m≤s.length∧(∀j,j<m→j≠k→s.getD j default=p.2.getD j default)∧V.ownsRow W.heap.size 3 1 x s.length (s.map (Value.int .i64))∧Below w3.heap.size w3 V) (fun m=>s.length - m) (0) ⟨rfl,rfl,rfl,rfl,rfl,trivial⟩ ?_ ?_
  ·exact ⟨Nat.zero_le _,fun j hj=>by omega,f,Below.refl _ _⟩
  rintro m w4 ⟨hm,hall,f,y⟩
  have hBW:=bt o y
  have D:=T.bs y
  have s_p4:=s_p.bs y
  have G:=AQ f
  refine An<|Af<|Ac O<|Ac O<|Aa (Au AC O ‹_›) O ?_
  refine B3 O<|Ak<|Aq O ?_ ?_
  ·intro g6
   have H:m<s.length:=by have:=AD g6;omega
   have hmp:m<p.2.length:=by omega
   refine B0<|An<|Ao<|An<|Cv AS (by kernel_rfl)<|Bg O<|Bg O<|Ad (fun A c=>Cs O O) O<|Bg O ?_
   refine Dm 67 O ?_ ?_
   ·intro g7
    have g7:¬m=k:=fun e=>by rw [e] at g7;simp at g7
    refine Ba (dj:=67) O O<|Bg O<|Ba (dj:=67) O O<|Bg O<|Ba (dj:=67) O O<|Ad (fun A c=>Ay BB O O (D.bs c) i O d) O<|Ba (dj:=67) O O<|Ad (fun A c=>Ex.as (Bj (AF _) O (D.bs c) d) ep) O<|Ba (dj:=67) O O<|Bg O<|Ba (dj:=67) O O<|Ad (fun A c=>Ay AC O O (Sl.bs ‹_› c) _ O (by omega)) O ?_
    refine Ba (dj:=67) O O<|Ad (fun A c=>Bj (AK _) O (Sl.bs ‹_› c) (by omega)) O ?_
    refine Ba (dj:=67) O O<|Bg O<|Ba (dj:=67) O O<|Bg O<|Ba (dj:=67) O O<|Ad (fun A c=>Ay AC O O (Sl.bs ‹_› c) _ O (by omega)) O ?_
    refine Ba (dj:=67) O O<|Ad (fun A c=>Bj (AK _) O (Sl.bs ‹_› c) (by omega)) O ?_
    refine Ba (dj:=67) O O<|Ad (fun A c=>Cs O O) O<|Ad (fun A c=>Ct O O) O ?_
    refine Cr (fun w5 c=> ?_)
    refine Ap<|B8 ?_
    have I:=bt y c
    have t:=AL f c
    refine Aq O ?_ ?_
    ·intro Z
     have Z:¬s.getD m default=p.2.getD m default:=fun e=>by rw [e] at Z;simp at Z
     have M:=hno (by unfold Ms;rw [if_neg fun h=>Z (h.2.2 m H g7)])
     refine Af<|Ab O<|Ab O<|Bc<|Bi<|Av<|Av<|Bi<|Av<|Bi<|Av<|Av<|Bi<|Av<|Bx O O O ?_
     rw [M]
     exact ⟨bt o I, .slice none 0 0,[],rfl,C0 _ _,fun h=>by cases h⟩
    intro Z
    have Z:s.getD m default=p.2.getD m default:=by simp at Z;simpa using Z.symm
    refine Cp<|Bn<|Ch<|Ac O<|B7 O (by omega)<|Ab O<|Bf ?_
    have C:∀j,j<m+1→j≠k→s.getD j default=p.2.getD j default:=fun j hj X=>
     (Nat.lt_succ_iff_lt_or_eq.1 hj).elim (fun h=>hall j h X) (fun h=>by rw [h];exact Z)
    exact Ap (Pw.next (m+1) ⟨rfl,rfl,rfl,rfl,rfl,trivial⟩ (⟨H,C,t,I⟩) (by omega))
   intro g7
   have g7:m=k:=by simp at g7;omega
   refine Ar (dj:=67) O O O O<|Ar (dj:=67) O O O O<|Ar (dj:=67) O O O O<|Ar (dj:=67) O O O O<|Ar (dj:=67) O O O O<|Ar (dj:=67) O O O O<|Ar (dj:=67) O O O O<|Ar (dj:=67) O O O O<|Ar (dj:=67) O O O O<|Ar (dj:=67) O O O O<|Ar (dj:=67) O O O O<|Ar (dj:=67) O O O O<|Ad (fun A c=>Cz O O) O ?_
   refine Cr (fun w5 c=> ?_)
   refine Ap<|B8<|D6 O<|Cp<|Bn<|Ch<|Ac O<|B7 O (by omega)<|Ab O<|Bf ?_
   have I:=bt y c
   have t:=AL f c
   have C:∀j,j<m+1→j≠k→s.getD j default=p.2.getD j default:=fun j hj X=>
    (Nat.lt_succ_iff_lt_or_eq.1 hj).elim (fun h=>hall j h X) (fun h=>absurd (h.trans g7) X)
   exact Ap (Pw.next (m+1) ⟨rfl,rfl,rfl,rfl,rfl,trivial⟩ (⟨H,C,t,I⟩) (by omega))
  intro g6
  have H:m=s.length:=by have:=AB g6;omega
  rw [H] at hall
  clear g6 hm H
  have J:k<s.length:=by omega
  have hkp:k<p.2.length:=by omega
  have e1:Ms k s p.2=some (s.set k (s.getD k default+p.2.getD k default)):=by unfold Ms;rw [if_pos ⟨B,J,hall⟩]
  have hJ2:IH k (s.set k (s.getD k default+p.2.getD k default)) ((BE ps).drop (i+1))=R:=by
   unfold IH at K
   rw [e1] at K
   exact K
  have dk:=Yr okp hkp
  refine Bp<|Al<|Al<|Bd<|Ap<|B8<|Cw.tail 15 AS (by kernel_rfl)<|Bg O<|Bg O<|Bg O<|Bg O<|Ad (fun A c=>Ay AC O O (G.bs c) k O J) O<|Ad (fun A c=>Bj (AK _) O (G.bs c) J) O<|Bg O<|Bg O<|Ad (fun A c=>Ay BB O O (D.bs c) i O d) O<|Ad (fun A c=>Ex.as (Bj (AF _) O (D.bs c) d) ep) O<|Bg O<|Ad (fun A c=>Ay AC O O (s_p4.bs c) k O hkp) O<|Ad (fun A c=>Bj (AK _) O (s_p4.bs c) hkp) O<|Ad (fun A c=>De O O (by omega)) O<|Ad (fun A c=>Ay AC O O (G.bs c) k O J) O ?_
  refine Dc (fun w5 c=> ?_)
  have I:=bt y c
  have t:=AL f c
  refine Az (D3 (u:= .int .i64 (s.getD k default+p.2.getD k default)) (BA _) O O O t (by rw [length_map];exact J)) ?_
  rintro w6 ⟨o_x6,hg,hz⟩
  rw [← map_set] at o_x6
  have hBW5:=bt o I
  have hB6:=hBW5.grown hg hBW5.size (fun b e=>(AG t b e).1)
  refine Bf<|Bn<|Ch<|Ac O<|B7 O (by omega)<|Ab O<|Bf ?_
  exact Ap (Pw.next ((i+1,x,s.set k (s.getD k default+p.2.getD k default))) ⟨rfl,rfl,rfl,rfl,trivial⟩ (⟨by simp only;omega,d,by simp only [length_set];exact o_x6,by simp only [length_set];exact ls,by simp only;rw [show (s.set k (s.getD k default+p.2.getD k default)).getD k default=s.getD k default+p.2.getD k default by simp [J]];omega,hJ2,hB6⟩) (by simp only;omega))
 intro g
 have d:i=ps.length:=by have:=AB g;omega
 rw [d,drop_of_length_le (by rw [li];exact AX _)] at K
 have hRs:R=some s:=by rw [← K];rfl
 rw [hRs] at Y ⊢
 refine Bp<|Al<|Al<|Bd<|Ap<|B8<|An<|Af<|Ac O<|Aj O O (CV x s w3 G) ?_
 rintro _ w4 ⟨rfl,hn⟩
 have y:=bt o hn
 refine Aa (Ck O) O<|Ak<|Aq O ?_ ?_
 ·intro B
  have B:Shapes.ok s=false:=by simpa using B
  have M:E=10:=by rw [Y];show (if Shapes.ok s=true then (0:Int) else 10)=10;rw [B];rfl
  refine Af<|Ab O<|Ab O<|Bu<|Bx O O O ?_
  rw [M]
  exact ⟨y, .slice none 0 0,[],rfl,C0 _ _,fun h=>by cases h⟩
 intro B
 have B:Shapes.ok s=true:=by simpa using B
 have e0:E=0:=by rw [Y];show (if Shapes.ok s=true then (0:Int) else 10)=0;rw [B];rfl
 refine Co<|Ac O<|Ab O<|Ab O<|Bc<|Bx O O O ?_
 rw [e0]
 exact ⟨y,x,s,rfl,G.bs hn,fun _=>rfl⟩
end Go.Proofs.YtmipoeanpnnjoaaGreatDoor

namespace Go.Proofs.YtmipoeanpnnjoaaGreatDoor
open Go Go.Dd Go.RowKit List
set_option maxRecDepth 100000
theorem TW {a b:List Int} (h:a.length=b.length) (g:∀j,j<a.length→a.getD j default=b.getD j default):a=b:=by
 refine ext_getElem h fun i c d=> ?_
 simpa [c,d] using g i c
theorem Je {s:List Int} {k m:Nat} {c:Int} (h:m≠k):(s.set k c).getD m default=s.getD m default:=by
 rw [getD_eq_getElem?_getD,getElem?_set_ne (by omega),getD_eq_getElem?_getD]
theorem Ur {k:Nat} {s x:List Int} (a:k<s.length):HX x s k=true↔(x.length=s.length∧k<s.length∧∀m,m<s.length→m≠k→s.getD m default=x.getD m default):=by
 rw [JU a]
 constructor
 ·intro e
  have c:x.length=s.length:=by rw [e,length_set]
  refine ⟨c,a,fun m g b=> ?_⟩
  rw [e,Je b]
 ·rintro ⟨d,h,f⟩
  refine TW (by rw [length_set,d]) fun j i=> ?_
  by_cases e:j=k
  ·rw [e,CO a]
  ·rw [Je e,f j (by omega) e]
theorem Nz {k:Nat}:∀{ts:List T4} {s:List Int},k<s.length→IH k s (ts.map (·.s))=if ts.all (fun t=>HX t.s s k) then some (s.set k (s.getD k default+CB k ts)) else none
 |[],s,hk=>by
  show some s=_
  simp only [all_nil,if_true,CB,Int.add_zero]
  rw [FQ hk]
 |t::ts,s,hk=>by
  have a:=Nz (ts:=ts) (s:=s.set k (s.getD k default+t.s.getD k default)) (by rw [length_set];exact hk)
  rw [map_cons,IH,all_cons]
  by_cases h:HX t.s s k=true
  ·rw [h,Bool.true_and]
   have e:Ms k s t.s=some (s.set k (s.getD k default+t.s.getD k default)):=by unfold Ms;rw [if_pos ((Ur hk).1 h)]
   rw [e]
   show IH k _ _=_
   rw [a,CO hk,set_set,show s.getD k default+t.s.getD k default+CB k ts=s.getD k default+CB k (t::ts) by simp only [CB];omega]
   have e2:(ts.all fun u=>HX u.s (s.set k (s.getD k default+t.s.getD k default)) k)=ts.all fun u=>HX u.s s k:=by
    congr 1;funext u;exact NM _
   rw [e2]
  ·have h:HX t.s s k=false:=by simpa using h
   have e:Ms k s t.s=none:=by
    unfold Ms
    rw [if_neg fun g=>by rw [(Ur hk).2 g] at h;cases h]
   rw [e,h];rfl
theorem V4 {ts:List T4} (a:Int) (h:H1 ts=false):Mt (ts.map (·.s)) a=Lb ts a∧(Lb ts a=0→UA (ts.map (·.s)) a=some (KZ ts a.toNat)):=by
 have e1:(ts.map (·.s)).any (fun s=> !Shapes.ok s)=false:=List.any_eq_false.2 fun s hs=>by
  obtain ⟨t,m,rfl⟩:=List.mem_map.1 hs
  rw [(BJ (IG h m)).1];decide
 have e2:(ts.map (·.s)).headD []=OY ts:=by cases ts<;>rfl
 have c:QU (ts.map (·.s)) a=K8 ts a:=by unfold QU K8;rw [e1,e2,h,length_map]
 cases hA:K8 ts a with
 |true=>
  rw [hA] at c
  unfold Mt Lb
  rw [c,hA]
  exact ⟨rfl,fun h=>by cases h⟩
 |false=>
  rw [hA] at c
  simp only [K8,Bool.or_eq_false_iff,decide_eq_false_iff_not] at hA
  obtain ⟨⟨⟨⟨i,j⟩,p⟩,e⟩,n⟩:=hA
  obtain ⟨k,rfl⟩:∃k:Nat,a=(k:Int):=⟨a.toNat,by omega⟩
  have b:k<(OY ts).length:=by omega
  cases ts with
  |nil=>cases b
  |cons t r=>
   have b:k<t.s.length:=b
   have f:UA ((t::r).map (·.s)) (k:Int)=if r.all (fun u=>HX u.s t.s k) then some (KZ (t::r) k) else none:=Nz b
   have o:HX t.s t.s k=true:=(JU b).2 (FQ b).symm
   have d:K8 (t::r) (k:Int)=false:=by
    unfold K8
    rw [h,decide_eq_false i,decide_eq_false j,decide_eq_false e,decide_eq_false n];rfl
   have g:Mt ((t::r).map (·.s)) (k:Int)=Y0 (UA ((t::r).map (·.s)) (k:Int)):=by unfold Mt;rw [c];rfl
   have l:Lb (t::r) (k:Int)=if (r.all fun u=>HX u.s t.s k) && Shapes.ok (KZ (t::r) k) then 0 else 10:=by
    unfold Lb
    rw [d,Int.toNat_natCast,all_cons,show OY (t::r)=t.s from rfl,o,Bool.true_and];rfl
   rw [g,l,f,Int.toNat_natCast]
   cases r.all fun u=>HX u.s t.s k with
   |true=>exact ⟨rfl,fun _=>rfl⟩
   |false=>exact ⟨rfl,fun h=>by cases h⟩
def NO (ts:List T4) (k i j:Nat):Nat:=(Shapes.idx (KZ ts k) ((Shapes.place (ts.getD i default).s (j:Int)).set k ((Shapes.place (ts.getD i default).s (j:Int)).getD k default+CB k (ts.take i)))).toNat
theorem KX {k:Nat}:∀{ts:List T4},(∀t ∈ ts,0≤t.s.getD k default)→0≤CB k ts
 |[],_=>Int.le_refl 0
 |t::ts,h=>by
  have b:=h t (by simp)
  have c:=KX (ts:=ts) fun u a=>h u (by simp [a])
  show 0≤t.s.getD k default+CB k ts
  omega
theorem T1 {k:Nat}:∀{us:List T4} {vs:List T4} {t:T4} {q:List Int},(∀u ∈ us,0≤u.s.getD k default)→k<q.length→0≤q.getD k default→q.getD k default<t.s.getD k default→
  jv k (us++t::vs) (q.set k (q.getD k default+CB k us))=Mo t.s t.l q
 |[],vs,t,q,_,hk,h0,h1=>by
  simp only [CB,Int.add_zero,nil_append]
  rw [FQ hk]
  unfold jv
  rw [if_pos h1]
 |u::us,vs,t,q,hu,hk,h0,h1=>by
  have c:=hu u (by simp)
  have d:0≤CB k us:=KX fun v a=>hu v (by simp [a])
  have b:=T1 (us:=us) (vs:=vs) (t:=t) (q:=q) (fun v a=>hu v (by simp [a])) hk h0 h1
  rw [cons_append]
  unfold jv
  rw [CO hk,show CB k (u::us)=u.s.getD k default+CB k us from rfl,if_neg (by omega),set_set,show q.getD k default+(u.s.getD k default+CB k us) - u.s.getD k default=q.getD k default+CB k us by omega]
  exact b
theorem QR {k:Nat} {s:List Int}:∀{ts:List T4} {p:List Int},(∀t ∈ ts,t.s=s.set k (t.s.getD k default))→k<s.length→Shapes.inn (s.set k (CB k ts)) p=true→
  ∃i,∃o:i<ts.length,∃q,Shapes.inn ts[i].s q=true∧p=q.set k (q.getD k default+CB k (ts.take i))
 |[],p,_,hk,hp=>by
  have:=Shapes.inn_at hp (k:=k) (by rw [length_set];exact hk)
  rw [CO hk] at this
  simp only [CB] at this
  omega
 |t::ts,p,ha,hk,hp=>by
  have h:=Shapes.inn_at hp (k:=k) (by rw [length_set];exact hk)
  rw [CO hk,show CB k (t::ts)=t.s.getD k default+CB k ts from rfl] at h
  have d:=Shapes.inn_length hp
  rw [length_set] at d
  by_cases g:p.getD k default<t.s.getD k default
  ·refine ⟨0,by simp,p, ?_, ?_⟩
   ·show Shapes.inn t.s p=true
    rw [ha t (by simp)]
    exact UZ hk hp g
   ·simp only [take_zero,CB,Int.add_zero]
    rw [FQ (by omega)]
  ·have f:Shapes.inn (s.set k (CB k ts)) (p.set k (p.getD k default - t.s.getD k default))=true:=by
    obtain ⟨r,b⟩:=Shapes.inn_iff.1 hp
    refine Shapes.inn_iff.2 ⟨by rw [length_set,length_set];exact d,fun m c=> ?_⟩
    rw [length_set] at c
    by_cases e:m=k
    ·subst e
     rw [CO hk,CO (by omega)]
     omega
    ·have:=b m (by rw [length_set];exact c)
     rw [Je e] at this ⊢
     rw [Je e]
     exact this
   obtain ⟨i,o,q,b,a⟩:=QR (ts:=ts) (fun u j=>ha u (by simp [j])) hk f
   refine ⟨i+1,by simp only [length_cons];omega,q,b, ?_⟩
   have n:k<q.length:=by
    have:=cngA length a
    rw [length_set,length_set] at this
    omega
   have e1:=cngA (fun l:List Int=>l.getD k default) a
   simp only [CO n,CO (show k<p.length by omega)] at e1
   have e2:(p.set k (p.getD k default - t.s.getD k default)).set k (p.getD k default)=p:=by
    rw [set_set,FQ (by omega)]
   rw [← e2,a,set_set,take_succ_cons,show CB k (t::ts.take i)=t.s.getD k default+CB k (ts.take i) from rfl]
   congr 1
   omega
theorem Jo.each {k:Nat} {s:List Int} {ts:List T4} (J:Jo k s ts) {i:Nat} (n:i<ts.length) {j:Nat} (B:(j:Int)<Shapes.prod ts[i].s):
  Shapes.inn (KZ ts k) ((Shapes.place ts[i].s (j:Int)).set k ((Shapes.place ts[i].s (j:Int)).getD k default+CB k (ts.take i)))=true∧NO ts k i j<(Mk ts k).length∧(Mk ts k).getD (NO ts k i j) default=ts[i].l.getD j default:=by
 have c:=getElem_mem n
 have d:=J.dim c
 obtain ⟨x,E⟩:=Ph (J.toks _ c)
 have g:=((Shapes.ok_iff _).1 x).2.1
 obtain ⟨q,f⟩:∃q,q=Shapes.place ts[i].s (j:Int):=⟨_,rfl⟩
 have h:Shapes.inn ts[i].s q=true:=by rw [f];exact Shapes.place_in (by omega) g
 have C:=Shapes.inn_length h
 have r:=Shapes.inn_at h d.2.2
 have v:=J.hk
 have o:ts=ts.take i++ts[i]::ts.drop (i+1):=by
  rw [← drop_eq_getElem_cons n,take_append_drop]
 have l:∀u ∈ ts,0≤u.s.getD k default:=fun u b=>by have:=(J.dim b).1;omega
 have G:0≤CB k (ts.take i):=KX fun u b=>l u (mem_of_mem_take b)
 have H:0≤CB k (ts.drop (i+1)):=KX fun u b=>l u (mem_of_mem_drop b)
 have F:CB k ts=CB k (ts.take i)+(ts[i].s.getD k default+CB k (ts.drop (i+1))):=by
  conv=>lhs;rw [o,Hk]
  rfl
 have w:ts.getD i default=ts[i]:=by rw [getD_eq_getElem?_getD,getElem?_eq_getElem n];rfl
 have inn:Shapes.inn (s.set k (CB k ts)) (q.set k (q.getD k default+CB k (ts.take i)))=true:=by
  have D:ts[i].s.length=s.length:=by rw [J.als _ c,length_set]
  refine Shapes.inn_iff.2 ⟨by rw [length_set,length_set];omega,fun m y=> ?_⟩
  rw [length_set] at y
  by_cases e:m=k
  ·subst e
   rw [CO v,CO (by omega)]
   omega
  ·have:=Shapes.inn_at h (k:=m) (by omega)
   rw [J.als _ c,Je e] at this
   rw [Je e,Je e]
   exact this
 have lt:=Shapes.idx_lt J.good inn
 have z:(Mk ts k).length=(Shapes.prod (s.set k (CB k ts))).toNat:=by rw [J.L];exact I9 _ _
 have p:NO ts k i j=(Shapes.idx (s.set k (CB k ts)) (q.set k (q.getD k default+CB k (ts.take i)))).toNat:=by unfold NO;rw [w,← f,J.S]
 refine ⟨by rw [← f,J.S];exact inn,by rw [p,z];omega, ?_⟩
 have a:=J.at inn
 unfold pl at a
 rw [J.S] at a
 rw [p,a]
 have A:jv k ts (q.set k (q.getD k default+CB k (ts.take i)))=Mo ts[i].s ts[i].l q:=by
  have:=T1 (k:=k) (us:=ts.take i) (vs:=ts.drop (i+1)) (t:=ts[i]) (q:=q) (fun u b=>l u (mem_of_mem_take b)) (by omega) r.1 r.2
  rw [← o] at this
  exact this
 rw [A,WC (J.toks _ c) h]
 unfold pl
 rw [f,Shapes.idx_place (by omega) g,Int.emod_eq_of_lt (by omega) B,Int.toNat_natCast]
theorem Jo.onto {k:Nat} {s:List Int} {ts:List T4} (J:Jo k s ts) {n:Nat} (o:n<(Mk ts k).length):∃i,∃a:i<ts.length,∃j:Nat,(j:Int)<Shapes.prod ts[i].s∧NO ts k i j=n:=by
 have l:(Mk ts k).length=(Shapes.prod (s.set k (CB k ts))).toNat:=by rw [J.L];exact I9 _ _
 have d:=Shapes.place_in (i:=(n:Int)) (by omega) J.good
 obtain ⟨i,a,q,b,c⟩:=QR J.als J.hk d
 have e:=getElem_mem a
 obtain ⟨h,m⟩:=Ph (J.toks _ e)
 have g:=((Shapes.ok_iff _).1 h).2.1
 have lt:=Shapes.idx_lt g b
 have f:ts.getD i default=ts[i]:=by rw [getD_eq_getElem?_getD,getElem?_eq_getElem a];rfl
 refine ⟨i,a,(Shapes.idx ts[i].s q).toNat,by omega, ?_⟩
 unfold NO
 rw [f,Int.toNat_of_nonneg lt.1,Shapes.place_idx g b,← c,J.S,Shapes.idx_place (by omega) J.good,Int.emod_eq_of_lt (by omega) (by omega),Int.toNat_natCast]
structure K1 (ts:List T4) (k i j:Nat) (m:List (BitVec 32)):Prop where
 len:m.length=(Mk ts k).length
 old:∀(a b:Nat),a<i→(b:Int)<Shapes.prod (ts.getD a default).s→m.getD (NO ts k a b) default=(Mk ts k).getD (NO ts k a b) default
 now:∀b,b<j→m.getD (NO ts k i b) default=(Mk ts k).getD (NO ts k i b) default
theorem IV {L m:List (BitVec 32)} {q n:Nat} (a:q<m.length) (h:m.getD n default=L.getD n default∨n=q):(m.set q (L.getD q default)).getD n default=L.getD n default:=by
 by_cases e:n=q
 ·rw [e];exact JM a
 ·rw [getD_eq_getElem?_getD,getElem?_set_ne (by omega),← getD_eq_getElem?_getD]
  exact h.resolve_right e
theorem K1.set {ts:List T4} {k i j:Nat} {m:List (BitVec 32)} (h:K1 ts k i j m) (g:NO ts k i j<(Mk ts k).length):K1 ts k i (j+1) (m.set (NO ts k i j) ((Mk ts k).getD (NO ts k i j) default)):=by
 have c:NO ts k i j<m.length:=by rw [h.len];exact g
 refine ⟨by rw [length_set];exact h.len,fun a b f d=>IV c (.inl (h.old a b f d)),fun b d=>IV c ?_⟩
 by_cases e:b=j
 ·exact .inr (by rw [e])
 ·exact .inl (h.now b (by omega))
theorem K1.next {ts:List T4} {k i j:Nat} {m:List (BitVec 32)} (h:K1 ts k i j m) (f:(j:Int)=Shapes.prod (ts.getD i default).s):K1 ts k (i+1) 0 m:=by
 refine ⟨h.len,fun a b d c=> ?_,fun b c=>absurd c (by omega)⟩
 by_cases e:a=i
 ·subst e;exact h.now b (by omega)
 ·exact h.old a b (by omega) c
theorem K1.all {ts:List T4} {k:Nat} {s:List Int} {m:List (BitVec 32)} (J:Jo k s ts) (h:K1 ts k ts.length 0 m):m=Mk ts k:=by
 refine ext_getElem h.len fun n d a=> ?_
 obtain ⟨i,b,j,c,e⟩:=J.onto a
 have f:ts.getD i default=ts[i]:=by rw [getD_eq_getElem?_getD,getElem?_eq_getElem b];rfl
 have:=h.old i j b (by rw [f];exact c)
 rw [e] at this
 simpa [d,a] using this
end Go.Proofs.YtmipoeanpnnjoaaGreatDoor

namespace Go.Proofs.YtmipoeanpnnjoaaGreatDoor
open Go Go.Dd Go.RowKit List Go.Proofs.Tryz
set_option maxRecDepth 100000
set_option maxHeartbeats 2000000 in
theorem Vi (v:Value) (ts:List T4) (I:Int) (W:World) (h:CN W v ts):
  AM prog 44 [v, .int .i64 I] W (fun r w' =>Below W.heap.size W w' ∧Jw W w' r (Lb ts I) (KZ ts I.toNat) (Mk ts I.toNat)):=by
 have o:=Below.refl W.heap.size W
 have lv:ts.length≤9223372036854775807:=h.1.le
 refine Bb (n:=123) func44 O<|Af<|Cx AY O ?_
 rintro A_r w eA_r d K -
 have o:=o.bs K
 have h:=h.bs K
 refine Ab O<|Bl<|Ab O<|Bh<|Ab O<|Ak<|Ao ?_
 have z_r:=AH d
 have zB:=AA o
 obtain ⟨U,hPS⟩:∃U:Nat→List (Value×List Int),U=fun i=>(ts.take i).map fun t=>(t.x,t.s):=⟨_,rfl⟩
 have ePS:∀i,BE (U i)=(ts.take i).map (·.s):=fun i=>by rw [hPS];simp only [BE,map_map];rfl
 have lPS:∀i,i≤ts.length→(U i).length=i:=fun i hi=>by rw [hPS,length_map,length_take];omega
 refine Bq (S:=(Nat×Value)) (fun z=>[(0,v),(1, .int .i64 I),(4, .pointer (some ⟨A_r,0,none⟩)),(6,z.2),(7, .int .i64 (z.1:Int))]) (fun z w' =>z.1≤ts.length∧z.1≤5∧H1 (ts.take z.1)=false∧Below w.heap.size w w' ∧w'.ownsRow w.heap.size 23 1 z.2 z.1 ((U z.1).map fun p=>p.1)) (fun z=>ts.length - z.1) ((0, .slice none 0 0)) ⟨rfl,rfl,rfl,rfl,rfl,trivial⟩ ?_ ?_
 ·exact ⟨Nat.zero_le _,Nat.zero_le _,rfl,Below.refl _ _,by rw [hPS];exact ⟨rfl, .inl ⟨rfl,rfl⟩⟩⟩
 rintro ⟨i,u⟩ Z ⟨hi,hi5,C,K,B⟩
 replace hi:i≤ts.length:=hi
 replace hi5:i≤5:=hi5
 replace C:H1 (ts.take i)=false:=C
 replace B:Z.ownsRow w.heap.size 23 1 u i ((U i).map fun p=>p.1):=B
 have o:=o.trans (K.mono zB)
 have h:=h.bs K
 have d:=d.bs K
 have H:=h.1
 have zn:=K.size
 have hLI:LI Z u (U i):=⟨by
  have:=AI B
  unfold BS
  rw [lPS i hi]
  exact this,fun p hp=>by
  rw [hPS] at hp
  obtain ⟨t,ht,rfl⟩:=List.mem_map.1 hp
  exact (h.2 t (mem_of_mem_take ht)).1⟩
 refine An<|Af<|Ac O<|Ac O<|Aa (Au AR O ‹_›) O ?_
 refine B3 O<|Ac O ?_
 refine Cc 23 O ?_ ?_
 ·intro g
  have c:i<ts.length:=by have:=AD g;omega
  refine Ag (dj:=23) O O<|Ac O<|Ag (dj:=23) O O<|Aa (D8 O O) O<|B4 O<|Ak<|Aq O ?_ ?_
  ·intro g2
   have hi4:i≤4:=by have:=AD g2;omega
   obtain ⟨a,ha,T,c1,c2⟩:=Hi c
   have R:=h.slice c
   have H:=h.1
   have A:=h.2 a T
   have ebad:H1 (ts.take (i+1))=(H1 (ts.take i)|| !tok a.s a.l):=by unfold H1;rw [take_succ_eq_append_getElem c,any_append,← ha];simp
   refine B0<|An<|Ao<|An<|Af<|Ac O<|Ac O<|Aa (Ci AR O O H i O c) O<|Aa (Cq (cs:=[a.x,a.y]) (AT _) (AP _) O H O (by decide) (FA c1 c2)) O<|Aj O O (CY a.x a.y a.s a.l Z A.1 A.2) ?_
   rintro _ w2 ⟨rfl,f⟩
   have o:=bt o f
   have d:=d.bs f
   refine Aa (Ck O) O<|Ak<|Aq O ?_ ?_
   ·intro g3
    have g3:tok a.s a.l=false:=by simpa using g3
    have hE:Lb ts I=1:=GK (by
     have:H1 ts=true:=List.any_eq_true.2 ⟨a,T,by rw [g3];rfl⟩
     unfold K8;rw [this];simp)
    refine Af<|C8 O<|Az (Bv (cs:=[.slice none 0 0, .slice none 0 0]) O O O O O d O) ?_
    rintro w3 ⟨d,hg, -⟩
    have o:=o.grown hg (AA o) (by rintro _ ⟨⟩;omega)
    refine Ab O<|Bu<|Bi<|Av<|Av<|Bi<|Av<|Bt O O O ‹_› underlying33 O O O ?_
    rw [hE]
    exact ⟨o,CC (by decide)⟩
   intro g3
   have g3:tok a.s a.l=true:=by simpa using g3
   have h:=h.bs f
   have H:=h.1
   have B:=AL B f
   have A:=A.bs f
   have zn2:=f.size
   refine B0<|Bw<|Ac O<|Ac O<|Ac O<|Aa (Ci AR O O H i O c) O<|Aa (C2 underlying33 O (AN _) O R) O<|Aa (D1 (AF _) O H c1) O<|Bk (Dl (vs:=[a.x]) BB HT O O O (by rw [all_cons,A.1.one'];rfl) O) O ?_
   rintro q w3 ⟨o_q, -,hn3, -⟩
   have B:=AL B hn3
   have hn23:=bt f hn3
   refine Bk (Di (base:=w.heap.size) BB HT O (by decide) O O B (AI o_q) (by rw [all_cons,A.1.one'];rfl) (by omega) (by omega) (Nat.le_trans zn hn23.size)) O ?_
   rintro u' w4 ⟨B,hn4,hg, -⟩
   have hn5:=(K.trans (hn23.mono zn)).trans hn4
   have eP:(U (i+1)).map (fun p=>p.1)=(U i).map (fun p=>p.1)++[a.x]:=by
    rw [hPS]
    simp only
    rw [take_succ_eq_append_getElem c,map_append,map_append,← ha];rfl
   refine Ab O<|Bf<|Bn<|Ch<|Ac O<|B7 O (by omega)<|Ab O<|Bf ?_
   exact Ap (Pw.next ((i+1,u')) ⟨rfl,rfl,rfl,rfl,rfl,trivial⟩ (⟨c,by simp only;omega,by simp only;rw [ebad,C,g3];rfl,hn5,by simp only;rw [eP];exact B⟩) (by simp only;omega))
  intro g2
  have hi4:¬i≤4:=by have:=AB g2;omega
  have lP:=lPS i hi
  have hE:Lb ts I=1:=GK (by unfold K8;rw [decide_eq_true (show 4<ts.length by omega)];simp)
  have hJ:Mt (BE (U i)) I=1:=by
   unfold Mt QU
   rw [length_map,lP,decide_eq_true (show 4<i by omega)]
   simp
  refine Bp<|Al<|Al<|Bd<|Cm<|Ac O<|Ac O<|Aj O O (Ke u (U i) I Z hLI) ?_
  rintro _ w2 ⟨f,x,s,rfl, -, -⟩
  rw [hJ]
  have o:=bt o f
  have d:=d.bs f
  refine Ac O<|Aa (As (i:=0) O O) O<|Aa (As (i:=1) O O) O<|Ab O<|Ab O<|Bh<|Ac O<|Aa (Cs O O) O<|Ak<|Ca O true (rfl)<|Af<|C8 O<|Ac O<|Az (Bv (cs:=[.slice none 0 0, .slice none 0 0]) O O O O O d O) ?_
  rintro w3 ⟨d,hg, -⟩
  have o:=o.grown hg (AA o) (by rintro _ ⟨⟩;omega)
  refine Ab O<|Bu<|Bt O O O ‹_› underlying33 O O O ?_
  rw [hE]
  exact ⟨o,CC (by decide)⟩
 intro g
 have c:i=ts.length:=by have:=AB g;omega
 rw [c,take_length] at C
 have eI:BE (U i)=ts.map (·.s):=by rw [ePS,c,take_length]
 obtain ⟨eE,eS⟩:=V4 I C
 have lts:ts.length≤5:=by omega
 clear B ePS lPS hPS
 refine Ae (dj:=23) O O O O<|Ae (dj:=23) O O O O<|Cn O<|Ak<|D6 O<|Bp<|Al<|Al<|Bd<|Cm<|Ac O<|Ac O<|Aj O O (Ke u (U i) I Z hLI) ?_
 rintro _ w2 ⟨f,x,S,rfl,F,hS⟩
 rw [eI,eE] at hS ⊢
 have o:=bt o f
 have d:=d.bs f
 have h:=h.bs f
 have zn2:=f.size
 clear hLI f K
 refine Ac O<|Aa (As (i:=0) O O) O<|Aa (As (i:=1) O O) O<|Ab O<|Ab O<|Bh<|Ac O<|Aa (Cs O O) O<|Ak<|Aq O ?_ ?_
 ·intro g2
  have hne:Lb ts I≠0:=fun e=>by rw [e] at g2;simp at g2
  refine Af<|C8 O<|Ac O<|Az (Bv (cs:=[.slice none 0 0, .slice none 0 0]) O O O O O d O) ?_
  rintro w3 ⟨d,hg, -⟩
  have o:=o.grown hg (AA o) (by rintro _ ⟨⟩;omega)
  refine Ab O<|Bu<|Bt O O O ‹_› underlying33 O O O ?_
  exact ⟨o,CC hne⟩
 intro g2
 have hE:Lb ts I=0:=by simpa using g2
 have N:S=KZ ts I.toNat:=by
  have:=hS hE
  rw [eS hE] at this
  exact (Option.some.inj this).symm
 clear hS eS g2 g eE eI C
 rw [hE]
 have hal:0≤I:=by
  rcases Int.lt_or_le I 0 with h0|h0
  ·rw [GK (by unfold K8;rw [decide_eq_true h0];simp)] at hE;cases hE
  ·exact h0
 obtain ⟨k,rfl⟩:∃k:Nat,I=(k:Int):=⟨I.toNat,by omega⟩
 have J:=QT.1 hE
 rw [Int.toNat_natCast] at N ⊢
 have J4:=J.few.2
 have okS:Shapes.ok S=true:=by rw [N,J.S];exact J.oks
 have lS:S.length=(OY ts).length:=by rw [N,J.S,length_set]
 refine Co<|Ac O<|Aj O O (Ii x S w2 F) ?_
 rintro _ w7 ⟨hn7,⟨hk,p,y,rfl,hm⟩|⟨hk,rfl⟩⟩
 ·refine Ac O<|Aa (As (i:=0) O O) O<|Aa (As (i:=1) O O) O<|C1 (cs:=[p,y]) AY O O O O (fun _=>rfl) (hm.one) ?_
  rintro X w8 eA_m Y hn8 zhn8
  have M:=ES hm eA_m Y hn8 zhn8 hn7.size
  have V:=bt hn7 hn8
  have zw:=V.size
  have zB:=AA o
  have p_h:=h
  have p_x:=F
  have q_r:=AH d
  have h:=h.bs V
  have d:=d.bs V
  have F:=F.bs V
  have o:=bt o V
  obtain ⟨zs,hzs⟩:∃l,l=replicate (Shapes.size S).toNat 0#32:=⟨_,rfl⟩
  rw [← hzs] at M
  have D0:K1 ts k 0 0 zs:=⟨by rw [hzs,length_replicate,Shapes.size_ok okS,J.L,I9,N,J.S],fun a b ha=>absurd ha (by omega),fun b hb=>absurd hb (by omega)⟩
  clear hm Y hn7 hn8 eA_m zhn8 V hzs
  refine Ab O<|Bl<|Ab O<|Bh<|Ab O<|Ak<|Ao ?_
  refine Bq (S:=(Nat×List (BitVec 32))) (fun z=>[(0,v),(1, .int .i64 (k:Int)),(4, .pointer (some ⟨A_r,0,none⟩)),(8,x),(10, .pointer (some ⟨X,0,none⟩)),(12, .int .i64 (CB k (ts.take z.1))),(13, .int .i64 (z.1:Int))]) (fun z w' =>z.1≤ts.length∧Below w2.heap.size w8 w' ∧FP w' w2.heap.size w8.heap.size X p y S z.2∧K1 ts k z.1 0 z.2) (fun z=>ts.length - z.1) ((0,zs)) ⟨rfl,rfl,rfl,rfl,rfl,rfl,rfl,trivial⟩ ?_ ?_
  ·exact ⟨Nat.zero_le _,Below.refl _ _,M,D0⟩
  clear M D0
  rintro ⟨i,m⟩ w9 ⟨hi,hw,M,D⟩
  replace hi:i≤ts.length:=hi
  replace M:FP w9 w2.heap.size w8.heap.size X p y S m:=M
  replace D:K1 ts k i 0 m:=D
  have o:=o.trans (hw.mono (show W.heap.size≤w2.heap.size by omega))
  have zw:=hw.size
  have h:=CN.stay p_h h (AX _) hw
  have F:BS (Value.int .i64) w9 x S:=Sl.stay F fun b e hne=>hw.block b (Sl.blk p_x hne b e)
  have d:=d.bl hw q_r
  have Y:=M.box
  have y_m:=M.sly
  have H:=h.1
  refine An<|Af<|Ac O<|Ac O<|Aa (Au AR O ‹_›) O ?_
  refine B3 O<|Ak<|Aq O ?_ ?_
  ·intro g
   have c:i<ts.length:=by have:=AD g;omega
   obtain ⟨a,ha,T,c1,c2⟩:=Hi c
   have eg:ts.getD i default=a:=by rw [getD_eq_getElem?_getD,getElem?_eq_getElem c,← ha];rfl
   obtain ⟨o1,o2⟩:=Ph (J.toks a T)
   have gd:=((Shapes.ok_iff _).1 o1).2.1
   have da:=J.dim T
   have Q:=fun (j:Nat) (hj:(j:Int)<Shapes.prod a.s)=>J.each c (j:=j) (by rw [← ha];exact hj)
   rw [← ha] at Q
   have js:=KY (k:=k) (ts:=ts.take i) fun u hu=>by have:=J.dim (mem_of_mem_take hu);omega
   have lti:(ts.take i).length≤4:=by rw [length_take];omega
   have hJs:CB k (ts.take (i+1))=CB k (ts.take i)+a.s.getD k default:=by
    rw [take_succ_eq_append_getElem c,Hk,← ha]
    simp [CB]
   obtain ⟨jb,hjb⟩:∃jb,jb=CB k (ts.take i):=⟨_,rfl⟩
   rw [← hjb] at js hJs Q ⊢
   refine B0<|An<|Ao<|An<|Af<|Ab O<|Ak<|Ao ?_
   refine Bq (S:=(Nat×List (BitVec 32))) (fun z=>[(0,v),(1, .int .i64 (k:Int)),(4, .pointer (some ⟨A_r,0,none⟩)),(8,x),(10, .pointer (some ⟨X,0,none⟩)),(12, .int .i64 jb),(13, .int .i64 (i:Int)),(14, .int .i64 (z.1:Int))]) (fun z w' =>z.1≤a.l.length∧Below w2.heap.size w9 w' ∧FP w' w2.heap.size w8.heap.size X p y S z.2∧K1 ts k i z.1 z.2) (fun z=>a.l.length - z.1) ((0,m)) ⟨rfl,rfl,rfl,rfl,rfl,rfl,rfl,rfl,trivial⟩ ?_ ?_
   ·exact ⟨Nat.zero_le _,Below.refl _ _,M,D⟩
   clear M D Y y_m H
   rintro ⟨j,m⟩ w10 ⟨hj,E,M,D⟩
   replace hj:j≤a.l.length:=hj
   replace M:FP w10 w2.heap.size w8.heap.size X p y S m:=M
   replace D:K1 ts k i j m:=D
   have o:=o.trans (E.mono (show W.heap.size≤w2.heap.size by omega))
   have zw2:=E.size
   have h:=CN.stay p_h h (AX _) E
   have F:BS (Value.int .i64) w10 x S:=Sl.stay F fun b e hne=>E.block b (Sl.blk p_x hne b e)
   have d:=d.bl E q_r
   have Y:=M.box
   have y_m:=M.sly
   have H:=h.1
   have A:=h.2 a T
   have haw1:=A.1
   have haw2:=A.2
   have lal:=haw2.le
   have R:=h.slice c
   refine An<|Af<|Ac O<|Ac O<|Ac O<|Aa (Ci AR O O H i O c) O<|Aa (C2 underlying33 O (BC _) O R) O<|Aa (D1 (BG _) O H c2) O<|Aa (Au AU O ‹_›) O ?_
   refine B3 O<|Ak<|Aq O ?_ ?_
   ·intro g2
    have hj' :j<a.l.length:=by have:=AD g2;omega
    have hjp:(j:Int)<Shapes.prod a.s:=by omega
    obtain ⟨inn,tlt,tval⟩:=Q j hjp
    obtain ⟨q,eq⟩:∃q,q=Shapes.place a.s (j:Int):=⟨_,rfl⟩
    have lq:q.length=a.s.length:=by rw [eq,Shapes.place_length]
    have iq:=Shapes.inn_at (by rw [eq];exact Shapes.place_in (by omega) gd:Shapes.inn a.s q=true) da.2.2
    have hkq:k<q.length:=by omega
    rw [← eq] at inn
    have hk2:Shapes.idx S (q.set k (q.getD k default+jb))=((NO ts k i j:Nat):Int):=by
     have G:=Shapes.idx_lt ((Shapes.ok_iff _).1 okS).2.1 (by rw [N];exact inn)
     unfold NO
     rw [eg,← eq,← hjb,N] at*
     omega
    refine B0<|An<|Ao<|Af<|Ac O<|Ac O<|Aa (Ci AR O O H i O c) O<|Aa (C2 underlying33 O (AN _) O R) O<|Aa (D1 (AF _) O H c1) O<|Ac O<|Aj O O (Wk a.s a.x (j:Int) w10 haw1) ?_
    rintro _ w11 ⟨K,b,rfl,o_b⟩
    rw [show Shapes.atl a.s (j:Int)=q by rw [eq];unfold Shapes.atl;rw [if_pos ⟨by omega,by rw [Shapes.size_ok o1];exact hjp⟩]] at o_b
    have s_b:=AQ o_b
    refine Ac O<|Aa (As (i:=0) O O) O<|Aa (As (i:=1) O O) O<|Ab O<|Ab O<|Bl<|Ac O<|Ac O<|Ac O<|Ac O<|Aa (Ay AC O O s_b k O hkq) O<|Aa (Bj (AK _) O s_b hkq) O<|Ac O<|B7 O (by omega)<|Aa (Ay AC O O s_b k O hkq) O<|Az (D3 (u:= .int .i64 (q.getD k default+jb)) (BA _) O O O o_b (by rw [length_map];exact hkq)) ?_
    rintro w12 ⟨o_b2,hg, -⟩
    rw [← map_set] at o_b2
    have hn12:=K.grown hg K.size (fun b e=>(AG o_b b e).1)
    refine Bl<|Ac O<|Ac O<|Aj O O (Ij S (q.set k (q.getD k default+jb)) x b w12 (F.bs hn12) (AQ o_b2)) ?_
    rintro _ w13 ⟨rfl,hn13⟩
    rw [GP okS (by rw [N];exact inn)]
    have K:=bt hn12 hn13
    have zn13:=K.size
    have E:=E.trans (K.mono (by omega))
    have M:=M.bs K
    have h:=h.bs K
    have A:=A.bs K
    have Y:=M.box
    have y_m:=M.sly
    have haw2:=A.2
    have H:=h.1
    have lm:=D.len
    refine Ac O<|Aa (As (i:=0) O O) O<|Aa (As (i:=1) O O) O<|Ab O<|Ab O<|Ak<|Cw.tail 12 AS (by kernel_rfl)<|Ad (fun Z L=>Cd underlying33 O (BC _)) O<|Ad (fun Z L=>Ah (BG _) O (AO.bs ‹_› L) O) O ?_
    refine Bg O<|Bg O<|Bg O<|Ad (fun Z L=>Ci AR O O (Sl.bs H L) i O c) O<|Ad (fun Z L=>C2 underlying33 O (BC _) O R) O<|Ad (fun Z L=>D1 (BG _) O (Sl.bs H L) c2) O<|Bg O<|Ad (fun Z L=>Ay AU O O (Sl.bs haw2 L) j O hj') O<|Ad (fun Z L=>Bj (CF _) O (Sl.bs ‹_› L) (by omega)) O ?_
    refine Ad (fun Z L=>Ay AU O O (Sl.bs y_m L) (NO ts k i j) hk2 (by omega)) O ?_
    refine Dc (fun w14 L=> ?_)
    refine Az ((M.bs L).st (ER _) O O (by omega)) ?_
    rintro w15 ⟨M2,hg2, -⟩
    have hw3:=(M.bs L).below (E.trans (L.mono (by omega))) (by omega) hg2
    have D2:=D.set tlt
    rw [tval] at D2
    refine Bf<|Bn<|Ch<|Ac O<|B7 O (by omega)<|Ab O<|Bf ?_
    exact Ap (Pw.next ((j+1,m.set (NO ts k i j) (a.l.getD j default))) ⟨rfl,rfl,rfl,rfl,rfl,rfl,rfl,rfl,trivial⟩ (⟨hj',hw3,M2,D2⟩) (by simp only;omega))
   intro g2
   have hj' :j=a.l.length:=by have:=AB g2;omega
   refine Bp<|Al<|Al<|Bd<|Ch<|Ac O<|Ac O<|Ac O<|Aa (Ci AR O O H i O c) O<|Aa (C2 underlying33 O (AN _) O R) O<|Aa (D1 (AF _) O H c1) O<|Ac O<|Aa (Ay AC O O haw1 k O da.2.2) O<|Aa (Bj (AK _) O haw1 da.2.2) O<|Aa ((De O O (by omega)).as (cngA (Value.int .i64) hJs.symm)) O<|Ab O<|Bf<|Bn<|Ch<|Ac O<|B7 O (by omega)<|Ab O<|Bf ?_
   have dp:=Shapes.prod_pos gd
   exact Ap (Pw.next ((i+1,m)) ⟨rfl,rfl,rfl,rfl,rfl,rfl,rfl,trivial⟩ (⟨c,hw.trans E,M,D.next (by rw [eg];omega)⟩) (by simp only;omega))
  intro g
  have c:i=ts.length:=by have:=AB g;omega
  subst c
  have em:m=Mk ts k:=D.all J
  refine Bp<|Al<|Al<|Bd<|Cm<|Aa (B9 (AT _) (AP _) O O ‹_›) O ?_
  refine Az (Bv (cs:=[p,y]) O O O O (JD M).one d O) ?_
  rintro w10 ⟨b_r2,hg, -⟩
  have M2:=M.keep hg (by rintro _ ⟨⟩;exact .inl q_r)
  have hB3:=o.grown hg (AA o) (by rintro _ ⟨⟩;omega)
  refine Ab O<|Bc<|Bt O O O ‹_› underlying33 O O O ?_
  rw [em,N] at M2
  exact ⟨hB3,p,y,rfl,fun h=>absurd rfl h,fun _=>⟨M2.row.mono (by omega), .inl (BH M2.lst.own (by omega)),M2.yx⟩⟩
 exact absurd okS (by rw [hk];decide)

def kv (l:List Int):Value:= .agg (l.map (Value.int .i64)).toArray
def ML:List (Nat×Int×List Int):=[(2,1,[0,0,0,0,0,1]),(4,2,[0,0,0,0,0,1]),(6,3,[2,2,0,0,0,0]),(8,4,[2,2,0,0,0,0]),(10,7,[2,2,0,0,0,0]),(12,5,[1,1,0,0,0,0]),(16,6,[1,1,0,31,0,0]),(18,8,[2,2,1,8,8,0]),(22,9,[1,1,1,64,0,0]),(24,10,[1,1,0,0,0,1]),(26,11,[1,1,0,0,0,2]),(28,12,[1,4,0,3,0,0]),(32,13,[1,1,0,3,0,0])]
def KD (k v:Value):Prop:=∃p ∈ ML,k= .int .u8 p.2.1∧v=kv p.2.2
def Pa (L:Nat→Bool) (k v:Value):Prop:=∃p ∈ ML,L p.1=true∧k= .int .u8 p.2.1∧v=kv p.2.2
def Yy (W:World) (s:Nat) (L:Nat→Bool) (w:World):Prop:=Below W.heap.size W w∧(L 0=true→W.heap.size≤s∧FE w s (.int .u8) (Pa L))
def Zm (f:Value) (s:Nat):Nat→Value
 |0|33|34=> .map (some s)
 |1|3=>kv [0,0,0,0,0,1]
 |5|7|9=>kv [2,2,0,0,0,0]
 |11|14|20|30=>kv [1,1,0,0,0,0]
 |13|19|29=>f
 |15=>kv [1,1,0,31,0,0]
 |17=>kv [2,2,1,8,8,0]
 |21=>kv [1,1,1,64,0,0]
 |23=>kv [1,1,0,0,0,1]
 |25=>kv [1,1,0,0,0,2]
 |27=>kv [1,4,0,3,0,0]
 |31=>kv [1,1,0,3,0,0]
 |_=>undef
theorem Ln {L:Nat→Bool} {i j:Nat} (h:i≠j):M0 L i j=L j:=by
 unfold M0
 cases hb:Nat.beq i j with
 |false=>rfl
 |true=>exact absurd (Nat.eq_of_beq_eq_true hb) h
theorem Si {L:Nat→Bool} {i:Nat}:M0 L i i=true:=by
 unfold M0;rw [Nat.beq_refl];rfl
theorem FH {W w b:World} {s i:Nat} {L:Nat→Bool} (h:Yy W s L w) (g:Below w.heap.size w b) (j:i≠0) (d:∀p ∈ ML,i≠p.1):Yy W s (M0 L i) b:=by
 refine ⟨h.1.trans (g.mono (AA h.1)),fun c=> ?_⟩
 rw [Ln j] at c
 obtain ⟨f,e⟩:=h.2 c
 refine ⟨f,(e.bs g).congr fun k v=>⟨fun ⟨p,a,q⟩=>⟨p,a,by rw [Ln (d p a)];exact q⟩,fun ⟨p,a,q⟩=>⟨p,a,by rw [Ln (d p a)] at q;exact q⟩⟩⟩
theorem Hz {W w c:World} {s i:Nat} {n:Int} {l:List Int} {L:Nat→Bool} (h:Yy W s L w) (q:L 0=true) (m:(i,n,l) ∈ ML) (o:∀p ∈ ML,p.1=i→p=(i,n,l)) 
  (g:FE c s (.int .u8) (fun k v=>Pa L k v∨(k= .int .u8 n∧v=kv l))∧w.grownBy c (some s)∧c.heap.size=w.heap.size):Yy W s (M0 L i) c:=by
 obtain ⟨j,r⟩:=h.2 q
 refine ⟨h.1.grown g.2.1 (AA h.1) (by rintro _ ⟨⟩;exact j),fun _=>⟨j,g.1.congr fun k v=>⟨?_, ?_⟩⟩⟩
 ·rintro (⟨p,a,d,b⟩|⟨rfl,rfl⟩)
  ·exact ⟨p,a,by unfold M0;rw [d,Bool.or_true],b⟩
  ·exact ⟨_,m,Si,rfl,rfl⟩
 ·rintro ⟨p,a,d,b,f⟩
  by_cases e:p.1=i
  ·obtain rfl:=o p a e
   exact .inr ⟨b,f⟩
  ·rw [Ln (Ne.symm e)] at d
   exact .inl ⟨p,a,d,b,f⟩
theorem Gm {L:Nat→Bool} {i:Nat} {n:Int} (c:L i=false) (e:∀p ∈ ML,p.2.1=n→p.1=i):∀v,¬Pa L (.int .u8 n) v:=by
 rintro v ⟨p,b,a,d, -⟩
 have f:n=p.2.1:=by cases d;rfl
 rw [e p b f.symm,c] at a;cases a
theorem LG (l:List Int):(l.map (Value.int .i64)).all (·.oneCell')=true:=DE (fun _=>rfl) l
theorem Re (a b:Int):Tryz.prog.built 252 [(0, .int .i64 a),(1, .int .i64 b)]=some ([a,b,0,0,0,0].map (Value.int .i64)).toArray:=by
 have c:Tryz.prog.info? 252=some Tryz.t252:=by kernel_rfl
 have d:Tryz.prog.info? 3=some Tryz.t3:=by kernel_rfl
 simp [Program.built,c,underlying252,d,Instr.fill,Value.cells]
 rfl
theorem Ie (a b i h:Int) (w:World):AM prog 250 [kv [a,b,0,0,0,0], .int .i64 i, .int .i64 h] w (fun r t=>r=kv [a,b,i,h,0,0]∧Below w.heap.size w t):=by
 have e:=Below.refl w.heap.size w
 refine Bb (n:=12) func250 O<|Af ?_
 obtain ⟨B,y⟩:∃B,B=w.heap.size:=⟨_,rfl⟩
 refine B5 (cs:=[a,b,0,0,0,0].map (Value.int .i64)) O O O ?_
 rintro m w p c j -
 have e:=e.bs j
 have G:=AH c
 refine Cx Iw O ?_
 rintro s w q d j -
 have e:=e.bs j
 have c:=c.bs j
 refine Bl<|Ac O<|Ac O<|Be underlying252 O (BA _) ?_
 have F:=AH d
 have A:=AA e
 refine Az (Dj (u:= .int .i64 i) (BA _) O O O c (show 2<6 by decide)) ?_
 rintro D ⟨c,f,v⟩
 have d:=d.by f (by rintro ⟨⟩;omega)
 refine Be underlying252 O (BA _)<|Az (Dj (u:= .int .i64 h) (BA _) O O O c (show 3<6 by decide)) ?_
 rintro C ⟨c,g,x⟩
 have d:=d.by g (by rintro ⟨⟩;omega)
 have c:AO C m 252 ([a,b,i,h,0,0].map (Value.int .i64)):=c
 refine Bl<|Aa (B9 (k:=6) (Gt _) (Gk _) O O c) O<|Az (Bv (cs:=[a,b,i,h,0,0].map (Value.int .i64)) (k:=6) (by kernel_rfl) O O O (LG _) d O) ?_
 rintro E ⟨d,o,z⟩
 have l:=((e.grown f A (by rintro _ ⟨⟩;omega)).grown g (by omega) (by rintro _ ⟨⟩;omega)).grown o (by omega) (by rintro _ ⟨⟩;omega)
 refine Bc<|Ee O O ‹_› underlying252 O O O ?_
 exact ⟨rfl,l⟩
set_option maxRecDepth 4000 in
theorem Vv (w:World):AM prog 232 [] w (fun r R=>Below w.heap.size w R∧∃M,r= .map (some M)∧w.heap.size≤M∧FE R M (.int .u8) KD):=by
 have z:=Below.refl w.heap.size w
 refine Bb (n:=37) func232 O<|Af<|Ab O<|Bl<|Aa (C4 (vs:=[(0, .int .i64 1),(1, .int .i64 1)]) (cs:=[1,1,0,0,0,0].map (Value.int .i64)) O (Re 1 1)) O<|Aa (C4 (vs:=[(0, .int .i64 2),(1, .int .i64 2)]) (cs:=[2,2,0,0,0,0].map (Value.int .i64)) O (Re 2 2)) O<|Cx Iw O ?_
 rintro A_one w X a Y -
 have z:=z.bs Y
 have z1:=AH a
 refine Cx Iw O ?_
 rintro A_two w W b Y -
 have z:=z.bs Y
 have a:=a.bs Y
 have z2:=AH b
 have z0:=AA z
 refine Az (Bv (cs:=[1,1,0,0,0,0].map (Value.int .i64)) (k:=6) (by kernel_rfl) O O O (LG _) a O) ?_
 rintro w1 ⟨a,T,hz1⟩
 have b:=b.by T (by rintro ⟨⟩;omega)
 refine Az (Bv (cs:=[2,2,0,0,0,0].map (Value.int .i64)) (k:=6) (by kernel_rfl) O O O (LG _) b O) ?_
 rintro x ⟨b,U,hz2⟩
 have a:=a.by U (by rintro ⟨⟩;omega)
 have z:=(z.grown T z0 (by rintro _ ⟨⟩;omega)).grown U (by omega) (by rintro _ ⟨⟩;omega)
 refine Bl<|Ab O<|Bl<|Ac O<|Aa (B9 (k:=6) (Gt _) (Gk _) O O b) O<|Ec (p:=[]) (q:=[]) O O O (Ie 2 2 1 8 x) ?_
 rintro _ A ⟨rfl,C⟩
 have a:=a.bs C
 have b:=b.bs C
 have z3:=C.size
 have z:=z.trans (C.mono (AA z))
 refine Bk (Xw.new Iw) O ?_
 rintro _ w4 ⟨rfl,m,H,hz4⟩
 have a:=a.bs H
 have b:=b.bs H
 refine Az (Bv (cs:=[2,2,1,8,0,0].map (Value.int .i64)) (k:=6) (by kernel_rfl) O O O (LG _) m O) ?_
 rintro w5 ⟨m,K,hz5⟩
 have a:=a.by K (by rintro ⟨⟩;omega)
 have b:=b.by K (by rintro ⟨⟩;omega)
 have z:=(z.trans (H.mono (AA z))).grown K (by omega) (by rintro _ ⟨⟩;omega)
 refine Bl<|Be underlying252 O (BA _)<|Az (Dj (u:= .int .i64 8) (BA _) O O O m (show 4<6 by decide)) ?_
 rintro w6 ⟨m,I,hz6⟩
 have m:AO w6 A.heap.size 252 ([2,2,1,8,8,0].map (Value.int .i64)):=m
 have a:=a.by I (by rintro ⟨⟩;omega)
 have b:=b.by I (by rintro ⟨⟩;omega)
 have z:=z.grown I (by omega) (by rintro _ ⟨⟩;omega)
 refine Bl<|Ac O<|Aa (B9 (k:=6) (Gt _) (Gk _) O O a) O<|Ec (p:=[]) (q:=[]) O O O (Ie 1 1 0 3 w6) ?_
 rintro _ w7 ⟨rfl,D⟩
 have a:=a.bs D
 have b:=b.bs D
 have m:=m.bs D
 have z7:=D.size
 have z:=z.trans (D.mono (AA z))
 refine Bk (Xw.new Iw) O ?_
 rintro _ w8 ⟨rfl,y,F,hz8⟩
 have a:=a.bs F
 have b:=b.bs F
 have m:=m.bs F
 refine Az (Bv (cs:=[1,1,0,3,0,0].map (Value.int .i64)) (k:=6) (by kernel_rfl) O O O (LG _) y O) ?_
 rintro w9 ⟨y,G,hz9⟩
 have a:=a.by G (by rintro ⟨⟩;omega)
 have b:=b.by G (by rintro ⟨⟩;omega)
 have m:=m.by G (fun e=>by have:=Option.some.inj e;omega)
 have z:=(z.trans (F.mono (AA z))).grown G (by omega) (by rintro _ ⟨⟩;omega)
 refine Bl<|Be underlying252 O (BA _)<|Az (Dj (u:= .int .i64 4) (BA _) O O O y (show 1<6 by decide)) ?_
 rintro V ⟨y,B,hz10⟩
 have y:AO V w7.heap.size 252 ([1,4,0,3,0,0].map (Value.int .i64)):=y
 have a:=a.by B (by rintro ⟨⟩;omega)
 have b:=b.by B (by rintro ⟨⟩;omega)
 have m:=m.by B (fun e=>by have:=Option.some.inj e;omega)
 have z:=z.grown B (by omega) (by rintro _ ⟨⟩;omega)
 refine Ak<|An ?_
 refine Cw.inv (Zm (.func (.func 250) #[] #[])) (Yy V) (0) AS (by kernel_rfl) ?_ ?_ ?_
 ·exact fun R h=>⟨h,fun h=>by cases h⟩
 ·refine Ce (fun s L x c t o f=> ?_) ?_
  ·refine Ow.mk (Gc (d:= .int .u8)) ?_
   rintro _ A ⟨rfl,hM,C, -⟩
   have Q:∀k q,ED _ k=some q→0 ∈ BW q→L k=false:=fun k q hq h0=>by
    cases hk:L k with
    |false=>rfl
    |true=>rw [f k q hq hk 0 h0] at t;cases t
   have J:=Q 33 _ rfl (by decide)
   have n34:L 34=false:=by
    cases hk:L 34 with
    |false=>rfl
    |true=>rw [f 34 _ rfl hk 33 (by decide)] at J;cases J
   have nin:∀p ∈ ML,L p.1=false:=fun p E=>by
    simp only [ML,mem_cons,not_mem_nil,or_false] at E
    rcases E with rfl|rfl|rfl|rfl|rfl|rfl|rfl|rfl|rfl|rfl|rfl|rfl|rfl<;>exact Q _ _ rfl (by decide)
   refine ⟨x.heap.size,⟨c.1.trans (C.mono (AA c.1)),fun _=>⟨AA c.1,hM.congr fun k v=>⟨fun h=>h.elim,fun ⟨p,E,t,_⟩=> ?_⟩⟩⟩,fun j N=> ?_,fun _=>rfl⟩
   ·have hp0:∀p ∈ ML,(0:Nat)≠p.1:=by decide
    rw [Ln (hp0 p E),nin p E] at t;cases t
   ·have j0:j≠0:=fun e=>by rw [e,t] at N;cases N
    have j33:j≠33:=fun e=>by rw [e,J] at N;cases N
    have j34:j≠34:=fun e=>by rw [e,n34] at N;cases N
    unfold Zm
    split<;>first|rfl|omega
  refine Ce (fun s L x c t o f=> ?_) ?_
  ·exact Ow.val (C4 (vs:=[(5, .int .i64 1)]) (cs:=[0,0,0,0,0,1].map (Value.int .i64)) rfl (by kernel_rfl)) ⟨s,FH c (Below.refl _ _) (by decide) (by decide),fun _ _=>rfl,fun _=>rfl⟩
  refine Ce (fun s L x c t o f=> ?_) ?_
  ·refine Dx (Dv (M:=s) (S:=Pa L) (k:= .int .u8 1) (u:=kv [0,0,0,0,0,1]) (d:= .int .u8) underlying247 FX O O O O (c.2 (o 0 (by decide))).2 (Gm t (by decide))) ?_
   exact fun A g=>⟨s,Hz (i:=2) (n:=1) (l:=[0,0,0,0,0,1]) c (o 0 (by decide)) (by decide) (by decide) g,fun _ _=>rfl,fun h=>by cases h⟩
  refine Ce (fun s L x c t o f=> ?_) ?_
  ·exact Ow.val (C4 (vs:=[(5, .int .i64 1)]) (cs:=[0,0,0,0,0,1].map (Value.int .i64)) rfl (by kernel_rfl)) ⟨s,FH c (Below.refl _ _) (by decide) (by decide),fun _ _=>rfl,fun _=>rfl⟩
  refine Ce (fun s L x c t o f=> ?_) ?_
  ·refine Dx (Dv (M:=s) (S:=Pa L) (k:= .int .u8 2) (u:=kv [0,0,0,0,0,1]) (d:= .int .u8) underlying247 FX O O O O (c.2 (o 0 (by decide))).2 (Gm t (by decide))) ?_
   exact fun A g=>⟨s,Hz (i:=4) (n:=2) (l:=[0,0,0,0,0,1]) c (o 0 (by decide)) (by decide) (by decide) g,fun _ _=>rfl,fun h=>by cases h⟩
  refine Ce (fun s L x c t o f=> ?_) ?_
  ·exact Ow.val (B9 (k:=6) (Gt _) (Gk _) rfl rfl (b.bs c.1)) ⟨s,FH c (Below.refl _ _) (by decide) (by decide),fun _ _=>rfl,fun _=>rfl⟩
  refine Ce (fun s L x c t o f=> ?_) ?_
  ·refine Dx (Dv (M:=s) (S:=Pa L) (k:= .int .u8 3) (u:=kv [2,2,0,0,0,0]) (d:= .int .u8) underlying247 FX O O O O (c.2 (o 0 (by decide))).2 (Gm t (by decide))) ?_
   exact fun A g=>⟨s,Hz (i:=6) (n:=3) (l:=[2,2,0,0,0,0]) c (o 0 (by decide)) (by decide) (by decide) g,fun _ _=>rfl,fun h=>by cases h⟩
  refine Ce (fun s L x c t o f=> ?_) ?_
  ·exact Ow.val (B9 (k:=6) (Gt _) (Gk _) rfl rfl (b.bs c.1)) ⟨s,FH c (Below.refl _ _) (by decide) (by decide),fun _ _=>rfl,fun _=>rfl⟩
  refine Ce (fun s L x c t o f=> ?_) ?_
  ·refine Dx (Dv (M:=s) (S:=Pa L) (k:= .int .u8 4) (u:=kv [2,2,0,0,0,0]) (d:= .int .u8) underlying247 FX O O O O (c.2 (o 0 (by decide))).2 (Gm t (by decide))) ?_
   exact fun A g=>⟨s,Hz (i:=8) (n:=4) (l:=[2,2,0,0,0,0]) c (o 0 (by decide)) (by decide) (by decide) g,fun _ _=>rfl,fun h=>by cases h⟩
  refine Ce (fun s L x c t o f=> ?_) ?_
  ·exact Ow.val (B9 (k:=6) (Gt _) (Gk _) rfl rfl (b.bs c.1)) ⟨s,FH c (Below.refl _ _) (by decide) (by decide),fun _ _=>rfl,fun _=>rfl⟩
  refine Ce (fun s L x c t o f=> ?_) ?_
  ·refine Dx (Dv (M:=s) (S:=Pa L) (k:= .int .u8 7) (u:=kv [2,2,0,0,0,0]) (d:= .int .u8) underlying247 FX O O O O (c.2 (o 0 (by decide))).2 (Gm t (by decide))) ?_
   exact fun A g=>⟨s,Hz (i:=10) (n:=7) (l:=[2,2,0,0,0,0]) c (o 0 (by decide)) (by decide) (by decide) g,fun _ _=>rfl,fun h=>by cases h⟩
  refine Ce (fun s L x c t o f=> ?_) ?_
  ·exact Ow.val (B9 (k:=6) (Gt _) (Gk _) rfl rfl (a.bs c.1)) ⟨s,FH c (Below.refl _ _) (by decide) (by decide),fun _ _=>rfl,fun _=>rfl⟩
  refine Ce (fun s L x c t o f=> ?_) ?_
  ·refine Dx (Dv (M:=s) (S:=Pa L) (k:= .int .u8 5) (u:=kv [1,1,0,0,0,0]) (d:= .int .u8) underlying247 FX O O O O (c.2 (o 0 (by decide))).2 (Gm t (by decide))) ?_
   exact fun A g=>⟨s,Hz (i:=12) (n:=5) (l:=[1,1,0,0,0,0]) c (o 0 (by decide)) (by decide) (by decide) g,fun _ _=>rfl,fun h=>by cases h⟩
  refine Ce (fun s L x c t o f=> ?_) ?_
  ·exact Ow.val (B6 rfl) ⟨s,FH c (Below.refl _ _) (by decide) (by decide),fun _ _=>rfl,fun _=>rfl⟩
  refine Ce (fun s L x c t o f=> ?_) ?_
  ·exact Ow.val (B9 (k:=6) (Gt _) (Gk _) rfl rfl (a.bs c.1)) ⟨s,FH c (Below.refl _ _) (by decide) (by decide),fun _ _=>rfl,fun _=>rfl⟩
  refine Ce (fun s L x c t o f=> ?_) ?_
  ·exact Ev (Xc.val (p:=[]) (q:=[]) (vs:=[kv [1,1,0,0,0,0], .int .i64 0, .int .i64 31]) (Ie 1 1 0 31 x).1 rfl rfl) (Ie 1 1 0 31 x) (fun _ A ⟨e,g⟩=>⟨s,FH c g (by decide) (by decide),fun _ _=>rfl,fun _=>e⟩)
  refine Ce (fun s L x c t o f=> ?_) ?_
  ·refine Dx (Dv (M:=s) (S:=Pa L) (k:= .int .u8 6) (u:=kv [1,1,0,31,0,0]) (d:= .int .u8) underlying247 FX O O O O (c.2 (o 0 (by decide))).2 (Gm t (by decide))) ?_
   exact fun A g=>⟨s,Hz (i:=16) (n:=6) (l:=[1,1,0,31,0,0]) c (o 0 (by decide)) (by decide) (by decide) g,fun _ _=>rfl,fun h=>by cases h⟩
  refine Ce (fun s L x c t o f=> ?_) ?_
  ·exact Ow.val (B9 (k:=6) (Gt _) (Gk _) rfl rfl (m.bs c.1)) ⟨s,FH c (Below.refl _ _) (by decide) (by decide),fun _ _=>rfl,fun _=>rfl⟩
  refine Ce (fun s L x c t o f=> ?_) ?_
  ·refine Dx (Dv (M:=s) (S:=Pa L) (k:= .int .u8 8) (u:=kv [2,2,1,8,8,0]) (d:= .int .u8) underlying247 FX O O O O (c.2 (o 0 (by decide))).2 (Gm t (by decide))) ?_
   exact fun A g=>⟨s,Hz (i:=18) (n:=8) (l:=[2,2,1,8,8,0]) c (o 0 (by decide)) (by decide) (by decide) g,fun _ _=>rfl,fun h=>by cases h⟩
  refine Ce (fun s L x c t o f=> ?_) ?_
  ·exact Ow.val (B6 rfl) ⟨s,FH c (Below.refl _ _) (by decide) (by decide),fun _ _=>rfl,fun _=>rfl⟩
  refine Ce (fun s L x c t o f=> ?_) ?_
  ·exact Ow.val (B9 (k:=6) (Gt _) (Gk _) rfl rfl (a.bs c.1)) ⟨s,FH c (Below.refl _ _) (by decide) (by decide),fun _ _=>rfl,fun _=>rfl⟩
  refine Ce (fun s L x c t o f=> ?_) ?_
  ·exact Ev (Xc.val (p:=[]) (q:=[]) (vs:=[kv [1,1,0,0,0,0], .int .i64 1, .int .i64 64]) (Ie 1 1 1 64 x).1 rfl rfl) (Ie 1 1 1 64 x) (fun _ A ⟨e,g⟩=>⟨s,FH c g (by decide) (by decide),fun _ _=>rfl,fun _=>e⟩)
  refine Ce (fun s L x c t o f=> ?_) ?_
  ·refine Dx (Dv (M:=s) (S:=Pa L) (k:= .int .u8 9) (u:=kv [1,1,1,64,0,0]) (d:= .int .u8) underlying247 FX O O O O (c.2 (o 0 (by decide))).2 (Gm t (by decide))) ?_
   exact fun A g=>⟨s,Hz (i:=22) (n:=9) (l:=[1,1,1,64,0,0]) c (o 0 (by decide)) (by decide) (by decide) g,fun _ _=>rfl,fun h=>by cases h⟩
  refine Ce (fun s L x c t o f=> ?_) ?_
  ·exact Ow.val (C4 (vs:=[(0, .int .i64 1),(1, .int .i64 1),(5, .int .i64 1)]) (cs:=[1,1,0,0,0,1].map (Value.int .i64)) rfl (by kernel_rfl)) ⟨s,FH c (Below.refl _ _) (by decide) (by decide),fun _ _=>rfl,fun _=>rfl⟩
  refine Ce (fun s L x c t o f=> ?_) ?_
  ·refine Dx (Dv (M:=s) (S:=Pa L) (k:= .int .u8 10) (u:=kv [1,1,0,0,0,1]) (d:= .int .u8) underlying247 FX O O O O (c.2 (o 0 (by decide))).2 (Gm t (by decide))) ?_
   exact fun A g=>⟨s,Hz (i:=24) (n:=10) (l:=[1,1,0,0,0,1]) c (o 0 (by decide)) (by decide) (by decide) g,fun _ _=>rfl,fun h=>by cases h⟩
  refine Ce (fun s L x c t o f=> ?_) ?_
  ·exact Ow.val (C4 (vs:=[(0, .int .i64 1),(1, .int .i64 1),(5, .int .i64 2)]) (cs:=[1,1,0,0,0,2].map (Value.int .i64)) rfl (by kernel_rfl)) ⟨s,FH c (Below.refl _ _) (by decide) (by decide),fun _ _=>rfl,fun _=>rfl⟩
  refine Ce (fun s L x c t o f=> ?_) ?_
  ·refine Dx (Dv (M:=s) (S:=Pa L) (k:= .int .u8 11) (u:=kv [1,1,0,0,0,2]) (d:= .int .u8) underlying247 FX O O O O (c.2 (o 0 (by decide))).2 (Gm t (by decide))) ?_
   exact fun A g=>⟨s,Hz (i:=26) (n:=11) (l:=[1,1,0,0,0,2]) c (o 0 (by decide)) (by decide) (by decide) g,fun _ _=>rfl,fun h=>by cases h⟩
  refine Ce (fun s L x c t o f=> ?_) ?_
  ·exact Ow.val (B9 (k:=6) (Gt _) (Gk _) rfl rfl (y.bs c.1)) ⟨s,FH c (Below.refl _ _) (by decide) (by decide),fun _ _=>rfl,fun _=>rfl⟩
  refine Ce (fun s L x c t o f=> ?_) ?_
  ·refine Dx (Dv (M:=s) (S:=Pa L) (k:= .int .u8 12) (u:=kv [1,4,0,3,0,0]) (d:= .int .u8) underlying247 FX O O O O (c.2 (o 0 (by decide))).2 (Gm t (by decide))) ?_
   exact fun A g=>⟨s,Hz (i:=28) (n:=12) (l:=[1,4,0,3,0,0]) c (o 0 (by decide)) (by decide) (by decide) g,fun _ _=>rfl,fun h=>by cases h⟩
  refine Ce (fun s L x c t o f=> ?_) ?_
  ·exact Ow.val (B6 rfl) ⟨s,FH c (Below.refl _ _) (by decide) (by decide),fun _ _=>rfl,fun _=>rfl⟩
  refine Ce (fun s L x c t o f=> ?_) ?_
  ·exact Ow.val (B9 (k:=6) (Gt _) (Gk _) rfl rfl (a.bs c.1)) ⟨s,FH c (Below.refl _ _) (by decide) (by decide),fun _ _=>rfl,fun _=>rfl⟩
  refine Ce (fun s L x c t o f=> ?_) ?_
  ·exact Ev (Xc.val (p:=[]) (q:=[]) (vs:=[kv [1,1,0,0,0,0], .int .i64 0, .int .i64 3]) (Ie 1 1 0 3 x).1 rfl rfl) (Ie 1 1 0 3 x) (fun _ A ⟨e,g⟩=>⟨s,FH c g (by decide) (by decide),fun _ _=>rfl,fun _=>e⟩)
  refine Ce (fun s L x c t o f=> ?_) ?_
  ·refine Dx (Dv (M:=s) (S:=Pa L) (k:= .int .u8 13) (u:=kv [1,1,0,3,0,0]) (d:= .int .u8) underlying247 FX O O O O (c.2 (o 0 (by decide))).2 (Gm t (by decide))) ?_
   exact fun A g=>⟨s,Hz (i:=32) (n:=13) (l:=[1,1,0,3,0,0]) c (o 0 (by decide)) (by decide) (by decide) g,fun _ _=>rfl,fun h=>by cases h⟩
  refine Ce (fun s L x c t o f=> ?_) ?_
  ·exact Ow.val (B6 rfl) ⟨s,FH c (Below.refl _ _) (by decide) (by decide),fun _ _=>rfl,fun _=>rfl⟩
  refine Ce (fun s L x c t o f=> ?_) ?_
  ·exact Ow.val (Cf rfl) ⟨s,FH c (Below.refl _ _) (by decide) (by decide),fun _ _=>rfl,fun _=>rfl⟩
  exact Fa
 intro s L R c hall
 have h0:=c.2 (hall 0 (by decide))
 have Z:∀p ∈ ML,p.1<35:=by decide
 have hM:FE R s (.int .u8) KD:=h0.2.congr fun k v=>⟨fun ⟨p,E,_,h⟩=>⟨p,E,h⟩,fun ⟨p,E,h⟩=>⟨p,E,hall p.1 (Z p E),h⟩⟩
 have hBF:=z.trans (c.1.mono (AA z))
 have zB:=AA z
 exact Ap<|B8<|Df<|Ax rfl rfl<|⟨hBF,s,rfl,by omega,hM⟩

structure N5 where
 k:BitVec 8
 x:Value
 y:Value
 i:List Int
 s:List Int
 n:Int
 p:Int
def N5.cells (a:N5):List Value:=[b8 a.k,a.x,a.y, .int .i64 a.n, .int .i64 a.p]
abbrev N5.v (a:N5):Value:= .agg a.cells.toArray
structure N5.at (w:World) (a:N5):Prop where
 i:BS (Value.int .i64) w a.x a.i
 s:BS (Value.int .i64) w a.y a.s
theorem N5.at.bs {w b:World} {a:N5} (h:N5.at w a) (g:Below w.heap.size w b):N5.at b a:=⟨h.i.bs g,h.s.bs g⟩
theorem N5.at.ones {w:World} {a:N5} (h:N5.at w a):a.cells.all (·.oneCell')=true:=by
 unfold N5.cells
 rw [all_cons,all_cons,all_cons,h.i.one',h.s.one'];rfl
def UB (l:List Int):Bool:=(range l.length).all fun i=>l.contains (i:Int)
theorem IF {l:List Int}:UB l=true↔∀j,j<l.length→l.contains (j:Int)=true:=by
 unfold UB
 rw [all_eq_true]
 exact ⟨fun h j a=>h j (List.mem_range.2 a),fun h j a=>h j (List.mem_range.1 a)⟩
theorem Ua {l:List Int} {j:Nat} (a:j<l.length) (h:l.contains (j:Int)=false):UB l=false:=by
 cases hk:UB l with
 |false=>rfl
 |true=>rw [IF.1 hk j a] at h;cases h
def Hb (l:List Int):Bool:=UB l && decide (l.length≤4)
def GZ (least most lo hi ar sh:Int) (i s:List Int) (n p:Int):Bool:=
 !(decide ((i.length:Int)<least)||decide (most<(i.length:Int))||decide (n<lo)||decide (hi<n)||decide (p<0)||decide (ar<p)) && (if sh=0 then decide (s.length=0) else if sh=1 then Shapes.ok s else Hb s)
theorem TL (v:Value) (l:List Int) (w:World) (p:BS (Value.int .i64) w v l):AM prog 251 [v] w (fun r k=>r= .bool (Hb l)∧Below w.heap.size w k):=by
 have t:=p.le
 refine Bb (n:=17) func251 O<|Af<|Ab O<|Bh<|Ac O<|Aa (Au AC O ‹_›) O ?_
 refine Ac O<|Ak<|Ao ?_
 refine Bq (S:=Nat) (fun i=>[(0,v),(5, .int .i64 (l.length:Int)),(6, .int .i64 (i:Int))]) (fun i k=>i≤l.length∧(∀j,j<i→l.contains (j:Int)=true)∧Below w.heap.size w k) (fun i=>l.length - i) (0) ⟨rfl,rfl,rfl,trivial⟩ ?_ ?_
 ·exact ⟨Nat.zero_le _,fun _ h=>by omega,Below.refl _ _⟩
 rintro i q ⟨y,o,c⟩
 have m:=p.bs c
 refine Af<|B3 O<|Ak<|An<|Aq O ?_ ?_
 ·intro h
  have a:i<l.length:=by have:=AD h;omega
  refine B0<|An<|Ao<|Af<|Ac O<|Ab O<|Bl<|Ac O<|Ac O<|Aj O O (Ju v l (i:Int) q m) ?_
  rintro _ x ⟨rfl,u⟩
  have b:=c.trans (u.mono (AA c))
  refine Aa (Ck O) O<|Ak<|Aq O ?_ ?_
  ·intro g
   have f:l.contains (i:Int)=false:=by simpa using g
   refine Af<|Ab O<|Bc<|Bi<|Av<|Av<|Bi<|Av<|Ax O O ?_
   refine ⟨?_,b⟩
   unfold Hb;rw [Ua a f];rfl
  intro g
  have f:l.contains (i:Int)=true:=by simpa using g
  refine Cp<|Bn<|Ch<|B7 O (by omega)<|Ac O<|Bf ?_
  exact Ap (Pw.next (i+1) ⟨rfl,rfl,rfl,trivial⟩ (⟨a,fun j s=>(Nat.lt_succ_iff_lt_or_eq.1 s).elim (o j) (fun e=>e ▸ f),b⟩) (by omega))
 intro h
 have a:i=l.length:=by have:=AB h;omega
 subst a
 have d:UB l=true:=IF.2 o
 refine Bp<|Al<|Al<|Bd<|Cm<|Ac O<|Aa (Au AC O ‹_›) O ?_
 refine Aa (D8 O O) O<|Ab O<|Bc<|Ax O O ?_
 refine ⟨?_,c⟩
 unfold Hb;rw [d,Bool.true_and];congr 1;exact decide_eq_decide.2 (by omega)
theorem Tw (a b l k j sh:Int) (x:N5) (w:World) (z:N5.at w x):
  AM prog 233 [kv [a,b,l,k,j,sh],x.v] w (fun r B=>r= .bool (GZ a b l k j sh x.i x.s x.n x.p)∧Below w.heap.size w B):=by
 have d:=Below.refl w.heap.size w
 have h:=z.i
 have c:=z.s
 refine Bb (n:=61) func233 O<|Af<|B5 (cs:=[a,b,l,k,j,sh].map (Value.int .i64)) O O O ?_
 rintro D w y i f -
 have d:=d.bs f
 have h:=h.bs f
 have c:=c.bs f
 refine B5 (cs:=x.cells) O O O ?_
 rintro C w A E f -
 have d:=d.bs f
 have h:=h.bs f
 have c:=c.bs f
 have i:=i.bs f
 refine Ab O<|Bh<|Be underlying25 O (AN _)<|Aa (Ah (AF _) O ‹_› rfl) O ?_
 refine Aa (Au AC O ‹_›) O ?_
 refine Ab O<|Bl<|Ac O<|Be underlying252 O (BA _)<|Aa (Ah (AK _) O ‹_› rfl) O ?_
 refine B3 O<|Ac O ?_
 refine Cc 13 O ?_ ?_
 ·intro g
  have g:=AD g
  refine Ae (dj:=13) O O O O<|Ae (dj:=13) O O O O<|Ae (dj:=13) O O O O<|Ae (dj:=13) O O O O<|B4 O<|Ac O<|Ae (dj:=19) O O O O<|Ae (dj:=19) O O O O<|Ae (dj:=19) O O O O<|Ae (dj:=19) O O O O<|Ae (dj:=19) O O O O<|B4 O<|Ac O<|Ae (dj:=26) O O O O<|Ae (dj:=26) O O O O<|Ae (dj:=26) O O O O<|Ae (dj:=26) O O O O<|Ae (dj:=26) O O O O<|B4 O<|Ac O<|Ae (dj:=33) O O O O<|Ae (dj:=33) O O O O<|Ae (dj:=33) O O O O<|B4 O<|Ac O<|Ae (dj:=38) O O O O<|Ae (dj:=38) O O O O<|Ae (dj:=38) O O O O<|Ae (dj:=38) O O O O<|Ae (dj:=38) O O O O<|B4 O<|Ak<|Bz O<|Af<|Ab O<|Bu<|Ax O O ?_
  refine ⟨?_,d⟩
  unfold GZ
  simp [g]
 intro t
 have t:=AB t
 refine Ag (dj:=13) O O<|Ac O<|Ag (dj:=13) O O<|Be underlying252 O (BA _)<|Ag (dj:=13) O O<|Aa (Ah (AK _) O ‹_› rfl) O ?_
 refine Ag (dj:=13) O O<|Aa (Dr O O) O<|Cn O<|Ac O ?_
 refine Cc 19 O ?_ ?_
 ·intro g
  have g:=AD g
  refine Ae (dj:=19) O O O O<|Ae (dj:=19) O O O O<|Ae (dj:=19) O O O O<|Ae (dj:=19) O O O O<|Ae (dj:=19) O O O O<|B4 O<|Ac O<|Ae (dj:=26) O O O O<|Ae (dj:=26) O O O O<|Ae (dj:=26) O O O O<|Ae (dj:=26) O O O O<|Ae (dj:=26) O O O O<|B4 O<|Ac O<|Ae (dj:=33) O O O O<|Ae (dj:=33) O O O O<|Ae (dj:=33) O O O O<|B4 O<|Ac O<|Ae (dj:=38) O O O O<|Ae (dj:=38) O O O O<|Ae (dj:=38) O O O O<|Ae (dj:=38) O O O O<|Ae (dj:=38) O O O O<|B4 O<|Ak<|Bz O<|Af<|Ab O<|Bu<|Ax O O ?_
  refine ⟨?_,d⟩
  unfold GZ
  simp [g]
 intro o
 have o:=AB o
 refine Ag (dj:=19) O O<|Be underlying25 O (BA _)<|Ag (dj:=19) O O<|Aa (Ah (AK _) O ‹_› rfl) O ?_
 refine Ag (dj:=19) O O<|Be underlying252 O (BA _)<|Ag (dj:=19) O O<|Aa (Ah (AK _) O ‹_› rfl) O ?_
 refine Ag (dj:=19) O O<|B3 O<|Cn O<|Ac O ?_
 refine Cc 26 O ?_ ?_
 ·intro g
  have g:=AD g
  refine Ae (dj:=26) O O O O<|Ae (dj:=26) O O O O<|Ae (dj:=26) O O O O<|Ae (dj:=26) O O O O<|Ae (dj:=26) O O O O<|B4 O<|Ac O<|Ae (dj:=33) O O O O<|Ae (dj:=33) O O O O<|Ae (dj:=33) O O O O<|B4 O<|Ac O<|Ae (dj:=38) O O O O<|Ae (dj:=38) O O O O<|Ae (dj:=38) O O O O<|Ae (dj:=38) O O O O<|Ae (dj:=38) O O O O<|B4 O<|Ak<|Bz O<|Af<|Ab O<|Bu<|Ax O O ?_
  refine ⟨?_,d⟩
  unfold GZ
  simp [g]
 intro v
 have v:=AB v
 refine Ag (dj:=26) O O<|Be underlying25 O (BA _)<|Ag (dj:=26) O O<|Aa (Ah (AK _) O ‹_› rfl) O ?_
 refine Ag (dj:=26) O O<|Be underlying252 O (BA _)<|Ag (dj:=26) O O<|Aa (Ah (AK _) O ‹_› rfl) O ?_
 refine Ag (dj:=26) O O<|Aa (Dr O O) O<|Cn O<|Ac O ?_
 refine Cc 33 O ?_ ?_
 ·intro g
  have g:=AD g
  refine Ae (dj:=33) O O O O<|Ae (dj:=33) O O O O<|Ae (dj:=33) O O O O<|B4 O<|Ac O<|Ae (dj:=38) O O O O<|Ae (dj:=38) O O O O<|Ae (dj:=38) O O O O<|Ae (dj:=38) O O O O<|Ae (dj:=38) O O O O<|B4 O<|Ak<|Bz O<|Af<|Ab O<|Bu<|Ax O O ?_
  refine ⟨?_,d⟩
  unfold GZ
  simp [g]
 intro s
 have s:=AB s
 refine Ag (dj:=33) O O<|Be underlying25 O (BA _)<|Ag (dj:=33) O O<|Aa (Ah (AK _) O ‹_› rfl) O ?_
 refine Ag (dj:=33) O O<|B3 O<|Cn O<|Ac O ?_
 refine Cc 38 O ?_ ?_
 ·intro g
  have g:=AD g
  refine Ae (dj:=38) O O O O<|Ae (dj:=38) O O O O<|Ae (dj:=38) O O O O<|Ae (dj:=38) O O O O<|Ae (dj:=38) O O O O<|B4 O<|Ak<|Bz O<|Af<|Ab O<|Bu<|Ax O O ?_
  refine ⟨?_,d⟩
  unfold GZ
  simp [g]
 intro u
 have u:=AB u
 refine Ag (dj:=38) O O<|Be underlying25 O (BA _)<|Ag (dj:=38) O O<|Aa (Ah (AK _) O ‹_› rfl) O ?_
 refine Ag (dj:=38) O O<|Be underlying252 O (BA _)<|Ag (dj:=38) O O<|Aa (Ah (AK _) O ‹_› rfl) O ?_
 refine Ag (dj:=38) O O<|Aa (Dr O O) O<|Cn O<|Ak<|Aq O ?_ ?_
 ·intro g
  have g:=AD g
  refine Af<|Ab O<|Bu<|Ax O O ?_
  refine ⟨?_,d⟩
  unfold GZ
  simp [g]
 intro m
 have m:=AB m
 have e:GZ a b l k j sh x.i x.s x.n x.p=if sh=0 then decide (x.s.length=0) else if sh=1 then Shapes.ok x.s else Hb x.s:=by
  unfold GZ
  rw [decide_eq_false t,decide_eq_false o,decide_eq_false v,decide_eq_false s,decide_eq_false u,decide_eq_false m];rfl
 rw [e]
 refine B0<|An<|Af<|Be underlying252 O (BA _)<|Aa (Ah (AK _) O ‹_› rfl) O ?_
 refine Ak<|Ao<|Af<|Aa (Da O O) O<|Ab O<|Ak<|Aq O ?_ ?_
 ·intro g
  have g:=AD g
  refine Af<|Be underlying25 O (AN _)<|Aa (Ah (AF _) O ‹_› rfl) O ?_
  refine Aa (Au AC O ‹_›) O ?_
  refine Aa (Da O O) O<|Ab O<|Bc<|Bi<|Av<|Ax O O ?_
  refine ⟨?_,d⟩
  rw [if_pos g];congr 1;exact decide_eq_decide.2 (by omega)
 intro p
 have p:=AB p
 rw [if_neg p]
 refine Af<|Aa (Da O O) O<|Ab O<|Ak<|Aq O ?_ ?_
 ·intro g
  have g:=AD g
  rw [if_pos g]
  refine Af<|Be underlying25 O (AN _)<|Aa (Ah (AF _) O ‹_› rfl) O ?_
  refine Aj O O (EL x.y x.s w c) ?_
  rintro _ w ⟨rfl,f⟩
  exact Ab rfl<|Bc<|Bi<|Av<|Ax rfl rfl<|⟨rfl,bt d f⟩
 intro q
 have q:=AB q
 rw [if_neg q]
 refine Cp<|Bn<|Cm<|Be underlying25 O (AN _)<|Aa (Ah (AF _) O ‹_› rfl) O ?_
 refine Aj O O (TL x.y x.s w c) ?_
 rintro _ w ⟨rfl,f⟩
 exact Ab rfl<|Bc<|Ax rfl rfl<|⟨rfl,bt d f⟩
end Go.Proofs.YtmipoeanpnnjoaaGreatDoor
