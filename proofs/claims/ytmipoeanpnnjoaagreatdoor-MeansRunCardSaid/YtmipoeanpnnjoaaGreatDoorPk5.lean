/- Texts of this proof, one behind the other: GraphShape, GraphNode, GraphShapes, RefNode, MeansCode, MeansDeed, MeansTable, MeansDo, MeansAll, WtsPl, MeansPlain, MeansRun, MeansShape. -/
import Derived.Test.YtmipoeanpnnjoaaGreatDoorPk4
import Derived.Test.YtmipoeanpnnjoaaGreatDoorPk2
import Derived.Test.YtmipoeanpnnjoaaGreatDoorPk3

namespace Go.Proofs.YtmipoeanpnnjoaaGreatDoor
open Go Go.Dd Go.RowKit List Go.Proofs.Tryz
set_option maxRecDepth 100000
theorem Y8 (v:Value) (l:List Int) (i B:Nat) (w:World) (u:w.ownsRow B 3 1 v l.length (l.map (Value.int .i64))) (L:i<l.length) (R:B≤w.heap.size) (U:l.length≤1000000):
  AM prog 260 [v, .int .i64 (i:Int), .int .i64 ((i+1:Nat):Int)] w (fun r A=>A.ownsRow B 3 1 r (l.eraseIdx i).length ((l.eraseIdx i).map (Value.int .i64))∧Below B w A):=by
 have e:=AI u
 obtain ⟨b,D, -,I, -, -⟩:∃b cap,v= .slice (some ⟨b,0,none⟩) l.length cap∧v.ownBlock=some b∧True∧True:=by
  rcases u.2 with ⟨_,T⟩|⟨g,cap,c,rfl, -⟩
  ·omega
  ·exact ⟨g,cap,rfl,rfl,trivial,trivial⟩
 obtain ⟨cap,c,rfl,H,j,E,C,x,p⟩:=FO u I
 rw [Nat.mul_one] at j x
 have e:BS (Value.int .i64) w (.slice (some ⟨b,0,none⟩) l.length cap) l:=e
 have h:=BS.drop e (show i+1≤l.length by omega)
 obtain ⟨a,d⟩:∃a,a=(l.drop (i+1)).map (Value.int .i64):=⟨_,rfl⟩
 have W:a.length=l.length - (i+1):=by rw [d,length_map,length_drop]
 have h:Sl w 1 (cut (.slice (some ⟨b,0,none⟩) l.length cap) 1 (i+1) l.length) (l.length - (i+1)) a:=by
  have:=h;unfold BS at this
  rwa [length_drop,← d] at this
 have o:cut (.slice (some ⟨b,0,none⟩) l.length cap) 1 0 i= .slice (some ⟨b,0,none⟩) i cap:=by
  unfold cut
  simp only [Nat.sub_zero]
  split
  ·rfl
  ·simp [add_lit]
 refine Bb (n:=33) func260 O<|Af<|Ab O<|Bl<|Ac O<|Ac O<|Ac O<|Ac O<|Aa (Au AC O ‹_›) O ?_
 refine Bk (Xw.cut3 AC O O O O (by omega) (by omega) E) O ?_
 rintro _ w rfl
 refine Bh<|Ac O<|Ac O<|Aa (Ex.as (Da O O) (cngA Value.bool (decide_eq_false (by omega)))) O<|Ak<|Ca O false (rfl)<|Co<|Ac O<|Aa (Au AC O ‹_›) O ?_
 refine Ab O<|Ak<|An<|Cw.tail 6 AS (by kernel_rfl)<|Bg O<|Bg O<|Ad (fun z f=>Ex.as (F9 AC O O e.shp (by omega)) o) O<|Bg O<|Bg O<|Ad (fun z f=>E3 (i:=i+1) AC O O e.shp (by omega)) O ?_
 refine Dc (fun z f=> ?_)
 refine Bk (Gd AC DI O O (H.bs f) x (h.bs f) (by rw [d];exact DE (fun _=>rfl) _) (by omega)) O ?_
 rintro _ X ⟨rfl,k,t,J⟩
 have e1:i+(l.length - (i+1))=l.length - 1:=by omega
 rw [e1]
 have l2:(GW c i a).length=cap:=by rw [I4 (by omega)];exact x
 have V:(l.length:Int)=((l.length - 1+1:Nat):Int):=by omega
 refine Ab O<|Bl<|Ac O<|Ac O<|Aa (Au AC O (AI (J9 (base:=B) (sz:=1) k (by rw [Nat.mul_one];exact l2) (by omega) C p))) O<|Ac O<|Aa (Ex.cutLHc AC O O O (show l.length - 1≤l.length by omega) E (by omega)) O ?_
 have K:l.length - (l.length - 1)=0+1:=by omega
 rw [K]
 refine Lw.valU (Xw.clear (m:=0) AC DI O O k (by omega)) ?_
 rintro _ S ⟨y,q,M⟩
 have s:((l.eraseIdx i).length)=l.length - 1:=by rw [length_eraseIdx,if_pos L]
 have BF:(GW (GW c i a) (l.length - 1) (replicate (0+1) (Value.int .i64 0))).take ((l.length - 1)*1)=(l.eraseIdx i).map (Value.int .i64):=by
  have N:GW (GW c i a) (l.length - 1) (replicate (0+1) (Value.int .i64 0))=(GW c i a).take (l.length - 1)++(replicate (0+1) (Value.int .i64 0)++(GW c i a).drop (l.length - 1+1)):=by simp [GW]
  rw [Nat.mul_one,N,take_left' (by rw [length_take];omega)]
  have Q:GW c i a=(c.take i++a)++c.drop (i+a.length):=by simp [GW]
  rw [Q,take_left' (by rw [length_append,length_take];omega)]
  have G:c.take i=(l.take i).map (Value.int .i64):=by
   have:=cngA (take i) j
   rw [take_take,Nat.min_eq_left (by omega)] at this
   rw [this,map_take]
  rw [G,d,← map_append,eraseIdx_eq_take_drop_succ]
 have F:=J9 (base:=B) (sz:=1) (n:=l.length - 1) y (by rw [Nat.mul_one,I4 (by simp;omega)];exact l2) (by omega) C p
 rw [BF] at F
 refine Bl<|Ac O<|Ab O<|Bc<|Ax O O ?_
 rw [s]
 exact ⟨F,(((Below.refl B w).trans (f.mono R)).grown t (by have:=f.size;omega) (by rintro _ ⟨⟩;exact p)).grown q (by have:=f.size;omega) (by rintro _ ⟨⟩;exact p)⟩
def Rl (s:List Int) (k:Int):List Int:=if (s.length:Int)≤k then [] else if s.length=1 then [1] else s.eraseIdx k.toNat
theorem PM (u:Value) (s:List Int) (k:Int) (w:World) (l:BS (Value.int .i64) w u s) (m:0≤k) (j:s.length≤1000000):
  AM prog 255 [u, .int .i64 k] w (fun r h=>BS (Value.int .i64) h r (Rl s k)∧Below w.heap.size w h):=by
 refine Bb (n:=21) func255 O<|Af<|Ab O<|Ak<|An<|Ao<|Af<|Ac O<|Ac O<|Aa (Au AC O ‹_›) O ?_
 refine Aa (Ds O O) O<|Ab O<|Ak<|Aq O ?_ ?_
 ·intro g
  have g:=AD g
  refine Af<|Ab O<|Bc<|Bi<|Av<|Ax O O ?_
  exact ⟨by rw [Rl,if_pos (by omega)];exact C0 _ _,Below.refl _ _⟩
 intro g
 have g:=AB g
 refine Af<|Ac O<|Aa (Au AC O ‹_›) O ?_
 refine Aa (Da O O) O<|Ab O<|Ak<|Aq O ?_ ?_
 ·intro b
  have b:=AD b
  refine Af<|Bk (Dl (vs:=[(1:Int)].map (Value.int .i64)) AC DI O O O O O) O ?_
  rintro v f ⟨a, -,c, -⟩
  refine Ab O<|Bc<|Bi<|Av<|Ax O O ?_
  exact ⟨by rw [Rl,if_neg (by omega),if_pos (by omega)];exact AQ a,c⟩
 intro b
 have b:=AB b
 obtain ⟨i,rfl⟩:∃i:Nat,k=(i:Int):=⟨k.toNat,by omega⟩
 refine Cp<|Bn<|Cm<|Ac O<|Aj O O (Hl u s w l (by omega)) ?_
 rintro v f ⟨a,c⟩
 refine Ac O<|Ac O<|Aa (Ex.as (De O O (by omega)) (cngA (Value.int .i64) (show (i:Int)+1=((i+1:Nat):Int) by omega))) O<|Aj O O (Y8 v s i w.heap.size f a (by omega) c.size j) ?_
 rintro r o ⟨d,e⟩
 refine Ab O<|Bc<|Ax O O ?_
 refine ⟨?_,c.trans e⟩
 rw [Rl,if_neg (by omega),if_neg (by omega),Int.toNat_natCast]
 exact AQ d
def Mn (s o:List Int):List Int:=if s.length=o.length then o.map (fun k=>s.getD k.toNat default) else []
theorem RB (u v:Value) (s o:List Int) (w:World) (E:BS (Value.int .i64) w u s) (H:BS (Value.int .i64) w v o) (D:∀k ∈ o,0≤k∧k<(o.length:Int)) (K:o.length≤1000000):
  AM prog 253 [u,v] w (fun r f=>BS (Value.int .i64) f r (Mn s o)∧Below w.heap.size w f):=by
 refine Bb (n:=27) func253 O<|Af<|Ab O<|Bh<|Ac O<|Aa (Au AC O ‹_›) O ?_
 refine Ac O<|Aa (Au AC O ‹_›) O ?_
 refine Aa (Cs O O) O<|Ak<|Aq O ?_ ?_
 ·intro g
  have x:¬s.length=o.length:=fun e=>by rw [e] at g;simp at g
  refine Af<|Ab O<|Bu<|Ax O O ?_
  exact ⟨by rw [Mn,if_neg x];exact C0 _ _,Below.refl _ _⟩
 intro g
 have x:s.length=o.length:=by simp at g;omega
 refine B0<|An<|Af<|Ac O<|Aa (Au AC O ‹_›) O ?_
 refine Ac O<|Ak<|Ao ?_
 refine Bq (S:=(Nat×Value)) (fun z=>[(0,u),(1,v),(4,z.2),(12,v),(13, .int .i64 (o.length:Int)),(14, .int .i64 (z.1:Int))]) (fun z f=>z.1≤o.length∧Below w.heap.size w f∧f.ownsRow w.heap.size 3 1 z.2 z.1 (((o.take z.1).map (fun k=>s.getD k.toNat default)).map (Value.int .i64))) (fun z=>o.length - z.1) ((0, .slice none 0 0)) ⟨rfl,rfl,rfl,rfl,rfl,rfl,trivial⟩ ?_ ?_
 ·exact ⟨Nat.zero_le _,Below.refl _ _,⟨rfl, .inl ⟨rfl,rfl⟩⟩⟩
 rintro ⟨i,r⟩ I ⟨G,d,b⟩
 dsimp only at G d b ⊢
 have j:=E.bs d
 have m:=H.bs d
 refine Af<|B3 O<|Ak<|An<|Aq O ?_ ?_
 ·intro h
  have a:i<o.length:=by have:=AD h;omega
  obtain ⟨k,p⟩:∃k,k=o.getD i default:=⟨_,rfl⟩
  have l:k ∈ o:=by rw [p,getD_eq_getElem?_getD,getElem?_eq_getElem a];exact getElem_mem a
  have F:=D k l
  refine B0<|An<|Ao<|Af<|Aa (Ay AC O O ‹_› _ O (by omega)) O ?_
  refine Aa (Ex.as (Bj (AK _) O m a) (cngA (Value.int .i64) p.symm)) O<|Ab O<|Ak<|Bw<|Ac O<|Ac O<|Ac O<|Aa (Ay AC O O j k.toNat (by omega) (by omega)) O<|Aa (Bj (AK _) O j (show k.toNat<s.length by omega)) O<|Bk (Dl (vs:=[s.getD k.toNat default].map (Value.int .i64)) AC DI O O O O O) O ?_
  rintro q L ⟨t, -,A, -⟩
  have y:=d.trans (A.mono (AA d))
  have z1:=AA d
  have z2:=A.size
  refine Bk (Dp (base:=w.heap.size) AC DI O (by decide) O O (AL b A) (AI t) (DE (fun _=>rfl) _) (by omega) (by omega) (by omega)) O ?_
  rintro C J ⟨c,B, -⟩
  have e1:((o.take i).map (fun k=>s.getD k.toNat default)).map (Value.int .i64)++[s.getD k.toNat default].map (Value.int .i64)=((o.take (i+1)).map (fun k=>s.getD k.toNat default)).map (Value.int .i64):=by
   rw [take_succ_eq_append_getElem a,map_append,map_append]
   have:o[i]=k:=by rw [p,getD_eq_getElem?_getD,getElem?_eq_getElem a];rfl
   rw [this];rfl
  rw [e1] at c
  refine Ab O<|Bf<|Bn<|Ch<|B7 O (by omega)<|Ac O<|Bf ?_
  exact Ap (Pw.next ((i+1,C)) ⟨rfl,rfl,rfl,rfl,rfl,rfl,trivial⟩ (⟨a,y.trans B,c⟩) (by simp only;omega))
 intro h
 have a:i=o.length:=by have:=AB h;omega
 subst a
 rw [take_length] at b
 refine Bp<|Al<|Al<|Bd<|Cm<|Ac O<|Ab O<|Bc<|Ax O O ?_
 refine ⟨?_,d⟩
 rw [Mn,if_pos x]
 exact AQ b
def NP (l:List (List Int)) (k:Nat):List Int:=match IH k (l.headD []) l.tail with
 |some s=>if k<s.length then s else []
 |none=>[]
theorem UP {l:List Int} {j:Nat} {z:Int} (h:j<l.length):GW (l.map (Value.int .i64)) j [.int .i64 z]=(l.set j z).map (Value.int .i64):=by
 rw [QD (by rw [length_map];exact h),map_set]
theorem EU {l:List Int} {j:Nat} (h:j<l.length):l.getD j default ∈ l:=by
 rw [getD_eq_getElem?_getD,getElem?_eq_getElem h];exact getElem_mem h
theorem RG (v:Value) (ps:List (Value×List Int)) (k:Nat) (w:World) (h:LI w v ps) (h0:0<ps.length) (h4:ps.length≤4) (hb:∀p ∈ ps,p.2.length≤4∧∀x ∈ p.2,0≤x∧x≤64):
  AM prog 254 [v, .int .i64 (k:Int)] w (fun r H=>BS (Value.int .i64) H r (NP (BE ps) k)∧Below w.heap.size w H):=by
 obtain ⟨d,a,rfl⟩:∃d a,ps=d::a:=by
  cases ps with
  |nil=>simp at h0
  |cons d a=>exact ⟨d,a,rfl⟩
 have s_0:=h.each d (by simp)
 have F:=hb d (by simp)
 have T:=h.sl
 have D:BS (fun p:Value×List Int=>p.1) w (cut v 1 1 (a.length+1)) a:=BS.drop h.sl (show 1≤(d::a).length by simp)
 have W:∀s,IH k d.2 (BE a)=some s→NP (BE (d::a)) k=if k<s.length then s else []:=fun s hs=>by
  show (match IH k d.2 (BE a) with|some s=>if k<s.length then s else []|none=>[])=_
  rw [hs]
 have C:IH k d.2 (BE a)=none→NP (BE (d::a)) k=[]:=fun hs=>by
  show (match IH k d.2 (BE a) with|some s=>if k<s.length then s else []|none=>[])=_
  rw [hs]
 obtain ⟨Z,hs0⟩:∃Z,Z=d.2:=⟨_,rfl⟩
 rw [← hs0] at s_0 F W C
 obtain ⟨R,hRES⟩:∃R,R=NP (BE (d::a)) k:=⟨_,rfl⟩
 rw [← hRES] at W C ⊢
 simp only [length_cons] at h4
 refine Bb (n:=64) func254 O<|Af<|Ab O<|Bl<|Ac O<|Aa (Ay BB O O T 0 O (by simp)) O<|Aa (Ex.as (Bj (AF _) O T (show 0<(d::a).length by simp)) O) O<|Aj O O (Hl d.1 Z w s_0 (by omega)) ?_
 rintro u w1 ⟨b,Q⟩
 have ub:=AG b
 have E:=D.bs Q
 refine Ab O<|Bh<|Ac O<|Aa (Ex.as (E3 (i:=1) BB O O (T.bs Q).shp (by simp)) O) O<|Aa (Au BB O E) O<|Ac O<|Ak<|Ao ?_
 refine Bq (S:=(Nat×List Int)) (fun z=>[(0,v),(1, .int .i64 (k:Int)),(5,u),(15,cut v 1 1 (a.length+1)),(16, .int .i64 (a.length:Int)),(17, .int .i64 (z.1:Int))]) (fun z H=>z.1≤a.length∧Below w.heap.size w H∧H.ownsRow w.heap.size 3 1 u z.2.length (z.2.map (Value.int .i64))∧IH k z.2 (BE (a.drop z.1))=IH k Z (BE a)∧z.2.length≤4∧(∀m,m<z.2.length→0≤z.2.getD m default∧z.2.getD m default≤64*((z.1:Int)+1))) (fun z=>a.length - z.1) ((0,Z)) ⟨rfl,rfl,rfl,rfl,rfl,rfl,trivial⟩ ?_ ?_
 ·exact ⟨Nat.zero_le _,Q,b,rfl,F.1,fun m Y=>⟨(F.2 _ (EU Y)).1,by have:=(F.2 _ (EU Y)).2;simp only;omega⟩⟩
 clear b
 rintro ⟨i,s⟩ w2 ⟨hi,M,b,hj,hs4,U⟩
 dsimp only at hi M b hj hs4 U ⊢
 have c:=D.bs M
 have s_u:BS (Value.int .i64) w2 u s:=AQ b
 refine Af<|B3 O<|Ak<|An<|Aq O ?_ ?_
 ·intro g
  have l:i<a.length:=by have:=AD g;omega
  obtain ⟨p,hp⟩:∃p,p=a[i]:=⟨_,rfl⟩
  have X:p ∈ d::a:=mem_cons_of_mem _ (by rw [hp];exact getElem_mem l)
  have G:=(h.each p X).bs M
  obtain ⟨x,hx⟩:∃x,x=p.2:=⟨_,rfl⟩
  have b_x:=hb p X
  rw [← hx] at G b_x
  have eg:(a.getD i default).1=p.1:=by rw [hp,getD_eq_getElem?_getD,getElem?_eq_getElem l];rfl
  have ed:BE (a.drop i)=x::BE (a.drop (i+1)):=by rw [drop_eq_getElem_cons l,BE,map_cons,← hp,← hx]
  have hst:IH k Z (BE a)=match Ms k s x with|some A=>IH k A (BE (a.drop (i+1)))|none=>none:=by rw [← hj,ed];rfl
  have N:Ms k s x=none→R=[]:=fun e=>C (by rw [hst,e])
  refine B0<|An<|Ao<|Af<|Aa (Ay BB O O c i O l) O<|Aa (Ex.as (Bj (AF _) O c l) eg) O<|Ab O<|Bh<|Ac O<|Aa (Au AC O ‹_›) O ?_
  refine Ac O<|Aa (Au AC O ‹_›) O ?_
  refine Aa (Cs O O) O<|Ac O ?_
  refine Cc 26 O ?_ ?_
  ·intro I
   have I:¬x.length=s.length:=fun e=>by rw [e] at I;simp at I
   refine Ae (dj:=26) O O O O<|Ae (dj:=26) O O O O<|Ae (dj:=26) O O O O<|Ae (dj:=26) O O O O<|B4 O<|Ak<|Bz O<|Af<|Ab O<|Bu<|Bi<|Av<|Av<|Bi<|Av<|Ax O O ?_
   exact ⟨by rw [N (by unfold Ms;rw [if_neg (fun h=>I h.1)])];exact C0 _ _,M⟩
  intro I
  have I:x.length=s.length:=by simp at I;omega
  refine Ag (dj:=26) O O<|Ac O<|Ag (dj:=26) O O<|Ac O<|Ag (dj:=26) O O<|Aa (Au AC O ‹_›) O ?_
  refine Ag (dj:=26) O O<|Aa (Ds O O) O<|Cn O<|Ak<|Aq O ?_ ?_
  ·intro o
   have o:¬k<s.length:=by have:=AD o;omega
   refine Af<|Ab O<|Bu<|Bi<|Av<|Av<|Bi<|Av<|Ax O O ?_
   exact ⟨by rw [N (by unfold Ms;rw [if_neg (fun h=>o h.2.1)])];exact C0 _ _,M⟩
  intro o
  have o:k<s.length:=by have:=AB o;omega
  have bk:=U k o
  have xk:=b_x.2 _ (EU (show k<x.length by omega))
  refine Co<|Ac O<|Aa (Au AC O ‹_›) O ?_
  refine Ac O<|Ak<|Ao ?_
  refine Bq (S:=(Nat×List Int)) (fun y=>[(0,v),(1, .int .i64 (k:Int)),(5,u),(7,p.1),(15,cut v 1 1 (a.length+1)),(16, .int .i64 (a.length:Int)),(17, .int .i64 (i:Int)),(32,p.1),(33, .int .i64 (x.length:Int)),(34, .int .i64 (y.1:Int))]) (fun y H=>y.1≤x.length∧Below w.heap.size w H∧H.ownsRow w.heap.size 3 1 u y.2.length (y.2.map (Value.int .i64))∧y.2=(if k<y.1 then s.set k (s.getD k default+x.getD k default) else s)∧(∀m,m<y.1→m≠k→s.getD m default=x.getD m default)) (fun y=>x.length - y.1) ((0,s)) ⟨rfl,rfl,rfl,rfl,rfl,rfl,rfl,rfl,rfl,rfl,trivial⟩ ?_ ?_
  ·exact ⟨Nat.zero_le _,M,b,by rw [if_neg (by omega)],fun _ h=>by omega⟩
  clear b s_u G c
  rintro ⟨j,A⟩ w3 ⟨hjx,q,b,f,Y⟩
  dsimp only at hjx q b f Y ⊢
  have G:=(h.each p X).bs q
  rw [← hx] at G
  have ls' :A.length=s.length:=by rw [f];split<;>simp
  refine Af<|B3 O<|Ak<|An<|Aq O ?_ ?_
  ·intro g3
   have t:j<x.length:=by have:=AD g3;omega
   obtain ⟨gb,_, -,B, -,hgb⟩:∃gb cap,u= .slice (some ⟨gb,0,none⟩) A.length cap∧u.ownBlock=some gb∧True∧w.heap.size≤gb:=by
    rcases b.2 with ⟨_,h0⟩|⟨g,cap,cur,rfl,hbb, -⟩
    ·omega
    ·exact ⟨g,cap,rfl,rfl,trivial,hbb⟩
   have e_j:A.getD j default=s.getD j default:=by
    rw [f]
    split
    ·rw [getD_eq_getElem?_getD,getElem?_set_ne (by omega),← getD_eq_getElem?_getD]
    ·rfl
   have cj:(A.map (Value.int .i64))[j*1]? =some (.int .i64 (s.getD j default)):=by
    rw [Nat.mul_one,getElem?_map,getElem?_eq_getElem (by omega),← e_j,getD_eq_getElem?_getD,getElem?_eq_getElem (by omega)];rfl
   refine B0<|An<|Ao<|Af<|Ac O<|Aa (Ay AC O O ‹_› _ O (by omega)) O ?_
   refine Aa (Bj (AK _) O ‹_› (by omega)) O ?_
   refine Ab O<|Ab O<|Ak<|Ao<|Af<|Ac O<|Ac O<|Aa (Da O O) O<|Ab O<|Ak<|Aq O ?_ ?_
   ·intro V
    have V:j=k:=by have:=AD V;omega
    subst V
    refine Bw<|Ac O<|Ac O<|Aa (F4 AC O O b B j O (by omega)) O<|Aa (Ex.ldO (AK _) O b B cj) O<|Ac O<|B7 O (by omega)<|Aa (F4 AC O O b B j O (by omega)) O<|Az (Xu.stO1 (BA _) O O O b B (show j*1<_ by rw [length_map];omega)) ?_
    rintro w4 ⟨J,hg,hz⟩
    rw [Nat.mul_one,UP (by omega)] at J
    have hB4:=q.grown hg (AA q) (by rintro _ e;cases e;exact hgb)
    refine Bf<|Bn<|Bn<|Ch<|B7 O (by omega)<|Ac O<|Bf ?_
    exact Ap (Pw.next ((j+1,A.set j (s.getD j default+x.getD j default))) ⟨rfl,rfl,rfl,rfl,rfl,rfl,rfl,rfl,rfl,rfl,trivial⟩ (⟨t,hB4,by rw [length_set];exact J,by rw [if_pos (by omega),f,if_neg (by omega)],fun m h1 h2=>Y m (by omega) h2⟩) (by simp only;omega))
   intro V
   have V:j≠k:=by have:=AB V;omega
   refine Af<|Ac O<|Ac O<|Aa (F4 AC O O b B j O (by omega)) O<|Aa (Ex.ldO (AK _) O b B cj) O<|Ac O<|Aa (Cs O O) O<|Ab O<|Ak<|Aq O ?_ ?_
   ·intro L
    have L:¬s.getD j default=x.getD j default:=fun e=>by rw [e] at L;simp at L
    refine Af<|Ab O<|Bc<|Bi<|Bi<|Av<|Av<|Bi<|Bi<|Av<|Av<|Bi<|Av<|Ax O O ?_
    exact ⟨by rw [N (by unfold Ms;rw [if_neg (fun h=>L (h.2.2 j (by omega) V))])];exact C0 _ _,q⟩
   intro L
   have L:s.getD j default=x.getD j default:=by simpa using L
   refine Cp<|Bn<|Bn<|Ch<|B7 O (by omega)<|Ac O<|Bf ?_
   exact Ap (Pw.next ((j+1,A)) ⟨rfl,rfl,rfl,rfl,rfl,rfl,rfl,rfl,rfl,rfl,trivial⟩ (⟨t,q,b,by rw [f];by_cases e:k<j;rw [if_pos e,if_pos (by omega)];rw [if_neg e,if_neg (by omega)],fun m h1 h2=>(Nat.lt_succ_iff_lt_or_eq.1 h1).elim (fun h=>Y m h h2) (fun e=>e ▸ L)⟩) (by simp only;omega))
  intro g3
  have t:j=x.length:=by have:=AB g3;omega
  subst t
  rw [if_pos (by omega)] at f
  have e1:Ms k s x=some A:=by unfold Ms;rw [if_pos ⟨I,o,fun m h1 h2=>Y m (by omega) h2⟩,f]
  have hbd:∀m,m<A.length→0≤A.getD m default∧A.getD m default≤64*(((i+1:Nat):Int)+1):=fun m hm' =>by
   have b1:=U m (by omega)
   rw [f]
   by_cases e:m=k
   ·subst e
    rw [getD_eq_getElem?_getD,getElem?_set_self (by omega),Option.getD_some]
    omega
   ·rw [getD_eq_getElem?_getD,getElem?_set_ne (by omega),← getD_eq_getElem?_getD]
    omega
  refine Bp<|Al<|Al<|Bd<|Bn<|Ch<|B7 O (by omega)<|Ac O<|Bf ?_
  exact Ap (Pw.next ((i+1,A)) ⟨rfl,rfl,rfl,rfl,rfl,rfl,trivial⟩ (⟨l,q,b,by rw [hst,e1],by simp only;omega,hbd⟩) (by simp only;omega))
 intro g
 have l:i=a.length:=by have:=AB g;omega
 subst l
 have K:=W s (by rw [← hj,drop_length];rfl)
 refine Bp<|Al<|Al<|Bd<|Ap<|B8<|An<|Af<|Ac O<|Ac O<|Aa (Au AC O ‹_›) O ?_
 refine Aa (Ds O O) O<|Ak<|Aq O ?_ ?_
 ·intro o
  have o:¬k<s.length:=by have:=AD o;omega
  refine Af<|Ab O<|Bu<|Ax O O ?_
  exact ⟨by rw [K,if_neg o];exact C0 _ _,M⟩
 intro o
 have o:k<s.length:=by have:=AB o;omega
 refine Co<|Ac O<|Ab O<|Bc<|Ax O O ?_
 exact ⟨by rw [K,if_pos o];exact s_u,M⟩

def DO (k:BitVec 8):Option (List Int):=(ML.find? (fun p=>decide (p.2.1=(k.toNat:Int)))).map (·.2.2)
def CJ (k:BitVec 8) (i s:List Int) (n p:Int):Bool:=match DO k with
 |some [a,b,c,d,e,f]=>GZ a b c d e f i s n p
 |_=>false
theorem IB {l m c d b sh:Int} {i s:List Int} {n p:Int}:GZ l m c d b sh i s n p=true↔(l≤(i.length:Int)∧(i.length:Int)≤m∧c≤n∧n≤d∧0≤p∧p≤b)∧(if sh=0 then decide (s.length=0) else if sh=1 then Shapes.ok s else Hb s)=true:=by
 unfold GZ
 rw [Bool.and_eq_true,Bool.not_eq_true',Bool.or_eq_false_iff,Bool.or_eq_false_iff,Bool.or_eq_false_iff,Bool.or_eq_false_iff,Bool.or_eq_false_iff]
 simp only [decide_eq_false_iff_not]
 constructor
 ·rintro ⟨⟨⟨⟨⟨⟨h,f⟩,k⟩,g⟩,j⟩,e⟩,a⟩
  exact ⟨⟨by omega,by omega,by omega,by omega,by omega,by omega⟩,a⟩
 ·rintro ⟨⟨h,f,k,g,j,e⟩,a⟩
  exact ⟨⟨⟨⟨⟨⟨by omega,by omega⟩,by omega⟩,by omega⟩,by omega⟩,by omega⟩,a⟩
def IJ (k:BitVec 8) (s:List Int) (n p:Int) (ins:List (List Int)):List Int:=
 let a:=ins.getD 0 []
 let b:=ins.getD 1 []
 if k=1#8∨k=2#8 then s else if k=5#8∨k=6#8 then a else if k=3#8∨k=4#8 then (if a=b then a else [])
 else if k=10#8 then (if Shapes.size a=Shapes.size s then s else []) else if k=7#8 then (if DV a b=0 then [a.getD 0 default,b.getD 1 default] else [])
 else if k=8#8 then (if BZ a b n p=0 then FG a b n p else []) else if k=9#8 then (if CE a n=0 then GJ a n else [])
 else if k=11#8 then Mn a s else if k=12#8 then NP ins n.toNat else if k=13#8 then Rl a n else []
theorem WB (v:Value) (ps:List (Value×List Int)) (j:Int) (w:World) (h:LI w v ps) (i:0≤j∧j<(ps.length:Int)):
  AM prog 237 [.agg [v].toArray, .int .i64 j] w (fun r f=>r=(ps.getD j.toNat default).1∧Below w.heap.size w f):=by
 have b:=Below.refl w.heap.size w
 have a:=h.sl
 refine Bb (n:=10) func237 O<|Af<|B5 (cs:=[v]) O O O ?_
 rintro g w c e d -
 have b:=b.bs d
 have a:=a.bs d
 refine Ab O<|Bl<|Be underlying250 O (Lr _)<|Aa (Ah (Qt _) O ‹_› rfl) O ?_
 refine Ac O<|Aa (Ay BB O O a j.toNat (show j=((j.toNat:Nat):Int) by omega) (show j.toNat<ps.length by omega)) O<|Aa (Ex.as (Bj (AF _) O a (show j.toNat<ps.length by omega)) O) O<|Ab O<|Bc<|Ax O O ?_
 exact ⟨rfl,b⟩
theorem FR {s:List Int} (h:Shapes.ok s=true):1≤s.length∧s.length≤4:=((Shapes.ok_iff s).1 h).1
theorem Ys {s:List Int} (h:Shapes.ok s=true):∀x ∈ s,1≤x∧x≤64:=((Shapes.ok_iff s).1 h).2.1
theorem La {k:Nat}:∀(l:List (List Int)) (s a:List Int),IH k s l=some a→a.length=s.length
 |[],s,a,h=>by cases h;rfl
 |x::l,s,a,h=>by
  unfold IH at h
  cases e:Ms k s x with
  |none=>rw [e] at h;cases h
  |some t=>
   rw [e] at h
   have b:=La l t a h
   unfold Ms at e
   split at e
   ·cases e;rw [b,length_set]
   ·cases e
theorem V3 {l:List (List Int)} {k:Nat} (h:(l.headD []).length≤4):(NP l k).length≤4:=by
 unfold NP
 cases e:IH k (l.headD []) l.tail with
 |none=>simp
 |some s=>
  have:=La _ _ _ e
  simp only
  split
  ·omega
  ·simp
theorem Ub {l:List Int} (h:UB l=true) (n:l.length≤4):∀k ∈ l,0≤k∧k<(l.length:Int):=by
 rw [IF] at h
 have m:∀j,j<l.length→(j:Int) ∈ l:=fun j p=>by simpa using h j p
 match l,n with
 |[],_=>intro k o;cases o
 |[a],_=>
  have:=m 0 (by simp)
  simp at this ⊢;omega
 |[a,b],_=>
  have g:=m 0 (by simp);have f:=m 1 (by simp)
  simp at g f ⊢;omega
 |[a,b,c],_=>
  have g:=m 0 (by simp);have f:=m 1 (by simp);have i:=m 2 (by simp)
  simp at g f i ⊢;omega
 |[a,b,c,d],_=>
  have g:=m 0 (by simp);have f:=m 1 (by simp);have i:=m 2 (by simp);have q:=m 3 (by simp)
  simp at g f i q ⊢;omega
 |a::b::c::d::e::l,n=>simp at n
theorem BI {k:BitVec 8} {i s:List Int} {n p:Int} (h:CJ k i s n p=true) {a b c d e f:Int} (g:DO k=some [a,b,c,d,e,f]):(a≤(i.length:Int)∧(i.length:Int)≤b∧c≤n∧n≤d∧0≤p∧p≤e)∧(if f=0 then decide (s.length=0) else if f=1 then Shapes.ok s else Hb s)=true:=by
 unfold CJ at h
 rw [g] at h
 exact IB.1 h
theorem Xn:DO 1#8=some [0,0,0,0,0,1]:=by decide
theorem Xm:DO 2#8=some [0,0,0,0,0,1]:=by decide
theorem V0:DO 3#8=some [2,2,0,0,0,0]:=by decide
theorem Vz:DO 4#8=some [2,2,0,0,0,0]:=by decide
theorem Xl:DO 5#8=some [1,1,0,0,0,0]:=by decide
theorem Vy:DO 6#8=some [1,1,0,31,0,0]:=by decide
theorem Ty:DO 7#8=some [2,2,0,0,0,0]:=by decide
theorem R4:DO 8#8=some [2,2,1,8,8,0]:=by decide
theorem Vx:DO 9#8=some [1,1,1,64,0,0]:=by decide
theorem MK:DO 10#8=some [1,1,0,0,0,1]:=by decide
theorem LJ:DO 11#8=some [1,1,0,0,0,2]:=by decide
theorem Oy:DO 12#8=some [1,4,0,3,0,0]:=by decide
theorem MJ:DO 13#8=some [1,1,0,3,0,0]:=by decide
theorem KW:∀k:BitVec 8,(DO k).isSome=true→(k=1#8∨k=2#8∨k=3#8∨k=4#8∨k=5#8∨k=6#8∨k=7#8∨k=8#8∨k=9#8∨k=10#8∨k=11#8∨k=12#8∨k=13#8):=by decide+kernel
theorem Y1 (n:Int) (h:0≤n):(n.toNat:Int)=n:=by omega
set_option maxHeartbeats 1000000 in
theorem TJ (x:N5) (v:Value) (ps:List (Value×List Int)) (w:World) (hx:N5.at w x) (h:LI w v ps) (E:CJ x.k x.i x.s x.n x.p=true) (hi:∀j ∈ x.i,0≤j∧j<(ps.length:Int)) (M:∀p ∈ ps,Shapes.ok p.2=true):
  AM prog 236 [x.v, .func (.func 237) #[.agg [v].toArray] #[]] w (fun r X=>BS (Value.int .i64) X r (IJ x.k x.s x.n x.p (x.i.map fun j=>(ps.getD j.toNat default).2))∧Below w.heap.size w X∧∀b,r.ownBlock=some b→w.heap.size≤b∧b<X.heap.size):=by
 obtain ⟨G,hG⟩:∃G,G=IJ x.k x.s x.n x.p (x.i.map fun j=>(ps.getD j.toNat default).2):=⟨_,rfl⟩
 rw [← hG]
 obtain ⟨W,hW⟩:∃W,W=w:=⟨_,rfl⟩
 have N:=Below.refl W.heap.size W
 have h_i:=hx.i
 have V:=hx.s
 have hli:=h_i.le
 obtain ⟨s,hqs⟩:∃s,s=x.i.map fun j=>ps.getD j.toNat default:=⟨_,rfl⟩
 have hq2:BE s=x.i.map fun j=>(ps.getD j.toNat default).2:=by rw [hqs];simp [BE]
 have lq:s.length=x.i.length:=by rw [hqs,length_map]
 have K:∀p ∈ s,p ∈ ps:=fun p hp=>by
  rw [hqs] at hp
  obtain ⟨j,hj,rfl⟩:=List.mem_map.1 hp
  have:=hi j hj
  rw [getD_eq_getElem?_getD,getElem?_eq_getElem (by omega)]
  exact getElem_mem _
 have li4:x.i.length≤4:=by
  unfold CJ at E
  split at E
  ·rename_i a b c d e f he
   have h1:=(IB.1 E).1
   have h2:∀p ∈ ML,p.2.2.getD 1 0≤4:=by decide
   unfold DO at he
   cases hf:ML.find? (fun p=>decide (p.2.1=(x.k.toNat:Int))) with
   |none=>rw [hf] at he;cases he
   |some p=>
    rw [hf] at he
    have h3:=h2 p (mem_of_find?_eq_some hf)
    have h4:p.2.2=[a,b,c,d,e,f]:=by simpa using he
    rw [h4] at h3
    simp at h3
    omega
  ·cases E
 rw [← hW] at hx h h_i V
 rw [← hW]
 refine Bb (n:=124) func236 O<|Af<|B5 (cs:=x.cells) O O O ?_
 rintro A_x w eA_x Y hn -
 have N:=N.bs hn
 have h_i:=h_i.bs hn
 have V:=V.bs hn
 refine Ab O<|Bl<|Ab O<|Bh<|Be underlying25 O (AN _)<|Aa (Ah (AF _) O ‹_› rfl) O ?_
 refine Aa (Au AC O ‹_›) O ?_
 refine Ac O<|Ak<|Ao ?_
 have zx:=AH Y
 have zW:=AA N
 obtain ⟨B,hBd⟩:∃B,B=w.heap.size:=⟨_,rfl⟩
 rw [← hBd] at zx zW
 refine Bq (S:=(Nat×Value)) (fun z=>[(1, .func (.func 237) #[.agg [v].toArray] #[]),(2, .pointer (some ⟨A_x,0,none⟩)),(4, .slice none 0 0),(5,z.2),(9,x.x),(10, .int .i64 (x.i.length:Int)),(11, .int .i64 (z.1:Int))]) (fun z X=>z.1≤x.i.length∧Below W.heap.size W X∧AO X A_x 25 x.cells∧X.ownsRow B 23 1 z.2 z.1 ((s.take z.1).map (·.1))∧B≤X.heap.size) (fun z=>x.i.length - z.1) ((0, .slice none 0 0)) ⟨rfl,rfl,rfl,rfl,rfl,rfl,rfl,trivial⟩ ?_ ?_
 ·exact ⟨Nat.zero_le _,N,Y,⟨rfl, .inl ⟨rfl,rfl⟩⟩,by omega⟩
 rintro ⟨i,u⟩ k ⟨hi1,N,Y,o_u,hAx⟩
 dsimp only at hi1 N Y o_u ⊢
 have h1:=h.bs N
 have h_i:=hx.i.bs N
 have V:=hx.s.bs N
 have zB:=AA N
 refine Af<|B3 O<|Ak<|An<|Aq O ?_ ?_
 ·intro g
  have hi' :i<x.i.length:=by have:=AD g;omega
  obtain ⟨j,hj⟩:∃j,j=x.i.getD i default:=⟨_,rfl⟩
  have hjm:j ∈ x.i:=by rw [hj];exact EU hi'
  obtain ⟨q,hq⟩:∃q,q=ps.getD j.toNat default:=⟨_,rfl⟩
  have hqi:s[i]'(by omega)=q:=by
   have ej:x.i[i]=j:=by rw [hj,getD_eq_getElem?_getD,getElem?_eq_getElem hi'];rfl
   simp only [hqs,getElem_map,ej];exact hq.symm
  refine B0<|An<|Ao<|Af<|Aa (Ay AC O O ‹_› _ O (by omega)) O ?_
  refine Aa (Ex.as (Bj (AK _) O h_i hi') (cngA (Value.int .i64) hj.symm)) O<|Ab O<|Ak<|Bw<|Ac O<|Ac O<|Ac O<|Ec (p:=[.agg [v].toArray]) (q:=[]) O O O (WB v ps j k h1 (hi j hjm)) ?_
  rintro _ w2 ⟨rfl,hn⟩
  rw [← hq]
  have s_q:BS (Value.int .i64) w2 q.1 q.2:=(h1.bs hn).each q (K q (hqi ▸ getElem_mem _))
  have o_u:=AL o_u hn
  have Y:=Y.bs hn
  have z2:=hn.size
  refine Bk (Dl (vs:=[q.1]) BB HT O O O (by rw [all_cons,s_q.one'];rfl) O) O ?_
  rintro r Z ⟨o_r, -,o, -⟩
  have o_u:=AL o_u o
  have Y:=Y.bs o
  have z3:=o.size
  refine Bk (Di (base:=B) BB HT O (by decide) O O o_u (AI o_r) (by rw [all_cons,s_q.one'];rfl) (by omega) (by omega) (by omega)) O ?_
  rintro u' w4 ⟨o_u',hn4,hg4, -⟩
  have ub:=AG o_u
  have Y:=Y.by hg4 (fun e=>by have:=ub _ e.symm;omega)
  have e1:(s.take i).map (·.1)++[q.1]=(s.take (i+1)).map (·.1):=by
   rw [take_succ_eq_append_getElem (by omega),map_append,hqi];rfl
  rw [e1] at o_u'
  refine Ab O<|Bf<|Bn<|Ch<|B7 O (by omega)<|Ac O<|Bf ?_
  exact Ap (Pw.next ((i+1,u')) ⟨rfl,rfl,rfl,rfl,rfl,rfl,rfl,trivial⟩ (⟨hi',((N.trans (hn.mono zB)).trans (o.mono (by omega))).trans (hn4.mono zW),Y,o_u',by have:=hn4.size;omega⟩) (by simp only;omega))
 intro g
 have hi' :i=x.i.length:=by have:=AB g;omega
 subst hi'
 rw [← lq,take_length] at o_u
 have Q:LI k u s:=⟨AQ o_u,fun p hp=>h1.each p (K p hp)⟩
 have hq4:∀p ∈ s,p.2.length≤4∧∀y ∈ p.2,0≤y∧y≤64:=fun p hp=>⟨(FR (M p (K p hp))).2,fun y hy=>by have:=Ys (M p (K p hp)) y hy;omega⟩
 have h0:∀(hl:0<s.length),∃q,s.getD 0 default=q∧(BE s).getD 0 []=q.2∧q ∈ s:=fun hl=>⟨s[0],by rw [getD_eq_getElem?_getD,getElem?_eq_getElem hl];rfl,by rw [getD_eq_getElem?_getD,getElem?_map,getElem?_eq_getElem hl];rfl,getElem_mem hl⟩
 have h1q:∀(hl:1<s.length),∃q,s.getD 1 default=q∧(BE s).getD 1 []=q.2∧q ∈ s:=fun hl=>⟨s[1],by rw [getD_eq_getElem?_getD,getElem?_eq_getElem hl];rfl,by rw [getD_eq_getElem?_getD,getElem?_map,getElem?_eq_getElem hl];rfl,getElem_mem hl⟩
 have A:=Q.sl
 rw [← hq2] at hG
 refine Bp<|Al<|Al<|Bd<|Ap<|B8<|An<|Af<|Be underlying25 O (DF _)<|Aa (Ah (DG _) O ‹_› rfl) O ?_
 refine Ak ?_
 refine Fi (St:=Value) (fun y=>[(4,y)]) (fun y X=>Below W.heap.size W X∧BS (Value.int .i64) X y G∧G.length≤4) ?_ ?_
 ·refine Ao<|An<|Af<|Aa (Cl O (show _=some (b8 (1#8)) from rfl)) O<|Ab O<|Ak<|Aq O ?_ ?_
  ·intro g
   have g:x.k=1#8:=AD g
   refine D5 24 (v' := .bool true) O (cngA Value.bool (decide_eq_true g))<|B0<|Bz O<|Bw<|Be underlying25 O (AN _)<|Aa (Ah (AF _) O ‹_› rfl) O ?_
   refine Ab O<|Bf<|Bn ?_
   have k_s:Shapes.ok x.s=true:=(BI (by rw [g] at E;exact E) Xn).2
   have F:G=x.s:=by rw [hG,g];rfl
   exact Dq (x.y) ⟨rfl,trivial⟩ (⟨N,by rw [F];exact V,by rw [F];exact (FR k_s).2⟩)
  intro g1
  have g1:¬x.k=1#8:=AB g1
  refine Bw<|Aa (Cl O (show _=some (b8 (2#8)) from rfl)) O<|Ab O<|Ak<|Aq O ?_ ?_
  ·intro g
   have g:x.k=2#8:=AD g
   refine Bw<|Be underlying25 O (AN _)<|Aa (Ah (AF _) O ‹_› rfl) O ?_
   refine Ab O<|Bf<|Bn ?_
   have k_s:Shapes.ok x.s=true:=(BI (by rw [g] at E;exact E) Xm).2
   have F:G=x.s:=by rw [hG,g];rfl
   exact Dq (x.y) ⟨rfl,trivial⟩ (⟨N,by rw [F];exact V,by rw [F];exact (FR k_s).2⟩)
  intro g2
  have g2:¬x.k=2#8:=AB g2
  refine An<|Af<|Aa (Cl O (show _=some (b8 (5#8)) from rfl)) O<|Ab O<|Ak<|Aq O ?_ ?_
  ·intro g
   have g:x.k=5#8:=AD g
   have H:0<s.length:=by have:=(BI (by rw [g] at E;exact E) Xl).1;omega
   obtain ⟨a,ea,ga,U⟩:=h0 H
   have J:=Q.each a U
   have T:=M a (K a U)
   have I:(s.getD 0 default).1=a.1:=by rw [ea]
   have F:G=a.2:=by rw [hG,g];exact ga
   refine D5 29 (v' := .bool true) O (cngA Value.bool (decide_eq_true g))<|B0<|Bz O<|Bw<|Ac O<|Aa (Ay BB O O A 0 O H) O<|Aa (Ex.as (Bj (AF _) O A H) I) O<|Ab O<|Bf<|Bn ?_
   exact Dq (a.1) ⟨rfl,trivial⟩ (⟨N,by rw [F];exact J,by rw [F];exact (FR T).2⟩)
  intro g5
  have g5:¬x.k=5#8:=AB g5
  refine Bw<|Aa (Cl O (show _=some (b8 (6#8)) from rfl)) O<|Ab O<|Ak<|Aq O ?_ ?_
  ·intro g
   have g:x.k=6#8:=AD g
   have H:0<s.length:=by have:=(BI (by rw [g] at E;exact E) Vy).1;omega
   obtain ⟨a,ea,ga,U⟩:=h0 H
   have J:=Q.each a U
   have T:=M a (K a U)
   have I:(s.getD 0 default).1=a.1:=by rw [ea]
   have F:G=a.2:=by rw [hG,g];exact ga
   refine Bw<|Ac O<|Aa (Ay BB O O A 0 O H) O<|Aa (Ex.as (Bj (AF _) O A H) I) O<|Ab O<|Bf<|Bn ?_
   exact Dq (a.1) ⟨rfl,trivial⟩ (⟨N,by rw [F];exact J,by rw [F];exact (FR T).2⟩)
  intro g6
  have g6:¬x.k=6#8:=AB g6
  refine An<|Af<|Aa (Cl O (show _=some (b8 (3#8)) from rfl)) O<|Ab O<|Ak<|Aq O ?_ ?_
  ·intro g
   have g:x.k=3#8:=AD g
   refine D5 35 (v' := .bool true) O (cngA Value.bool (decide_eq_true g))<|B0<|Bz O<|An ?_
   have H:0<s.length:=by have:=(BI (by rw [g] at E;exact E) V0).1;omega
   obtain ⟨a,ea,ga,U⟩:=h0 H
   have J:=Q.each a U
   have T:=M a (K a U)
   have I:(s.getD 0 default).1=a.1:=by rw [ea]
   have l2:1<s.length:=by have:=(BI (by rw [g] at E;exact E) V0).1;omega
   obtain ⟨b,eb,gb,mb⟩:=h1q l2
   have s_b:=Q.each b mb
   have k_b:=M b (K b mb)
   have eb' :(s.getD 1 default).1=b.1:=by rw [eb]
   have F:G=if a.2=b.2 then a.2 else []:=by rw [hG,g,← ga,← gb];rfl
   refine Cw.any AS (fun w2 t _=> ?_)
   refine Dh (fun X=>Below k.heap.size k X) (fun hC=> ?_) (t)
   have C:=N.trans (t.mono (AA N))
   have R:=V.bs t
   have D:=J.bs t
   have s_b2:=s_b.bs t
   refine Cj (Am (Bs Dy))<|Ai 0 O (fun k l=>B6 O) O<|Ai 1 O (fun k l=>Ay BB O O (A.bs l) 0 O H) O<|Ai 2 O (fun k l=>Ex.as (Bj (AF _) O (A.bs l) H) I) O<|Ai 3 O (fun k l=>B6 O) O<|Ai 4 O (fun k l=>Ay BB O O (A.bs l) 1 O l2) O<|Ai 5 O (fun k l=>Ex.as (Bj (AF _) O (A.bs l) l2) eb') O<|Cb<|AZ.only ‹_› (i:=6) (by kernel_rfl) O ?_
   refine Aj O O (EW a.1 b.1 a.2 b.2 w2 D s_b2) ?_
   rintro _ Z ⟨rfl,o⟩
   have hd3:Below k.heap.size k Z:=t.trans (o.mono t.size)
   have L:=C.trans (o.mono (AA C))
   have hql3:=(A.bs t).bs o
   refine AZ.back<|Cu ‹_› (by kernel_rfl) ?_
   refine Ap<|B8<|Aq O ?_ ?_
   ·intro e
    have e:a.2=b.2:=AD e
    refine Bw<|Ac O<|Aa (Ay BB O O hql3 0 O H) O<|Aa (Ex.as (Bj (AF _) O hql3 H) I) O<|Ab O<|Bf<|Bn ?_
    exact Dq (a.1) ⟨rfl,trivial⟩ (⟨L,by rw [F,if_pos e];exact D.bs o,by rw [F,if_pos e];exact (FR T).2⟩)
   intro e
   have e:¬a.2=b.2:=AB e
   refine Cp<|Bn ?_
   exact Dq ((.slice none 0 0)) ⟨rfl,trivial⟩ (⟨L,by rw [F,if_neg e];exact C0 _ _,by rw [F,if_neg e];exact Nat.zero_le _⟩)
  intro g3
  have g3:¬x.k=3#8:=AB g3
  refine Bw<|Aa (Cl O (show _=some (b8 (4#8)) from rfl)) O<|Ab O<|Ak<|Aq O ?_ ?_
  ·intro g
   have g:x.k=4#8:=AD g
   refine An ?_
   have H:0<s.length:=by have:=(BI (by rw [g] at E;exact E) Vz).1;omega
   obtain ⟨a,ea,ga,U⟩:=h0 H
   have J:=Q.each a U
   have T:=M a (K a U)
   have I:(s.getD 0 default).1=a.1:=by rw [ea]
   have l2:1<s.length:=by have:=(BI (by rw [g] at E;exact E) Vz).1;omega
   obtain ⟨b,eb,gb,mb⟩:=h1q l2
   have s_b:=Q.each b mb
   have k_b:=M b (K b mb)
   have eb' :(s.getD 1 default).1=b.1:=by rw [eb]
   have F:G=if a.2=b.2 then a.2 else []:=by rw [hG,g,← ga,← gb];rfl
   refine Cw.any AS (fun w2 t _=> ?_)
   refine Dh (fun X=>Below k.heap.size k X) (fun hC=> ?_) (t)
   have C:=N.trans (t.mono (AA N))
   have R:=V.bs t
   have D:=J.bs t
   have s_b2:=s_b.bs t
   refine Cj (Am (Bs Dy))<|Ai 0 O (fun k l=>B6 O) O<|Ai 1 O (fun k l=>Ay BB O O (A.bs l) 0 O H) O<|Ai 2 O (fun k l=>Ex.as (Bj (AF _) O (A.bs l) H) I) O<|Ai 3 O (fun k l=>B6 O) O<|Ai 4 O (fun k l=>Ay BB O O (A.bs l) 1 O l2) O<|Ai 5 O (fun k l=>Ex.as (Bj (AF _) O (A.bs l) l2) eb') O<|Cb<|AZ.only ‹_› (i:=6) (by kernel_rfl) O ?_
   refine Aj O O (EW a.1 b.1 a.2 b.2 w2 D s_b2) ?_
   rintro _ Z ⟨rfl,o⟩
   have hd3:Below k.heap.size k Z:=t.trans (o.mono t.size)
   have L:=C.trans (o.mono (AA C))
   have hql3:=(A.bs t).bs o
   refine AZ.back<|Cu ‹_› (by kernel_rfl) ?_
   refine Ap<|B8<|Aq O ?_ ?_
   ·intro e
    have e:a.2=b.2:=AD e
    refine Bw<|Ac O<|Aa (Ay BB O O hql3 0 O H) O<|Aa (Ex.as (Bj (AF _) O hql3 H) I) O<|Ab O<|Bf<|Bn ?_
    exact Dq (a.1) ⟨rfl,trivial⟩ (⟨L,by rw [F,if_pos e];exact D.bs o,by rw [F,if_pos e];exact (FR T).2⟩)
   intro e
   have e:¬a.2=b.2:=AB e
   refine Cp<|Bn ?_
   exact Dq ((.slice none 0 0)) ⟨rfl,trivial⟩ (⟨L,by rw [F,if_neg e];exact C0 _ _,by rw [F,if_neg e];exact Nat.zero_le _⟩)
  intro g4
  have g4:¬x.k=4#8:=AB g4
  refine Af<|Aa (Cl O (show _=some (b8 (10#8)) from rfl)) O<|Ab O<|Ak<|Aq O ?_ ?_
  ·intro g
   have g:x.k=10#8:=AD g
   refine An ?_
   have H:0<s.length:=by have:=(BI (by rw [g] at E;exact E) MK).1;omega
   obtain ⟨a,ea,ga,U⟩:=h0 H
   have J:=Q.each a U
   have T:=M a (K a U)
   have I:(s.getD 0 default).1=a.1:=by rw [ea]
   have k_s:Shapes.ok x.s=true:=(BI (by rw [g] at E;exact E) MK).2
   have F:G=if Shapes.size a.2=Shapes.size x.s then x.s else []:=by rw [hG,g,← ga];rfl
   refine Cw.any AS (fun w2 t _=> ?_)
   refine Dh (fun X=>Below k.heap.size k X) (fun hC=> ?_) (t)
   have C:=N.trans (t.mono (AA N))
   have R:=V.bs t
   have D:=J.bs t
   refine Cj (Am (Bs Dy))<|Ai 0 O (fun k l=>B6 O) O<|Ai 1 O (fun k l=>Ay BB O O (A.bs l) 0 O H) O<|Ai 2 O (fun k l=>Ex.as (Bj (AF _) O (A.bs l) H) I) O<|Ai 4 O (fun k l=>Cd underlying25 O (AN _)) O<|Ai 5 O (fun k l=>Ah (AF _) O (AO.bs ‹_› l) O) O<|Cb ?_
   refine AZ.only ‹_› (i:=3) (by kernel_rfl) O ?_
   refine Aj O O (G5 a.1 a.2 w2 D) ?_
   rintro _ Z ⟨rfl,o⟩
   have hd3:Below k.heap.size k Z:=t.trans (o.mono t.size)
   refine AZ.back<|AZ.only ‹_› (i:=6) (by kernel_rfl) O ?_
   refine Aj O O (G5 x.y x.s Z (R.bs o)) ?_
   rintro _ w4 ⟨rfl,hn4⟩
   have hn34:=o.trans (hn4.mono o.size)
   have hB4:=C.trans (hn34.mono (AA C))
   have hd4:Below k.heap.size k w4:=t.trans (hn34.mono t.size)
   have Y:=(Y.bs t).bs hn34
   refine AZ.back<|Cj (Am (Bs Dy))<|Ai 7 O (fun k l=>Da O O) O<|Cb<|Cu ‹_› (by kernel_rfl) ?_
   refine Ap<|B8<|Aq O ?_ ?_
   ·intro e
    have e:Shapes.size a.2=Shapes.size x.s:=by have:=AD e;omega
    refine Bw<|Be underlying25 O (AN _)<|Aa (Ah (AF _) O ‹_› rfl) O ?_
    refine Ab O<|Bf<|Bn ?_
    exact Dq (x.y) ⟨rfl,trivial⟩ (⟨hB4,by rw [F,if_pos e];exact R.bs hn34,by rw [F,if_pos e];exact (FR k_s).2⟩)
   intro e
   have e:¬Shapes.size a.2=Shapes.size x.s:=by have:=AB e;omega
   refine Cp<|Bn ?_
   exact Dq ((.slice none 0 0)) ⟨rfl,trivial⟩ (⟨hB4,by rw [F,if_neg e];exact C0 _ _,by rw [F,if_neg e];exact Nat.zero_le _⟩)
  intro g10
  have g10:¬x.k=10#8:=AB g10
  refine Af<|Aa (Cl O (show _=some (b8 (7#8)) from rfl)) O<|Ab O<|Ak<|Aq O ?_ ?_
  ·intro g
   have g:x.k=7#8:=AD g
   have F:G=if DV ((BE s).getD 0 []) ((BE s).getD 1 [])=0 then [((BE s).getD 0 []).getD 0 default,((BE s).getD 1 []).getD 1 default] else []:=by rw [hG,g];rfl
   have H:0<s.length:=by have:=(BI (by rw [g] at E;exact E) Ty).1;omega
   obtain ⟨a,ea,ga,U⟩:=h0 H
   have J:=Q.each a U
   have T:=M a (K a U)
   have I:(s.getD 0 default).1=a.1:=by rw [ea]
   have l2:1<s.length:=by have:=(BI (by rw [g] at E;exact E) Ty).1;omega
   obtain ⟨b,eb,gb,mb⟩:=h1q l2
   have s_b:=Q.each b mb
   have k_b:=M b (K b mb)
   have eb' :(s.getD 1 default).1=b.1:=by rw [eb]
   refine Cw.any AS (fun w2 t _=> ?_)
   refine Dh (fun X=>Below k.heap.size k X) (fun hC=> ?_) (t)
   have C:=N.trans (t.mono (AA N))
   have R:=V.bs t
   have D:=J.bs t
   have s_b2:=s_b.bs t
   refine Cj (Bs Dy)<|Ai 0 O (fun k l=>B6 O) O<|Ai 1 O (fun k l=>Ay BB O O (A.bs l) 0 O H) O<|Ai 2 O (fun k l=>Ex.as (Bj (AF _) O (A.bs l) H) I) O<|Ai 3 O (fun k l=>B6 O) O<|Ai 4 O (fun k l=>Ay BB O O (A.bs l) 1 O l2) O<|Ai 5 O (fun k l=>Ex.as (Bj (AF _) O (A.bs l) l2) eb') O<|Cb<|AZ.only ‹_› (i:=6) (by kernel_rfl) O ?_
   rw [ga,gb] at F
   refine Aj O O (Oj a.1 b.1 a.2 b.2 w2 D s_b2) ?_
   rintro _ Z ⟨o,y,rfl,hy0,hy1⟩
   have hd3:Below k.heap.size k Z:=t.trans (o.mono t.size)
   have L:=C.trans (o.mono (AA C))
   have hy:BS (Value.int .i64) Z y G∧G.length≤4:=by
    by_cases e:DV a.2 b.2=0
    ·rw [F,if_pos e];exact ⟨AQ (hy1 e),by simp⟩
    ·rw [F,if_neg e,hy0 e];exact ⟨C0 _ _,by simp⟩
   refine AZ.back<|Cj (Bs Dy)<|Ai 7 O (fun k l=>B6 O) O<|Ai 8 O (fun k l=>As (i:=0) O O) O<|Ai 9 O (fun k l=>As (i:=1) O O) O<|Ai 10 O (fun k l=>Cf O) O<|Cb<|Cu ‹_› (by kernel_rfl) ?_
   exact Bn<|Dq (y) ⟨rfl,trivial⟩ (⟨L,hy.1,hy.2⟩)
  intro g7
  have g7:¬x.k=7#8:=AB g7
  refine Af<|Aa (Cl O (show _=some (b8 (8#8)) from rfl)) O<|Ab O<|Ak<|Aq O ?_ ?_
  ·intro g
   have g:x.k=8#8:=AD g
   have F:G=if BZ ((BE s).getD 0 []) ((BE s).getD 1 []) x.n x.p=0 then FG ((BE s).getD 0 []) ((BE s).getD 1 []) x.n x.p else []:=by rw [hG,g];rfl
   have H:0<s.length:=by have:=(BI (by rw [g] at E;exact E) R4).1;omega
   obtain ⟨a,ea,ga,U⟩:=h0 H
   have J:=Q.each a U
   have T:=M a (K a U)
   have I:(s.getD 0 default).1=a.1:=by rw [ea]
   have l2:1<s.length:=by have:=(BI (by rw [g] at E;exact E) R4).1;omega
   obtain ⟨b,eb,gb,mb⟩:=h1q l2
   have s_b:=Q.each b mb
   have k_b:=M b (K b mb)
   have eb' :(s.getD 1 default).1=b.1:=by rw [eb]
   refine Cw.any AS (fun w2 t _=> ?_)
   refine Dh (fun X=>Below k.heap.size k X) (fun hC=> ?_) (t)
   have C:=N.trans (t.mono (AA N))
   have R:=V.bs t
   have D:=J.bs t
   have s_b2:=s_b.bs t
   refine Cj (Bs Dy)<|Ai 0 O (fun k l=>B6 O) O<|Ai 1 O (fun k l=>Ay BB O O (A.bs l) 0 O H) O<|Ai 2 O (fun k l=>Ex.as (Bj (AF _) O (A.bs l) H) I) O<|Ai 3 O (fun k l=>B6 O) O<|Ai 4 O (fun k l=>Ay BB O O (A.bs l) 1 O l2) O<|Ai 5 O (fun k l=>Ex.as (Bj (AF _) O (A.bs l) l2) eb') O<|Ai 6 O (fun k l=>Cd underlying25 O (BA _)) O<|Ai 7 O (fun k l=>Ah (AK _) O (AO.bs ‹_› l) O) O<|Ai 8 O (fun k l=>Cd underlying25 O (BA _)) O<|Ai 9 O (fun k l=>Ah (AK _) O (AO.bs ‹_› l) O) O<|Cb ?_
   refine AZ.only ‹_› (i:=10) (by kernel_rfl) O ?_
   rw [ga,gb] at F
   refine Aj O O (NS a.2 b.2 x.n x.p a.1 b.1 w2 D s_b2) ?_
   rintro _ Z ⟨o,y,m,rfl,o_y,hy0,hy1⟩
   have hd3:Below k.heap.size k Z:=t.trans (o.mono t.size)
   have L:=C.trans (o.mono (AA C))
   have hy:BS (Value.int .i64) Z y G∧G.length≤4:=by
    by_cases e:BZ a.2 b.2 x.n x.p=0
    ·rw [F,if_pos e,← hy1 e];exact ⟨AQ o_y,by rw [hy1 e];simp [FG]⟩
    ·rw [F,if_neg e,(hy0 e).1];exact ⟨C0 _ _,by simp⟩
   refine AZ.back<|Cj (Bs Dy)<|Ai 11 O (fun k l=>B6 O) O<|Ai 12 O (fun k l=>As (i:=0) O O) O<|Ai 13 O (fun k l=>As (i:=1) O O) O<|Ai 14 O (fun k l=>Cf O) O<|Cb<|Cu ‹_› (by kernel_rfl) ?_
   exact Bn<|Dq (y) ⟨rfl,trivial⟩ (⟨L,hy.1,hy.2⟩)
  intro g8
  have g8:¬x.k=8#8:=AB g8
  refine Af<|Aa (Cl O (show _=some (b8 (9#8)) from rfl)) O<|Ab O<|Ak<|Aq O ?_ ?_
  ·intro g
   have g:x.k=9#8:=AD g
   have F:G=if CE ((BE s).getD 0 []) x.n=0 then GJ ((BE s).getD 0 []) x.n else []:=by rw [hG,g];rfl
   have H:0<s.length:=by have:=(BI (by rw [g] at E;exact E) Vx).1;omega
   obtain ⟨a,ea,ga,U⟩:=h0 H
   have J:=Q.each a U
   have T:=M a (K a U)
   have I:(s.getD 0 default).1=a.1:=by rw [ea]
   refine Cw.any AS (fun w2 t _=> ?_)
   refine Dh (fun X=>Below k.heap.size k X) (fun hC=> ?_) (t)
   have C:=N.trans (t.mono (AA N))
   have R:=V.bs t
   have D:=J.bs t
   refine Cj (Bs Dy)<|Ai 0 O (fun k l=>B6 O) O<|Ai 1 O (fun k l=>Ay BB O O (A.bs l) 0 O H) O<|Ai 2 O (fun k l=>Ex.as (Bj (AF _) O (A.bs l) H) I) O<|Ai 3 O (fun k l=>Cd underlying25 O (BA _)) O<|Ai 4 O (fun k l=>Ah (AK _) O (AO.bs ‹_› l) O) O<|Cb ?_
   refine AZ.only ‹_› (i:=5) (by kernel_rfl) O ?_
   rw [ga] at F
   refine Aj O O (My a.2 x.n a.1 w2 D) ?_
   rintro _ Z ⟨o,y,m,rfl,o_y,hy0,hy1⟩
   have hd3:Below k.heap.size k Z:=t.trans (o.mono t.size)
   have L:=C.trans (o.mono (AA C))
   have hy:BS (Value.int .i64) Z y G∧G.length≤4:=by
    by_cases e:CE a.2 x.n=0
    ·rw [F,if_pos e,← hy1 e];exact ⟨AQ o_y,by rw [hy1 e];simp [GJ]⟩
    ·rw [F,if_neg e,(hy0 e).1];exact ⟨C0 _ _,by simp⟩
   refine AZ.back<|Cj (Bs Dy)<|Ai 6 O (fun k l=>B6 O) O<|Ai 7 O (fun k l=>As (i:=0) O O) O<|Ai 8 O (fun k l=>As (i:=1) O O) O<|Ai 9 O (fun k l=>Cf O) O<|Cb<|Cu ‹_› (by kernel_rfl) ?_
   exact Bn<|Dq (y) ⟨rfl,trivial⟩ (⟨L,hy.1,hy.2⟩)
  intro g9
  have g9:¬x.k=9#8:=AB g9
  refine Af<|Aa (Cl O (show _=some (b8 (11#8)) from rfl)) O<|Ab O<|Ak<|Aq O ?_ ?_
  ·intro g
   have g:x.k=11#8:=AD g
   have k_s:Hb x.s=true:=(BI (by rw [g] at E;exact E) LJ).2
   have k_c:UB x.s=true∧x.s.length≤4:=by unfold Hb at k_s;rw [Bool.and_eq_true] at k_s;exact ⟨k_s.1,AD k_s.2⟩
   have F:G=Mn ((BE s).getD 0 []) x.s:=by rw [hG,g];rfl
   have H:0<s.length:=by have:=(BI (by rw [g] at E;exact E) LJ).1;omega
   obtain ⟨a,ea,ga,U⟩:=h0 H
   have J:=Q.each a U
   have T:=M a (K a U)
   have I:(s.getD 0 default).1=a.1:=by rw [ea]
   refine Cw.any AS (fun w2 t _=> ?_)
   refine Dh (fun X=>Below k.heap.size k X) (fun hC=> ?_) (t)
   have C:=N.trans (t.mono (AA N))
   have R:=V.bs t
   have D:=J.bs t
   refine Cj (Bs Dy)<|Ai 0 O (fun k l=>B6 O) O<|Ai 1 O (fun k l=>Ay BB O O (A.bs l) 0 O H) O<|Ai 2 O (fun k l=>Ex.as (Bj (AF _) O (A.bs l) H) I) O<|Ai 3 O (fun k l=>Cd underlying25 O (AN _)) O<|Ai 4 O (fun k l=>Ah (AF _) O (AO.bs ‹_› l) O) O<|Cb ?_
   refine AZ.only ‹_› (i:=5) (by kernel_rfl) O ?_
   rw [ga] at F
   refine Aj O O (RB a.1 x.y a.2 x.s w2 D R (Ub k_c.1 k_c.2) (by omega)) ?_
   rintro y Z ⟨s_y,o⟩
   have hd3:Below k.heap.size k Z:=t.trans (o.mono t.size)
   have L:=C.trans (o.mono (AA C))
   have lG:G.length≤4:=by rw [F];unfold Mn;split;rw [length_map];exact k_c.2;simp
   refine AZ.back<|Cj (Bs Dy)<|Ai 6 O (fun k l=>Cf O) O<|Cb<|Cu ‹_› (by kernel_rfl) ?_
   refine Bn ?_
   exact Dq (y) ⟨rfl,trivial⟩ (⟨L,by rw [F];exact s_y,lG⟩)
  intro g11
  have g11:¬x.k=11#8:=AB g11
  refine Af<|Aa (Cl O (show _=some (b8 (12#8)) from rfl)) O<|Ab O<|Ak<|Aq O ?_ ?_
  ·intro g
   have g:x.k=12#8:=AD g
   refine Bw<|Ac O<|Be underlying25 O (BA _)<|Aa (Ah (AK _) O ‹_› rfl) O ?_
   have H:0<s.length:=by have:=(BI (by rw [g] at E;exact E) Oy).1;omega
   have n0:0≤x.n:=by have:=(BI (by rw [g] at E;exact E) Oy).1;omega
   have F:G=NP (BE s) x.n.toNat:=by rw [hG,g];rfl
   have hj:=RG u s x.n.toNat k Q H (by omega) hq4
   rw [Y1 x.n n0] at hj
   have lG:G.length≤4:=by
    rw [F]
    obtain ⟨a, -,ga,U⟩:=h0 H
    refine V3 ?_
    have:(BE s).headD []=(BE s).getD 0 []:=by cases BE s<;>rfl
    rw [this,ga];exact (hq4 a U).1
   refine Aj O O (hj) ?_
   rintro y Z ⟨s_y,o⟩
   have L:=N.trans (o.mono (AA N))
   refine Ab O<|Bf<|Bn ?_
   exact Dq (y) ⟨rfl,trivial⟩ (⟨L,by rw [F];exact s_y,lG⟩)
  intro g12
  have g12:¬x.k=12#8:=AB g12
  refine Af<|Aa (Cl O (show _=some (b8 (13#8)) from rfl)) O<|Ab O<|Ak<|Aq O ?_ ?_
  ·intro g
   have g:x.k=13#8:=AD g
   have n0:0≤x.n:=by have:=(BI (by rw [g] at E;exact E) MJ).1;omega
   have F:G=Rl ((BE s).getD 0 []) x.n:=by rw [hG,g];rfl
   have H:0<s.length:=by have:=(BI (by rw [g] at E;exact E) MJ).1;omega
   obtain ⟨a,ea,ga,U⟩:=h0 H
   have J:=Q.each a U
   have T:=M a (K a U)
   have I:(s.getD 0 default).1=a.1:=by rw [ea]
   refine Cw.any AS (fun w2 t _=> ?_)
   refine Dh (fun X=>Below k.heap.size k X) (fun hC=> ?_) (t)
   have C:=N.trans (t.mono (AA N))
   have R:=V.bs t
   have D:=J.bs t
   refine Cj (Bs Dy)<|Ai 0 O (fun k l=>B6 O) O<|Ai 1 O (fun k l=>Ay BB O O (A.bs l) 0 O H) O<|Ai 2 O (fun k l=>Ex.as (Bj (AF _) O (A.bs l) H) I) O<|Ai 3 O (fun k l=>Cd underlying25 O (BA _)) O<|Ai 4 O (fun k l=>Ah (AK _) O (AO.bs ‹_› l) O) O<|Cb ?_
   refine AZ.only ‹_› (i:=5) (by kernel_rfl) O ?_
   rw [ga] at F
   refine Aj O O (PM a.1 a.2 x.n w2 D n0 (by have:=(FR T).2;omega)) ?_
   rintro y Z ⟨s_y,o⟩
   have hd3:Below k.heap.size k Z:=t.trans (o.mono t.size)
   have L:=C.trans (o.mono (AA C))
   have lG:G.length≤4:=by
    have:=(FR T).2
    rw [F];unfold Rl
    split
    ·simp
    ·split
     ·simp
     ·rw [length_eraseIdx];split<;>omega
   refine AZ.back<|Cj (Bs Dy)<|Ai 6 O (fun k l=>Cf O) O<|Cb<|Cu ‹_› (by kernel_rfl) ?_
   refine Bn ?_
   exact Dq (y) ⟨rfl,trivial⟩ (⟨L,by rw [F];exact s_y,lG⟩)
  intro g13
  have g13:¬x.k=13#8:=AB g13
  exfalso
  have hs:(DO x.k).isSome=true:=by
   cases e:DO x.k with
   |some _=>rfl
   |none=>unfold CJ at E;rw [e] at E;cases E
  rcases KW x.k hs with e|e|e|e|e|e|e|e|e|e|e|e|e
  ·exact g1 e
  ·exact g2 e
  ·exact g3 e
  ·exact g4 e
  ·exact g5 e
  ·exact g6 e
  ·exact g7 e
  ·exact g8 e
  ·exact g9 e
  ·exact g10 e
  ·exact g11 e
  ·exact g12 e
  ·exact g13 e
 rintro y w2 ⟨C,s_y,hG4⟩
 refine Af<|Ac O<|Aj O O (Hl y G w2 s_y (by omega)) ?_
 rintro r Z ⟨o_r,o⟩
 refine Aj O O (Md r G Z (AQ o_r)) ?_
 rintro _ w4 ⟨rfl,hn4⟩
 refine Ab O<|Bc<|Ax O O ?_
 have kr:=(BM.clip o_r).bs hn4
 have z2:=AA C
 exact ⟨kr.slT,(C.trans (o.mono (AA C))).trans (hn4.mono (by have:=o.size;omega)),fun b e=>by have:=kr.lt b e;omega⟩

instance:Inhabited N5:=⟨⟨0#8, .slice none 0 0, .slice none 0 0,[],[],0,0⟩⟩
theorem Ek (a:N5):a.cells.length=5:=rfl
structure GN (w:World) (v:Value) (ls:List N5):Prop where
 sl:Sl w 5 v ls.length (Hg N5.cells ls)
 each:∀a ∈ ls,N5.at w a
theorem GN.bs {w b:World} {v:Value} {c:List N5} (h:GN w v c) (g:Below w.heap.size w b):GN b v c:=⟨h.sl.bs g,fun a d=>(h.each a d).bs g⟩
theorem GN.cells {w:World} {v:Value} {b:List N5} (_h:GN w v b) {i:Nat} (d:i<b.length):∀k,k<5→∃q,(b[i]).cells[k]? =some q∧(Hg N5.cells b)[i*5+k]? =some q:=fun k c=>by
 rw [IE (fun a _=>Ek a) d c]
 exact ⟨_,getElem?_eq_getElem (by rw [Ek];exact c),getElem?_eq_getElem _⟩
def NQ (m:Nat) (l:List Int):Bool:=l.any fun n=>decide (n<0)||decide ((m:Int)≤n)
def I3 (acc:List (List Int)) (x:N5):Option (List Int):=
 if CJ x.k x.i x.s x.n x.p && !NQ acc.length x.i && Shapes.ok (IJ x.k x.s x.n x.p (x.i.map fun j=>acc.getD j.toNat [])) then some (IJ x.k x.s x.n x.p (x.i.map fun j=>acc.getD j.toNat [])) else none
def DX:List (List Int)→List N5→Option (List (List Int))
 |acc,[]=>some acc
 |acc,x::l=>match I3 acc x with
  |some s=>DX (acc++[s]) l
  |none=>none
def K7 (k:BitVec 8):Bool:=match DO k with
 |some r=>decide (r.getD 1 0≠0)
 |none=>false
def CM (ls:List N5):Nat:=(ls.filter fun a=>decide (a.k=1#8)).length
def ID (ls:List N5):Option (List (List Int)):=
 if ls.length<1∨32<ls.length then none else match DX [] ls with
 |some ss=>if CM ls=1∧K7 (ls.getD (ls.length - 1) default).k=true then some ss else none
 |none=>none
theorem Yi (n:Int) (A m:Nat) (w:World) (b:AO w A 3 [.int .i64 (m:Int)]):AM prog 235 [.int .i64 n, .pointer (some ⟨A,0,none⟩)] w (fun r a=>r= .bool (decide (n<0)||decide ((m:Int)≤n))∧a=w):=by
 refine Bb (n:=11) func235 O<|Af<|Ab O<|Bl<|Ac O<|B3 O<|Ac O ?_
 refine Cc 6 O ?_ ?_
 ·intro g
  refine Ae (dj:=6) O O O O<|Ae (dj:=6) O O O O<|Ae (dj:=6) O O O O<|B4 O<|Ab O<|Bc<|Ax O O ?_
  rw [g]
  exact ⟨rfl,rfl⟩
 intro g
 refine Ag (dj:=6) O O<|Ac O<|Ag (dj:=6) O O<|Aa (Ah (AK _) O ‹_› rfl) O ?_
 refine Ag (dj:=6) O O<|Aa (Ds O O) O<|Cn O<|Ab O<|Bc<|Ax O O ?_
 rw [g]
 exact ⟨rfl,rfl⟩
theorem Xz (v:Value) (l:List Int) (A m:Nat) (w:World) (o:BS (Value.int .i64) w v l) (d:AO w A 3 [.int .i64 (m:Int)]):AM prog 252 [v, .func (.func 235) #[] [.pointer (some ⟨A,0,none⟩)].toArray] w (fun r e=>(∃j,r= .int .i64 j∧decide (0≤j)=NQ m l)∧e=w):=by
 have s:=o.le
 refine Bb (n:=19) func252 O<|Af<|Ab O<|Bh<|Ac O<|Aa (Au AC O ‹_›) O ?_
 refine Ac O<|Ak<|Ao ?_
 refine Bq (S:=Nat) (fun i=>[(0,v),(1, .func (.func 235) #[] [.pointer (some ⟨A,0,none⟩)].toArray),(7, .int .i64 (l.length:Int)),(8, .int .i64 (i:Int))]) (fun i e=>i≤l.length∧NQ m (l.take i)=false∧e=w) (fun i=>l.length - i) (0) ⟨rfl,rfl,rfl,rfl,trivial⟩ ?_ ?_
 ·exact ⟨Nat.zero_le _,rfl,rfl⟩
 rintro i k ⟨t,f,rfl⟩
 refine Af<|B3 O<|Ak<|An<|Aq O ?_ ?_
 ·intro c
  have a:i<l.length:=by have:=AD c;omega
  have e1:NQ m (l.take (i+1))=(NQ m (l.take i)||(decide (l.getD i default<0)||decide ((m:Int)≤l.getD i default))):=by
   unfold NQ
   rw [take_succ_eq_append_getElem a,any_append]
   simp [a]
  refine B0<|An<|Ao<|Af<|Ac O<|Ab O<|Bl<|Ac O<|Ac O<|Ac O<|Aa (Ay AC O O ‹_› _ O (by omega)) O ?_
  refine Aa (Bj (AK _) O ‹_› (by omega)) O ?_
  refine Ec (p:=[]) (q:=[.pointer (some ⟨A,0,none⟩)]) O O O (Yi (l.getD i default) A m k d) ?_
  rintro _ _ ⟨rfl,rfl⟩
  refine Ak<|Aq O ?_ ?_
  ·intro g
   refine Af<|Ac O<|Ab O<|Bc<|Bi<|Av<|Av<|Bi<|Av<|Ax O O ?_
   refine ⟨⟨(i:Int),rfl, ?_⟩,rfl⟩
   have h:l.getD i default ∈ l:=EU a
   have:NQ m l=true:=by unfold NQ;exact List.any_eq_true.2 ⟨_,h,g⟩
   rw [this,decide_eq_true (by omega)]
  intro g
  refine Cp<|Bn<|Ch<|B7 O (by omega)<|Ac O<|Bf ?_
  exact Ap (Pw.next (i+1) ⟨rfl,rfl,rfl,rfl,trivial⟩ (⟨a,by rw [e1,f,g];rfl,rfl⟩) (by omega))
 intro b
 have a:i=l.length:=by have:=AB b;omega
 subst a
 rw [take_length] at f
 refine Bp<|Al<|Al<|Bd<|Cm<|Ab O<|Bc<|Ax O O ?_
 exact ⟨⟨-1,rfl,by rw [f];rfl⟩,rfl⟩
theorem X0 (v:Value) (l:List Int) (A m:Nat) (w:World) (d:BS (Value.int .i64) w v l) (a:AO w A 3 [.int .i64 (m:Int)]):AM prog 234 [v, .func (.func 235) #[] [.pointer (some ⟨A,0,none⟩)].toArray] w (fun r b=>r= .bool (NQ m l)∧Below w.heap.size w b):=by
 refine Bb (n:=9) func234 O<|Af<|Ab O<|Bl<|Ac O<|Ac O<|Aj O O (Xz v l A m w d a) ?_
 rintro _ _ ⟨⟨j,rfl,c⟩,rfl⟩
 exact Aa (Ds rfl rfl) rfl<|Ab rfl<|Bc<|Ax rfl rfl<|⟨cngA Value.bool c,Below.refl _ _⟩
theorem VQ (u:Value) (ps:List (Value×List Int)) (w:World) (b:BS (fun p:Value×List Int=>p.1) w u ps):AM prog 238 [u] w (fun r a=>r=clip u∧Below w.heap.size w a):=by
 refine Bb (n:=9) func238 O<|Af<|Ab O<|Bl<|Ac O<|Ac O<|Aa (Au BB O ‹_›) O ?_
 refine Ac O<|Aa (Au BB O ‹_›) O ?_
 exact Aa (Fm BB rfl rfl rfl b.shp) rfl<|Ab rfl<|Bc<|Ax rfl rfl<|⟨rfl,Below.refl _ _⟩
theorem Ny {k:BitVec 8} {r:List Int} (h:DO k=some r):KD (b8 k) (kv r)∧(∀v,KD (b8 k) v→v=kv r)∧r.length=6:=by
 unfold DO at h
 cases hf:ML.find? (fun p=>decide (p.2.1=(k.toNat:Int))) with
 |none=>rw [hf] at h;cases h
 |some p=>
  rw [hf] at h
  obtain rfl:p.2.2=r:=by simpa using h
  have a:=mem_of_find?_eq_some hf
  have b:p.2.1=(k.toNat:Int):=by have:=find?_some hf;simpa using this
  have g:∀p ∈ ML,∀q ∈ ML,p.2.1=q.2.1→p=q:=by decide
  have c:∀p ∈ ML,p.2.2.length=6:=by decide
  refine ⟨⟨p,a,by rw [b],rfl⟩,fun v ⟨q,d,f,e⟩=> ?_,c p a⟩
  have:(k.toNat:Int)=q.2.1:=by injection f
  rw [e,g p a q d (b.trans this)]
theorem PH {k:BitVec 8} (h:DO k=none):∀v,¬KD (b8 k) v:=fun v ⟨q,b,c,_⟩=>by
 unfold DO at h
 have a:ML.find? (fun p=>decide (p.2.1=(k.toNat:Int)))=none:=by simpa using h
 have:=List.find?_eq_none.1 a q b
 have e:(k.toNat:Int)=q.2.1:=by injection c
 simp [e] at this
theorem SQ {l:List Int} (h:l.length=6):∃a b c d e f,l=[a,b,c,d,e,f]:=by
 match l,h with
 |[a,b,c,d,e,f],_=>exact ⟨a,b,c,d,e,f,rfl⟩
theorem LC {w b:World} {M:Nat} {d:TypeDesc} {S:Value→Value→Prop} {r:Option Nat} (h:FE w M d S) (g:w.grownBy b r) (a:some M≠r):FE b M d S:=by
 have e:=h.lt
 obtain ⟨i,c,h,f⟩:=h
 exact ⟨i,c,by rw [g.block M e a];exact h,f⟩
abbrev GC:TypeId:=25
abbrev Tv:TypeId:=252
def Km (B:Nat) (w:World) (u:Value) (ps:List (Value×List Int)):Prop:=∀p ∈ ps,BS (Value.int .i64) w p.1 p.2∧∀b,p.1.ownBlock=some b→(B≤b∧b<w.heap.size)∧u.ownBlock≠some b
theorem Km.bs {B:Nat} {w c:World} {u:Value} {ps:List (Value×List Int)} (h:Km B w u ps) (g:Below w.heap.size w c):Km B c u ps:=fun p a=>⟨(h p a).1.bs g,fun b e=>⟨⟨((h p a).2 b e).1.1,Nat.lt_of_lt_of_le ((h p a).2 b e).1.2 g.size⟩,((h p a).2 b e).2⟩⟩
theorem Km.by {B A:Nat} {w c:World} {u:Value} {ps:List (Value×List Int)} (h:Km B w u ps) (g:w.grownBy c (some A)) (f:A<B):Km B c u ps:=fun p a=>
 ⟨(h p a).1.keep (fun b d e=>g.block b d (fun e2=>by have:=((h p a).2 b e).1.1;cases e2;omega)),fun b e=>⟨⟨((h p a).2 b e).1.1,Nat.lt_of_lt_of_le ((h p a).2 b e).1.2 g.size⟩,((h p a).2 b e).2⟩⟩
theorem Km.grow {B:Nat} {w f:World} {u d:Value} {ps:List (Value×List Int)} (h:Km B w u ps) (g:w.grownBy f u.ownBlock) (c:d.ownBlock=u.ownBlock∨d.ownBlock=some w.heap.size):Km B f d ps:=fun p a=>
 ⟨(h p a).1.keep (fun b i e=>g.block b i (fun e2=>((h p a).2 b e).2 e2.symm)),fun b e=>⟨⟨((h p a).2 b e).1.1,Nat.lt_of_lt_of_le ((h p a).2 b e).1.2 g.size⟩,fun e2=>by
  rcases c with c|c
  ·exact ((h p a).2 b e).2 (c ▸ e2)
  ·rw [c] at e2;have:=((h p a).2 b e).1.2;cases e2;omega⟩⟩
theorem Ix:∀(c:List N5) (a d:List (List Int)),DX a c=some d→∀x ∈ c,CJ x.k x.i x.s x.n x.p=true
 |[],_,_,_,x,b=>by cases b
 |y::c,a,d,h,x,b=>by
  unfold DX at h
  cases e:I3 a y with
  |none=>rw [e] at h;cases h
  |some s=>
   rw [e] at h
   rcases List.mem_cons.1 b with rfl|b
   ·unfold I3 at e
    split at e
    ·rename_i f
     simp only [Bool.and_eq_true] at f
     exact f.1.1
    ·cases e
   ·exact Ix c _ _ h x b
theorem IA {k:BitVec 8} {i s:List Int} {n p:Int} (h:CJ k i s n p=true):∃a b c d e f,DO k=some [a,b,c,d,e,f]:=by
 unfold CJ at h
 split at h
 ·rename_i a b c d e f g;exact ⟨a,b,c,d,e,f,g⟩
 ·cases h
set_option maxHeartbeats 1000000 in
theorem RC (v:Value) (o:List N5) (W:World) (h:GN W v o):
  AM prog 187 [.agg [v].toArray] W (fun r w' =>Below W.heap.size W w' ∧match ID o with
   |none=>r= .tuple #[.slice none 0 0, .int .i64 1]
   |some ss=>∃u ps,r= .tuple #[u, .int .i64 0]∧LI w' u ps∧BE ps=ss):=by
 obtain ⟨R,hR⟩:∃R,R=ID o:=⟨_,rfl⟩
 rw [← hR]
 have t:=Below.refl W.heap.size W
 have N:=h.sl
 have hle:=h.sl.le
 refine Bb (n:=92) func187 O<|Af<|B5 (cs:=[v]) O O O ?_
 rintro A_g w eA_g f hn -
 have t:=t.bs hn
 have N:=N.bs hn
 refine Ab O<|Ab O<|Bl<|Be underlying64 O (CQ _)<|Aa (Ah (CZ _) O ‹_› rfl) O ?_
 refine Aa (Au BQ O ‹_›) O ?_
 refine Ab O<|Bh<|Ac O<|B3 O<|Ac O ?_
 refine Cc 19 O ?_ ?_
 ·intro g
  have g:=AD g
  refine Ae (dj:=19) O O O O<|Ae (dj:=19) O O O O<|B4 O<|Ak<|Bz O<|Af<|Ab O<|Ab O<|Bu<|Bx O O O ?_
  have hN:R=none:=by rw [hR,ID,if_pos (by omega)]
  rw [hN]
  exact ⟨t,rfl⟩
 intro g1
 have g1:=AB g1
 refine Ag (dj:=19) O O<|Ac O<|Ag (dj:=19) O O<|Aa (Dr O O) O<|Cn O<|Ak<|Aq O ?_ ?_
 ·intro g
  have g:=AD g
  refine Af<|Ab O<|Ab O<|Bu<|Bx O O O ?_
  have hN:R=none:=by rw [hR,ID,if_pos (by omega)]
  rw [hN]
  exact ⟨t,rfl⟩
 intro g2
 have g2:=AB g2
 have hgs:ID o=match DX [] o with|some ss=>if CM o=1∧K7 (o.getD (o.length - 1) default).k=true then some ss else none|none=>none:=by rw [ID,if_neg (by omega)]
 have hRn:DX [] o=none→R=none:=fun e=>by rw [hR,hgs,e]
 have z1:=AA t
 have y_g:=AH f
 refine Co<|Aj O O (Vv w) ?_
 rintro _ w1 ⟨hn1,M,rfl,hMl,D⟩
 have yM:=D.lt
 have f:=f.bs hn1
 have t:=t.trans (hn1.mono z1)
 have z2:=hn1.size
 refine Aa (C4 (vs:=[]) (cs:=[.slice none 0 0]) O (by kernel_rfl)) O<|Bk (Xw.new Xo) O ?_
 rintro _ w2 ⟨rfl,l,hn2,hz2⟩
 have f:=f.bs hn2
 have D:=D.bs hn2
 have t:=t.trans (hn2.mono (by omega))
 obtain ⟨A_t,hAt⟩:∃A_t,A_t=w1.heap.size:=⟨_,rfl⟩
 rw [← hAt] at l
 rw [← hAt]
 refine Ab O<|Az (Bv (cs:=[.slice none 0 0]) (k:=1) (by kernel_rfl) O O O O l O) ?_
 rintro w3 ⟨l,hg3,hz3⟩
 have f:=f.by hg3 (by rintro ⟨⟩;omega)
 have D:=LC D hg3 (by rintro ⟨⟩;omega)
 have t:=t.grown hg3 (by omega) (by rintro _ ⟨⟩;omega)
 obtain ⟨B,hBd⟩:∃B,B=w3.heap.size:=⟨_,rfl⟩
 have yB:A_g<B∧M<B∧A_t<B∧W.heap.size≤B:=by omega
 clear N
 have N:=h.sl.bs t
 refine Ab O<|Bh<|Be underlying64 O (CQ _)<|Aa (Ah (CZ _) O ‹_› rfl) O ?_
 refine Aa (Au BQ O ‹_›) O ?_
 refine Ac O<|Ak<|Ao ?_
 refine Bq (S:=(Nat×Nat×Value×List (Value×List Int))) (fun z=>[(1, .pointer (some ⟨A_g,0,none⟩)),(4, .int .i64 (o.length:Int)),(5, .map (some M)),(6, .pointer (some ⟨A_t,0,none⟩)),(7, .int .i64 (z.2.1:Int)),(26,v),(27, .int .i64 (o.length:Int)),(28, .int .i64 (z.1:Int))]) (fun z w' =>z.1≤o.length∧Below W.heap.size W w' ∧B≤w'.heap.size∧FE w' M (.int .u8) KD∧AO w' A_g 64 [v]∧AO w' A_t 250 [z.2.2.1]∧w'.ownsRow B 23 1 z.2.2.1 z.1 (z.2.2.2.map (·.1))∧Km B w' z.2.2.1 z.2.2.2∧(∀p ∈ z.2.2.2,Shapes.ok p.2=true)∧DX (BE z.2.2.2) (o.drop z.1)=DX [] o∧z.2.1=CM (o.take z.1)∧z.2.2.2.length=z.1∧z.2.1≤z.1) (fun z=>o.length - z.1) ((0,0, .slice none 0 0,[])) ⟨rfl,rfl,rfl,rfl,rfl,rfl,rfl,rfl,trivial⟩ ?_ ?_
 ·exact ⟨Nat.zero_le _,t,by omega,D,f,l,⟨rfl, .inl ⟨rfl,rfl⟩⟩,(fun p hp=>by cases hp),(fun p hp=>by cases hp),rfl,rfl,rfl,AX _⟩
 clear f l D N
 rintro ⟨i,c,u,ps⟩ w4 ⟨hi,t,zB,D,f,l,m,d,hok,hrec,hc,lps,hci⟩
 dsimp only at hi t zB D f l m d hok hrec hc lps hci ⊢
 have N:=h.sl.bs t
 have z4:=AA t
 have ub:=AG m
 have lps2:(BE ps).length=ps.length:=length_map _
 refine Af<|B3 O<|Ak<|An<|Aq O ?_ ?_
 ·intro g
  have V:i<o.length:=by have:=AD g;omega
  obtain ⟨x,Z⟩:∃x,x=o[i]:=⟨_,rfl⟩
  have hx:=(h.each x (Z ▸ getElem_mem V)).bs t
  have hcl:=h.cells V
  rw [← Z] at hcl
  have ed:o.drop i=x::o.drop (i+1):=by rw [drop_eq_getElem_cons V,← Z]
  have hstep:DX [] o=match I3 (BE ps) x with|some s=>DX (BE ps++[s]) (o.drop (i+1))|none=>none:=by rw [← hrec,ed];rfl
  have hno:I3 (BE ps) x=none→R=none:=fun e=>hRn (by rw [hstep,e])
  refine B0<|An<|Ao<|Af<|Ac O<|Aa (Ci BQ O O N i O V) O<|Aa (Cq (cs:=x.cells) (EM _) (EJ _) O N O (by decide) hcl) O<|Bk (Xw.new DI) O ?_
  rintro _ w5 ⟨rfl,F,hn5,hz5⟩
  refine Bk (Xw.new GD) O ?_
  rintro _ w6 ⟨rfl,K,hn6,hz6⟩
  have F:=F.bs hn6
  obtain ⟨A_i,eAi⟩:∃A_i,A_i=w4.heap.size:=⟨_,rfl⟩
  obtain ⟨A_x,eAx⟩:∃A_x,A_x=w5.heap.size:=⟨_,rfl⟩
  rw [← eAi] at F
  rw [← eAx] at K
  rw [← eAi,← eAx]
  refine Az (Dj (u:= .int .i64 (i:Int)) (BA _) O O O F Nat.zero_lt_one) ?_
  rintro w7 ⟨F,hg7,hz7⟩
  have K:=K.by hg7 (by rintro ⟨⟩;omega)
  refine Az (Bv (cs:=x.cells) (k:=5) (by kernel_rfl) O O O hx.ones K O) ?_
  rintro w8 ⟨K,hg8,hz8⟩
  have F:=F.by hg8 (by rintro ⟨⟩;omega)
  have F:AO w8 A_i 3 [.int .i64 (i:Int)]:=F
  have I:Below w4.heap.size w4 w8:=((hn5.trans (hn6.mono (by omega))).grown hg7 (by omega) (by rintro _ ⟨⟩;omega)).grown hg8 (by omega) (by rintro _ ⟨⟩;omega)
  clear N
  have t:=t.trans (I.mono z4)
  have D:=D.bs I
  have f:=f.bs I
  have l:=l.bs I
  have m:=AL m I
  have d:=d.bs I
  have hx:=hx.bs I
  have h_i:=hx.i
  have z8:=I.size
  cases hkd:DO x.k with
  |none=>
   refine Bl<|Ac O<|Be underlying25 O (DF _)<|Aa (Ah (DG _) O ‹_› rfl) O ?_
   refine Aa (Ex.look2n underlying247 FX O O O D (show Tryz.prog.info? Tv=some Tryz.t252 by kernel_rfl) O (PH hkd)) O<|Ac O<|Aa (As (i:=0) O O) O<|Aa (As (i:=1) O O) O<|Bk (Xw.new Iw) O ?_
   rintro _ w9 ⟨rfl,Q,hn9,hz9⟩
   refine Az (Bv (cs:=[0,0,0,0,0,0].map (Value.int .i64)) (k:=6) (by kernel_rfl) O O O O Q O) ?_
   rintro w10 ⟨Q,hg10,hz10⟩
   have t:=(t.trans (hn9.mono (by omega))).grown hg10 (by omega) (by rintro _ ⟨⟩;omega)
   refine Ab O<|Bh<|Ac O<|Aa (Ck O) O<|Ac O<|C5 42 (v' := .bool true) O (cngA Value.bool (rfl))<|Ae (dj:=42) O O O O<|Ae (dj:=42) O O O O<|Ae (dj:=42) O O O O<|Ae (dj:=42) O O O O<|B4 O<|Ac O<|Ae (dj:=48) O O O O<|Ae (dj:=48) O O O O<|Ae (dj:=48) O O O O<|Ae (dj:=48) O O O O<|B4 O<|Ak<|Bz O<|Af<|Ab O<|Ab O<|Bu<|Bi<|Av<|Av<|Bi<|Av<|Bx O O O ?_
   have hN:R=none:=hno (by unfold I3;rw [if_neg];unfold CJ;rw [hkd];simp)
   rw [hN]
   exact ⟨t,rfl⟩
  |some row=>
   obtain ⟨k1,k2,k6⟩:=Ny hkd
   obtain ⟨ra,rb,rc,rd,re,rf,rfl⟩:=SQ k6
   refine Bl<|Ac O<|Be underlying25 O (DF _)<|Aa (Ah (DG _) O ‹_› rfl) O ?_
   refine Aa (Ex.look2 underlying247 FX O O O D ⟨_,_,(show Tryz.prog.info? Tv=some Tryz.t252 by kernel_rfl),rfl⟩ k1 k2) O<|Ac O<|Aa (As (i:=0) O O) O<|Aa (As (i:=1) O O) O<|Bk (Xw.new Iw) O ?_
   rintro _ w9 ⟨rfl,Q,hn9,hz9⟩
   refine Az (Bv (cs:=[ra,rb,rc,rd,re,rf].map (Value.int .i64)) (k:=6) (by kernel_rfl) O O O O Q O) ?_
   rintro w10 ⟨Q,hg10,hz10⟩
   have A:Below w8.heap.size w8 w10:=hn9.grown hg10 hn9.size (by rintro _ ⟨⟩;omega)
   have t:=t.trans (A.mono (by omega))
   have D:=D.bs A
   have f:=f.bs A
   have l:=l.bs A
   have K:=K.bs A
   have F:=F.bs A
   have m:=AL m A
   have d:=d.bs A
   have hx:=hx.bs A
   have h_i:=hx.i
   have z10:=A.size
   refine Ab O<|Bh<|Ac O<|Aa (Ck O) O<|Ac O<|C5 42 (v' := .bool false) O (cngA Value.bool (rfl))<|Ag (dj:=42) O O<|Aa (B9 (k:=6) (Gt _) (Gk _) O O Q) O<|Ag (dj:=42) O O<|Aa (B9 (k:=5) (EM _) (EJ _) O O K) O<|Ag (dj:=42) O O<|Aj O O (Tw ra rb rc rd re rf x w10 hx) ?_
   rintro _ w11 ⟨rfl,C⟩
   have ekF:CJ x.k x.i x.s x.n x.p=GZ ra rb rc rd re rf x.i x.s x.n x.p:=by unfold CJ;rw [hkd]
   have t:=t.trans (C.mono (by omega))
   have D:=D.bs C
   have f:=f.bs C
   have l:=l.bs C
   have K:=K.bs C
   have F:=F.bs C
   have m:=AL m C
   have d:=d.bs C
   have hx:=hx.bs C
   have h_i:=hx.i
   have z11:=C.size
   rw [← ekF]
   refine Ag (dj:=42) O O<|Aa (Ck O) O<|Cn O<|Ac O ?_
   refine Cc 48 O ?_ ?_
   ·intro gk
    have gk:CJ x.k x.i x.s x.n x.p=false:=by simpa using gk
    refine Ae (dj:=48) O O O O<|Ae (dj:=48) O O O O<|Ae (dj:=48) O O O O<|Ae (dj:=48) O O O O<|B4 O<|Ak<|Bz O<|Af<|Ab O<|Ab O<|Bu<|Bi<|Av<|Av<|Bi<|Av<|Bx O O O ?_
    have hN:R=none:=hno (by unfold I3;rw [gk];rfl)
    rw [hN]
    exact ⟨t,rfl⟩
   intro gk
   have gk:CJ x.k x.i x.s x.n x.p=true:=by simpa using gk
   refine Ag (dj:=48) O O<|Be underlying25 O (AN _)<|Ag (dj:=48) O O<|Aa (Ah (AF _) O ‹_› rfl) O ?_
   refine Ag (dj:=48) O O<|Aa (Ef (vs:=[]) (us:=[.pointer (some ⟨A_i,0,none⟩)]) O O) O<|Ag (dj:=48) O O<|Aj O O (X0 x.x x.i A_i i w11 h_i F) ?_
   rintro _ w12 ⟨rfl,E⟩
   have t:=t.trans (E.mono (by omega))
   have D:=D.bs E
   have f:=f.bs E
   have l:=l.bs E
   have K:=K.bs E
   have m:=AL m E
   have d:=d.bs E
   have hx:=hx.bs E
   have z12:=E.size
   refine Cn O<|Ak<|Aq O ?_ ?_
   ·intro gb
    refine Af<|Ab O<|Ab O<|Bu<|Bi<|Av<|Av<|Bi<|Av<|Bx O O O ?_
    have hN:R=none:=hno (by unfold I3;rw [lps2,lps,gb,Bool.not_true,Bool.and_false];rfl)
    rw [hN]
    exact ⟨t,rfl⟩
   intro gb
   have hji:∀j ∈ x.i,0≤j∧j<(ps.length:Int):=fun j hj=>by
    unfold NQ at gb
    have:=List.any_eq_false.1 gb j hj
    simp at this
    omega
   have hps:LI w12 u ps:=⟨by have:=AQ m;exact this,fun p hp=>(d p hp).1⟩
   refine B0<|An<|Af<|Be underlying25 O (DF _)<|Aa (Ah (DG _) O ‹_› rfl) O ?_
   refine Aa (Cl O (show _=some (b8 (1#8)) from rfl)) O<|Ak ?_
   refine Fi (St:=Nat) (fun c' =>[(1, .pointer (some ⟨A_g,0,none⟩)),(4, .int .i64 (o.length:Int)),(5, .map (some M)),(6, .pointer (some ⟨A_t,0,none⟩)),(7, .int .i64 (c' :Int)),(9, .pointer (some ⟨A_x,0,none⟩)),(26,v),(27, .int .i64 (o.length:Int)),(28, .int .i64 (i:Int))]) (fun c' w' =>w' =w12∧c' =c+(if x.k=1#8 then 1 else 0)) ?_ ?_
   ·refine Aq O ?_ ?_
    ·intro g1
     have g1:x.k=1#8:=AD g1
     refine Bw<|Ac O<|B7 O (by omega)<|Ab O<|Bf ?_
     exact Dq ((c+1)) ⟨rfl,rfl,rfl,rfl,(cngA (fun z=>some (Value.int .i64 z)) (by omega)),rfl,rfl,rfl,rfl,trivial⟩ (⟨rfl,by rw [if_pos g1]⟩)
    intro g1
    have g1:¬x.k=1#8:=AB g1
    exact Cp<|Dq (c) ⟨rfl,rfl,rfl,rfl,rfl,rfl,rfl,rfl,rfl,trivial⟩ (⟨rfl,by rw [if_neg g1,Nat.add_zero]⟩)
   rintro c' w12 ⟨rfl,hc'⟩
   refine Af<|Aa (B9 (EM _) (EJ _) O O ‹_›) O ?_
   refine Aa (B9 (XD _) (WG _) O O ‹_›) O ?_
   refine Aa (Ef (vs:=[.agg [u].toArray]) (us:=[]) O O) O ?_
   have ub12:=AG m
   refine Aj O O (TJ x u ps w12 hx hps gk hji hok) ?_
   rintro y w13 ⟨U,L,y_own⟩
   obtain ⟨G,hGd⟩:∃G,G=IJ x.k x.s x.n x.p (x.i.map fun j=>(BE ps).getD j.toNat []):=⟨_,rfl⟩
   have eG:IJ x.k x.s x.n x.p (x.i.map fun j=>(ps.getD j.toNat default).2)=G:=by
    rw [hGd]
    congr 1
    refine map_congr_left fun j hj=> ?_
    have:=hji j hj
    rw [getD_eq_getElem?_getD,getD_eq_getElem?_getD,getElem?_map,getElem?_eq_getElem (by omega)];rfl
   rw [eG] at U
   have t:=t.trans (L.mono (by omega))
   have D:=D.bs L
   have f:=f.bs L
   have l:=l.bs L
   have m:=AL m L
   have d:=d.bs L
   have z13:=L.size
   refine Ab O<|Bh<|Ac O<|Aj O O (EL y G w13 U) ?_
   rintro _ w14 ⟨rfl,J⟩
   have t:=t.trans (J.mono (by omega))
   have D:=D.bs J
   have f:=f.bs J
   have l:=l.bs J
   have m:=AL m J
   have d:=d.bs J
   have U:=U.bs J
   have Zk:=J.size
   refine Aa (Ck O) O<|Ak<|Aq O ?_ ?_
   ·intro go
    have go:Shapes.ok G=false:=by simpa using go
    refine Af<|Ab O<|Ab O<|Bu<|Bi<|Av<|Av<|Bi<|Av<|Bx O O O ?_
    have hN:R=none:=hno (by unfold I3;rw [← hGd,go,Bool.and_false];rfl)
    rw [hN]
    exact ⟨t,rfl⟩
   intro go
   have go:Shapes.ok G=true:=by simpa using go
   have e_st:I3 (BE ps) x=some G:=by
    unfold I3;rw [← hGd,go,gk,lps2,lps]
    have:NQ i x.i=false:=by simpa using gb
    rw [this];rfl
   refine B0<|Bw<|Be underlying250 O (Lr _)<|Aa (Ah (Qt _) O ‹_› rfl) O ?_
   refine Ac O<|Bk (Dl (vs:=[y]) BB HT O O O (by rw [all_cons,U.one'];rfl) O) O ?_
   rintro q w15 ⟨o_q, -,H, -⟩
   have t:=t.trans (H.mono (by omega))
   have D:=D.bs H
   have f:=f.bs H
   have l:=l.bs H
   have m:=AL m H
   have d:=d.bs H
   have U:=U.bs H
   have z15:=H.size
   have ub:=AG m
   refine Bk (Di (base:=B) BB HT O (by decide) O O m (AI o_q) (by rw [all_cons,U.one'];rfl) (by omega) (by omega) (by omega)) O ?_
   rintro u' w16 ⟨T,hn16,Y,hcs⟩
   have D:=LC D Y (fun e=>by have:=ub _ e.symm;omega)
   have f:=f.by Y (fun e=>by have:=ub _ e.symm;omega)
   have l:=l.by Y (fun e=>by have:=ub _ e.symm;omega)
   have hoff2:Km B w15 u (ps++[(y,G)]):=fun p hp=>(List.mem_append.1 hp).elim (d p) (fun e=>by
    rw [List.mem_singleton.1 e]
    refine ⟨U,fun b e=> ?_⟩
    have h1:=y_own b e
    exact ⟨⟨by omega,by omega⟩,fun e2=>by have:=ub12 b e2;omega⟩)
   have d:=hoff2.grow Y hcs
   have z16:=Y.size
   have ub' :=AG T
   have e1:ps.map (·.1)++[y]=(ps++[(y,G)]).map (·.1):=by rw [map_append];rfl
   rw [e1] at T
   refine Be underlying250 O (Lr _)<|Az (Dj (u:=u') (Lr _) O O (AI T).one' l Nat.zero_lt_one) ?_
   rintro w17 ⟨l,X,hz17⟩
   have D:=LC D X (fun e=>by have:=Option.some.inj e;omega)
   have f:=f.by X (fun e=>by have:=Option.some.inj e;omega)
   have d:=d.by X (by omega)
   have T:=CG T (fun k e=>X.block k (ub' k e).2 (fun e2=>by have:=ub' k e;have:=Option.some.inj e2;omega))
   have hBF:=(t.trans (hn16.mono (by omega))).grown X (by have:=hn16.size;omega) (by rintro _ e;have:=Option.some.inj e;omega)
   have hok' :∀p ∈ ps++[(y,G)],Shapes.ok p.2=true:=fun p hp=>(List.mem_append.1 hp).elim (hok p) (fun e=>by rw [List.mem_singleton.1 e];exact go)
   have hrec' :DX (BE (ps++[(y,G)])) (o.drop (i+1))=DX [] o:=by
    rw [hstep,e_st]
    have:BE (ps++[(y,G)])=BE ps++[G]:=by unfold BE;rw [map_append];rfl
    rw [this]
   have hcc:c' =CM (o.take (i+1)):=by
    rw [hc',hc,take_succ_eq_append_getElem V,← Z]
    unfold CM
    rw [filter_append,length_append]
    by_cases e:x.k=1#8
    ·rw [if_pos e,filter_cons,decide_eq_true e];rfl
    ·rw [if_neg e,filter_cons,decide_eq_false e];rfl
   have hci' :c' ≤i+1:=by rw [hc'];split<;>omega
   refine Bf<|Bn<|Ch<|B7 O (by omega)<|Ac O<|Bf ?_
   exact Ap (Pw.next ((i+1,c',u',ps++[(y,G)])) ⟨rfl,rfl,rfl,rfl,rfl,rfl,rfl,rfl,trivial⟩ (⟨V,hBF,by have:=hn16.size;omega,D,f,l,T,d,hok',hrec',hcc,by rw [length_append,lps];rfl,hci'⟩) (by simp only;omega))
 intro g
 have V:i=o.length:=by have:=AB g;omega
 subst V
 rw [drop_length] at hrec
 rw [take_length] at hc
 have hgr:DX [] o=some (BE ps):=by rw [← hrec];rfl
 have hgf:R=if CM o=1∧K7 (o.getD (o.length - 1) default).k=true then some (BE ps) else none:=by rw [hR,hgs,hgr]
 obtain ⟨x,Z⟩:∃x,x=o.getD (o.length - 1) default:=⟨_,rfl⟩
 rw [← Z] at hgf
 have hl1:o.length - 1<o.length:=by omega
 have hxm:x=o[o.length - 1]:=by rw [Z,getD_eq_getElem?_getD,getElem?_eq_getElem hl1];rfl
 have hkx:=Ix o [] _ hgr x (hxm ▸ getElem_mem hl1)
 obtain ⟨ra,rb,rc,rd,re,rf,hkd⟩:=IA hkx
 obtain ⟨k1,k2, -⟩:=Ny hkd
 have hlast:K7 x.k=decide (rb≠0):=by unfold K7;rw [hkd];rfl
 have ad:∃ad c k,v= .slice (some ad) c k:=by
  obtain ⟨_,ao,cap,e,d1,d2,d3,_⟩:=h.sl
  cases ao with
  |none=>have:=d3 rfl;omega
  |some ad=>exact ⟨ad,_,_,e⟩
 have ck:(Hg N5.cells o)[(o.length - 1)*5+0]? =some (b8 x.k):=by
  rw [IE (fun a _=>Ek a) hl1 (by decide),← hxm];rfl
 refine Bp<|Al<|Al<|Bd<|Ap<|B8<|An<|Af<|Ac O<|Be underlying64 O (CQ _)<|Aa (Ah (CZ _) O ‹_› rfl) O ?_
 refine Ac O<|Aa (Ex.as (Du O O (by omega)) (cngA (Value.int .i64) (show (o.length:Int) - 1=((o.length - 1:Nat):Int) by omega))) O<|Aa (Ci BQ O O N (o.length - 1) O hl1) O<|Aa (C2 (q:=0) underlying25 O (DF _) O ad) O<|Aa (D1 (DG _) O N ck) O<|Aa (Ex.look1 underlying247 FX O O O D ⟨_,_,(show Tryz.prog.info? Tv=some Tryz.t252 by kernel_rfl),rfl⟩ k1 k2) O<|Bk (Xw.new Iw) O ?_
 rintro _ w5 ⟨rfl,Q,hn5,hz5⟩
 have l:=l.bs hn5
 refine Az (Bv (cs:=[ra,rb,rc,rd,re,rf].map (Value.int .i64)) (k:=6) (by kernel_rfl) O O O O Q O) ?_
 rintro w6 ⟨Q,hg6,hz6⟩
 have hn46:Below w4.heap.size w4 w6:=hn5.grown hg6 hn5.size (by rintro _ ⟨⟩;omega)
 have l:=l.by hg6 (by rintro ⟨⟩;omega)
 have t:=t.trans (hn46.mono z4)
 have m:=AL m hn46
 have d:=d.bs hn46
 refine Bl<|Ac O<|Aa (Cs O O) O<|Ac O ?_
 refine Cc 84 O ?_ ?_
 ·intro gc
  have gc:¬CM o=1:=fun e=>by rw [← hc] at e;subst e;simp at gc
  refine Ae (dj:=84) O O O O<|Ae (dj:=84) O O O O<|Ae (dj:=84) O O O O<|B4 O<|Ak<|Bz O<|Af<|Ab O<|Ab O<|Bu<|Bx O O O ?_
  rw [hgf,if_neg (fun h=>gc h.1)]
  exact ⟨t,rfl⟩
 intro gc
 have gc:CM o=1:=by rw [← hc];simp at gc;omega
 refine Ag (dj:=84) O O<|Be underlying252 O (BA _)<|Ag (dj:=84) O O<|Aa (Ah (AK _) O Q O) O<|Ag (dj:=84) O O<|Aa (Da O O) O<|Cn O<|Ak<|Aq O ?_ ?_
 ·intro gm
  have gm:rb=0:=AD gm
  refine Af<|Ab O<|Ab O<|Bu<|Bx O O O ?_
  rw [hgf,if_neg (fun h=>by rw [hlast,gm] at h;simp at h)]
  exact ⟨t,rfl⟩
 intro gm
 have gm:rb≠0:=AB gm
 refine Co<|Be underlying250 O (Lr _)<|Aa (Ah (Qt _) O ‹_› rfl) O ?_
 refine Aj O O (VQ u ps w6 (AQ m)) ?_
 rintro _ w7 ⟨rfl,hn7⟩
 refine Ab O<|Ab O<|Bc<|Bx O O O ?_
 rw [hgf,if_pos ⟨gc,by rw [hlast];exact decide_eq_true gm⟩]
 exact ⟨t.trans (hn7.mono (AA t)),_,ps,rfl,⟨(Fz (AQ m)).bs hn7,fun p hp=>(d p hp).1.bs hn7⟩,rfl⟩
theorem TM (v:Value) (c:List N5) (W:World) (h:GN W v c):
  AM prog 102 [.agg [v].toArray] W (fun r g=>Below W.heap.size W g∧r= .bool (ID c).isSome):=by
 have a:=Below.refl W.heap.size W
 refine Bb (n:=12) func102 O<|Af<|B5 (cs:=[v]) O O O ?_
 rintro j w f k l -
 have a:=a.bs l
 refine Ab O<|Bl<|Aa (B9 (FC _) (DR _) O O ‹_›) O ?_
 refine Aj O O (RC v c w (h.bs a)) ?_
 rintro r m ⟨d,b⟩
 have a:=a.trans (d.mono (AA a))
 cases e:ID c with
 |none=>
  rw [e] at b
  obtain rfl:=b
  exact Ac rfl<|Aa (As (i:=0) rfl rfl) rfl<|Aa (As (i:=1) rfl rfl) rfl<|Ab rfl<|Ab rfl<|Bl<|Ac rfl<|Aa (Da rfl rfl) rfl<|Ab rfl<|Bc<|Ax rfl rfl<|⟨a,rfl⟩
 |some ss=>
  rw [e] at b
  obtain ⟨u,ps,rfl, -, -⟩:=b
  exact Ac rfl<|Aa (As (i:=0) rfl rfl) rfl<|Aa (As (i:=1) rfl rfl) rfl<|Ab rfl<|Ab rfl<|Bl<|Ac rfl<|Aa (Da rfl rfl) rfl<|Ab rfl<|Bc<|Ax rfl rfl<|⟨a,rfl⟩
def EO (ls:List N5):List Int:=((range ls.length).filter fun i=>decide ((ls.getD i default).k=2#8)).map fun i:Nat=>(i:Int)
theorem JY (a:List N5) (i:Nat) (c:i<a.length):EO (a.take (i+1))=EO (a.take i)++(if (a.getD i default).k=2#8 then [(i:Int)] else []):=by
 have b:∀m,m≤a.length→EO (a.take m)=((range m).filter fun i=>decide ((a.getD i default).k=2#8)).map fun i:Nat=>(i:Int):=fun m d=>by
  unfold EO
  rw [length_take,Nat.min_eq_left d]
  congr 1
  refine filter_congr fun j f=> ?_
  have:=List.mem_range.1 f
  have:(a.take m).getD j default=a.getD j default:=by rw [getD_eq_getElem?_getD,getElem?_take,if_pos this,← getD_eq_getElem?_getD]
  rw [this]
 rw [b _ c,b _ (Nat.le_of_lt c),range_succ,filter_append,map_append]
 congr 1
 by_cases e:(a.getD i default).k=2#8
 ·rw [if_pos e,filter_cons,decide_eq_true e];rfl
 ·rw [if_neg e,filter_cons,decide_eq_false e];rfl
theorem PN (v:Value) (c:List N5) (W:World) (h:GN W v c) (hm:c.length≤1000000):
  AM prog 103 [.agg [v].toArray] W (fun r t=>Below W.heap.size W t∧BS (Value.int .i64) t r (EO c)):=by
 have d:=Below.refl W.heap.size W
 have f:=h.sl
 refine Bb (n:=23) func103 O<|Af<|B5 (cs:=[v]) O O O ?_
 rintro K w H G I -
 have d:=d.bs I
 have f:=f.bs I
 refine Ab O<|Bh<|Be underlying64 O (CQ _)<|Aa (Ah (CZ _) O ‹_› rfl) O ?_
 refine Aa (Au BQ O ‹_›) O ?_
 refine Ac O<|Ak<|Ao ?_
 have z0:=AA d
 refine Bq (S:=(Nat×Value)) (fun z=>[(2,z.2),(6,v),(7, .int .i64 (c.length:Int)),(8, .int .i64 (z.1:Int))]) (fun z t=>z.1≤c.length∧Below W.heap.size W t∧t.ownsRow W.heap.size 3 1 z.2 (EO (c.take z.1)).length ((EO (c.take z.1)).map (Value.int .i64))) (fun z=>c.length - z.1) ((0, .slice none 0 0)) ⟨rfl,rfl,rfl,rfl,trivial⟩ ?_ ?_
 ·exact ⟨Nat.zero_le _,d,⟨rfl, .inl ⟨rfl,rfl⟩⟩⟩
 clear G
 rintro ⟨i,u⟩ B ⟨Q,d,a⟩
 dsimp only at Q d a ⊢
 have f:=h.sl.bs d
 have z1:=AA d
 refine Af<|B3 O<|Ak<|An<|Aq O ?_ ?_
 ·intro g
  have b:i<c.length:=by have:=AD g;omega
  obtain ⟨x,p⟩:∃x,x=c[i]:=⟨_,rfl⟩
  have D:c.getD i default=x:=by rw [getD_eq_getElem?_getD,getElem?_eq_getElem b,p];rfl
  have R:=(h.each x (p ▸ getElem_mem b)).bs d
  have A:=h.cells b
  rw [← p] at A
  have e:=JY c i b
  rw [D] at e
  have Y:(EO (c.take i)).length≤i:=by
   unfold EO
   rw [length_map]
   refine Nat.le_trans (length_filter_le _ _) ?_
   rw [length_range,length_take];omega
  refine B0<|An<|Ao<|Af<|Ac O<|Aa (Ci BQ O O f i O b) O<|Aa (Cq (cs:=x.cells) (EM _) (EJ _) O f O (by decide) A) O<|Bk (Xw.new GD) O ?_
  rintro _ U ⟨rfl,y,j,N⟩
  refine Ab O<|Az (Bv (cs:=x.cells) (k:=5) (by kernel_rfl) O O O R.ones y O) ?_
  rintro J ⟨y,E,T⟩
  have l:Below B.heap.size B J:=j.grown E j.size (by rintro _ ⟨⟩;omega)
  have d:=d.trans (l.mono z1)
  have a:=AL a l
  have Z:=l.size
  refine Bl<|Be underlying25 O (DF _)<|Aa (Ah (DG _) O ‹_› rfl) O ?_
  refine Aa (Cl O (show _=some (b8 (2#8)) from rfl)) O<|Ak<|Aq O ?_ ?_
  ·intro s
   have s:x.k=2#8:=AD s
   rw [if_pos s] at e
   refine Bw<|Ac O<|Ac O<|Bk (Dl (vs:=[(i:Int)].map (Value.int .i64)) AC DI O O O O O) O ?_
   rintro q V ⟨F, -,o, -⟩
   have a:=AL a o
   have X:=o.size
   refine Bk (Dp (base:=W.heap.size) AC DI O (by decide) O O a (AI F) (DE (fun _=>rfl) _) (by omega) (by omega) (by omega)) O ?_
   rintro M w5 ⟨m,C, -⟩
   have L:(EO (c.take i)).length+1=(EO (c.take (i+1))).length:=by rw [e,length_append];rfl
   rw [← map_append,← e,L] at m
   refine Ab O<|Bf<|Bn<|Ch<|B7 O (by omega)<|Ac O<|Bf ?_
   exact Ap (Pw.next ((i+1,M)) ⟨rfl,rfl,rfl,rfl,trivial⟩ (⟨b,(d.trans (o.mono (by omega))).trans C,m⟩) (by simp only;omega))
  intro s
  have s:¬x.k=2#8:=AB s
  rw [if_neg s,append_nil] at e
  refine Cp<|Bn<|Ch<|B7 O (by omega)<|Ac O<|Bf ?_
  exact Ap (Pw.next ((i+1,u)) ⟨rfl,rfl,rfl,rfl,trivial⟩ (⟨b,d,by rw [e];exact a⟩) (by simp only;omega))
 intro g
 have b:i=c.length:=by have:=AB g;omega
 subst b
 rw [take_length] at a
 refine Bp<|Al<|Al<|Bd<|Cm<|Ac O<|Aj O O (Md u (EO c) B (AQ a)) ?_
 rintro _ U ⟨rfl,j⟩
 exact Ab rfl<|Bc<|Ax rfl rfl<|⟨d.trans (j.mono z1),(Fz (AQ a)).bs j⟩

def UJ (k:BitVec 8):Int×Int×Bool:=match DO k with
 |some (a::b::_)=>(a,b,true)
 |_=>(0,0,false)
theorem UN (k:BitVec 8) (w:World):AM prog 135 [b8 k] w (fun r t=>r= .tuple #[.int .i64 (UJ k).1, .int .i64 (UJ k).2.1, .bool (UJ k).2.2]∧Below w.heap.size w t):=by
 refine Bb (n:=23) func135 O<|Af<|Ab O<|Ab O<|Ab O<|Bh<|Ac O<|Ak<|Ao<|An<|Af<|Aa (Cl O (show _=some (b8 (1#8)) from rfl)) O<|Ab O<|Ak<|Aq O ?_ ?_
 ·intro g
  have g:k=1#8:=AD g
  refine B0<|Ca O true ((decide_eq_true g))<|Af<|Ab O<|Ab O<|Ab O<|Bc<|Bi<|Av<|D9 O O O O ?_
  rw [g]
  exact ⟨by kernel_rfl,Below.refl _ _⟩
 intro l
 have l:¬k=1#8:=AB l
 refine Bw<|Aa (Cl O (show _=some (b8 (2#8)) from rfl)) O<|Ab O<|Ak<|Aq O ?_ ?_
 ·intro g
  have g:k=2#8:=AD g
  refine Af<|Ab O<|Ab O<|Ab O<|Bc<|Bi<|Av<|D9 O O O O ?_
  rw [g]
  exact ⟨by kernel_rfl,Below.refl _ _⟩
 intro j
 have j:¬k=2#8:=AB j
 refine An<|Af<|Aa (Cl O (show _=some (b8 (3#8)) from rfl)) O<|Ab O<|Ak<|Aq O ?_ ?_
 ·intro g
  have g:k=3#8:=AD g
  refine B0<|Ca O true ((decide_eq_true g))<|Af<|Ab O<|Ab O<|Ab O<|Bc<|Bi<|Av<|D9 O O O O ?_
  rw [g]
  exact ⟨by kernel_rfl,Below.refl _ _⟩
 intro s
 have s:¬k=3#8:=AB s
 refine Af<|Aa (Cl O (show _=some (b8 (4#8)) from rfl)) O<|Ab O<|Ak<|Aq O ?_ ?_
 ·intro g
  have g:k=4#8:=AD g
  refine B0<|Ca O true ((decide_eq_true g))<|Af<|Ab O<|Ab O<|Ab O<|Bc<|Bi<|Av<|D9 O O O O ?_
  rw [g]
  exact ⟨by kernel_rfl,Below.refl _ _⟩
 intro f
 have f:¬k=4#8:=AB f
 refine Af<|Aa (Cl O (show _=some (b8 (7#8)) from rfl)) O<|Ab O<|Ak<|Aq O ?_ ?_
 ·intro g
  have g:k=7#8:=AD g
  refine B0<|Ca O true ((decide_eq_true g))<|Af<|Ab O<|Ab O<|Ab O<|Bc<|Bi<|Av<|D9 O O O O ?_
  rw [g]
  exact ⟨by kernel_rfl,Below.refl _ _⟩
 intro p
 have p:¬k=7#8:=AB p
 refine Bw<|Aa (Cl O (show _=some (b8 (8#8)) from rfl)) O<|Ab O<|Ak<|Aq O ?_ ?_
 ·intro g
  have g:k=8#8:=AD g
  refine Af<|Ab O<|Ab O<|Ab O<|Bc<|Bi<|Av<|D9 O O O O ?_
  rw [g]
  exact ⟨by kernel_rfl,Below.refl _ _⟩
 intro q
 have q:¬k=8#8:=AB q
 refine An<|Af<|Aa (Cl O (show _=some (b8 (5#8)) from rfl)) O<|Ab O<|Ak<|Aq O ?_ ?_
 ·intro g
  have g:k=5#8:=AD g
  refine B0<|Ca O true ((decide_eq_true g))<|Af<|Ab O<|Ab O<|Ab O<|Bc<|Bi<|Av<|D9 O O O O ?_
  rw [g]
  exact ⟨by kernel_rfl,Below.refl _ _⟩
 intro m
 have m:¬k=5#8:=AB m
 refine Af<|Aa (Cl O (show _=some (b8 (6#8)) from rfl)) O<|Ab O<|Ak<|Aq O ?_ ?_
 ·intro g
  have g:k=6#8:=AD g
  refine B0<|Ca O true ((decide_eq_true g))<|Af<|Ab O<|Ab O<|Ab O<|Bc<|Bi<|Av<|D9 O O O O ?_
  rw [g]
  exact ⟨by kernel_rfl,Below.refl _ _⟩
 intro i
 have i:¬k=6#8:=AB i
 refine Af<|Aa (Cl O (show _=some (b8 (9#8)) from rfl)) O<|Ab O<|Ak<|Aq O ?_ ?_
 ·intro g
  have g:k=9#8:=AD g
  refine B0<|Ca O true ((decide_eq_true g))<|Af<|Ab O<|Ab O<|Ab O<|Bc<|Bi<|Av<|D9 O O O O ?_
  rw [g]
  exact ⟨by kernel_rfl,Below.refl _ _⟩
 intro o
 have o:¬k=9#8:=AB o
 refine Af<|Aa (Cl O (show _=some (b8 (10#8)) from rfl)) O<|Ab O<|Ak<|Aq O ?_ ?_
 ·intro g
  have g:k=10#8:=AD g
  refine B0<|Ca O true ((decide_eq_true g))<|Af<|Ab O<|Ab O<|Ab O<|Bc<|Bi<|Av<|D9 O O O O ?_
  rw [g]
  exact ⟨by kernel_rfl,Below.refl _ _⟩
 intro d
 have d:¬k=10#8:=AB d
 refine Af<|Aa (Cl O (show _=some (b8 (11#8)) from rfl)) O<|Ab O<|Ak<|Aq O ?_ ?_
 ·intro g
  have g:k=11#8:=AD g
  refine B0<|Ca O true ((decide_eq_true g))<|Af<|Ab O<|Ab O<|Ab O<|Bc<|Bi<|Av<|D9 O O O O ?_
  rw [g]
  exact ⟨by kernel_rfl,Below.refl _ _⟩
 intro a
 have a:¬k=11#8:=AB a
 refine Bw<|Aa (Cl O (show _=some (b8 (13#8)) from rfl)) O<|Ab O<|Ak<|Aq O ?_ ?_
 ·intro g
  have g:k=13#8:=AD g
  refine Af<|Ab O<|Ab O<|Ab O<|Bc<|Bi<|Av<|D9 O O O O ?_
  rw [g]
  exact ⟨by kernel_rfl,Below.refl _ _⟩
 intro b
 have b:¬k=13#8:=AB b
 refine Af<|Aa (Cl O (show _=some (b8 (12#8)) from rfl)) O<|Ab O<|Ak<|Aq O ?_ ?_
 ·intro g
  have g:k=12#8:=AD g
  refine Af<|Ab O<|Ab O<|Ab O<|Bc<|Bi<|Av<|D9 O O O O ?_
  rw [g]
  exact ⟨by kernel_rfl,Below.refl _ _⟩
 intro c
 have c:¬k=12#8:=AB c
 refine Cp<|Bn<|Cm<|Ab O<|Ab O<|Ab O<|Bc<|D9 O O O O ?_
 have e:DO k=none:=by
  cases h:DO k with
  |none=>rfl
  |some r=>
   have:=KW k (by rw [h];rfl)
   rcases this with h|h|h|h|h|h|h|h|h|h|h|h|h<;>contradiction
 rw [show UJ k=(0,0,false) by unfold UJ;rw [e]]
 exact ⟨rfl,Below.refl _ _⟩
theorem FM (n a b:Int) (w:World):AM prog 136 [.int .i64 n, .int .i64 a, .int .i64 b] w (fun r c=>r= .bool (decide (a≤n) && decide (n≤b))∧Below w.heap.size w c):=by
 refine Bb (n:=15) func136 O<|Af<|Ab O<|Bl<|Ac O<|Ac O<|Aa (Ds O O) O<|Ac O ?_
 refine Cc 10 O ?_ ?_
 ·intro g
  refine Ag (dj:=10) O O<|Ac O<|Ag (dj:=10) O O<|Ac O<|Ag (dj:=10) O O<|Aa (D8 O O) O<|B4 O<|Ab O<|Bc<|Ax O O ?_
  rw [g]
  exact ⟨rfl,Below.refl _ _⟩
 intro g
 refine Ae (dj:=10) O O O O<|Ae (dj:=10) O O O O<|Ae (dj:=10) O O O O<|Cn O<|Ab O<|Bc<|Ax O O ?_
 rw [g]
 exact ⟨rfl,Below.refl _ _⟩
def Yh (f:Int) (s:List Int):Bool:=if f=0 then decide (s.length=0) else if f=1 then Shapes.ok s else Hb s
theorem Iv {k:BitVec 8} {i s:List Int} {n p a b c d e f:Int} (o:DO k=some [a,b,c,d,e,f]) (r:a≤(i.length:Int)) (q:(i.length:Int)≤b):
  CJ k i s n p=(decide (c≤n∧n≤d∧0≤p∧p≤e) && Yh f s):=by
 unfold CJ
 rw [o]
 show GZ a b c d e f i s n p=_
 rw [Bool.eq_iff_iff,IB,Bool.and_eq_true,decide_eq_true_iff]
 unfold Yh
 constructor
 ·rintro ⟨⟨-, -,h,l,j,g⟩,m⟩;exact ⟨⟨h,l,j,g⟩,m⟩
 ·rintro ⟨⟨h,l,j,g⟩,m⟩;exact ⟨⟨r,q,h,l,j,g⟩,m⟩
theorem Tx {k:BitVec 8} {i s:List Int} {n p a b c d e f:Int} (g:DO k=some [a,b,c,d,e,f]) (h:¬(a≤(i.length:Int)∧(i.length:Int)≤b)):CJ k i s n p=false:=by
 cases hf:CJ k i s n p with
 |false=>rfl
 |true=>
  have:=(BI hf g).1
  exact absurd ⟨this.1,this.2.1⟩ h
theorem Wt {l:List Int}:∀m:Nat,(∀i:Nat,i<m→1≤cn (i:Int) l)→m≤fl (m:Int) l
 |0,_=>Nat.zero_le _
 |m+1,h=>by
  have:=Wt m fun i a=>h i (by omega)
  have:=h m (by omega)
  rw [Ld];omega
theorem Ws {l:List Int} {j:Nat} (a:2≤cn (j:Int) l):∀m:Nat,j<m→(∀i:Nat,i<m→1≤cn (i:Int) l)→m+1≤fl (m:Int) l
 |0,h,_=>by omega
 |m+1,h,hh=>by
  rw [Ld]
  by_cases e:j=m
  ·have:=Wt m fun i b=>hh i (by omega)
   rw [← e] at this ⊢;omega
  ·have:=Ws a m (by omega) fun i b=>hh i (by omega)
   have:=hh m (by omega)
   omega
theorem Rc {i:Int}:∀{l:List Int},i ∉ l→cn i l=0
 |[],_=>rfl
 |x::l,h=>by
  simp only [cn]
  rw [Rc fun a=>h (mem_cons_of_mem _ a),if_neg fun e=>h (by rw [e];simp)]
theorem LX (s:List Int):Hb s=(decide (s.length≤4) && DL s):=by
 unfold Hb
 by_cases h4:s.length≤4
 ·rw [decide_eq_true h4,Bool.and_true,Bool.true_and,Bool.eq_iff_iff]
  constructor
  ·intro c
   have d:∀i:Nat,i<s.length→1≤cn (i:Int) s:=fun i a=>Qh (by simpa using IF.1 c i a)
   refine Uc fun i a=> ?_
   have h:=d i a
   by_cases e:2≤cn (i:Int) s
   ·have:=Ws e s.length a d
    have:=TP (s.length:Int) s
    omega
   ·omega
  ·intro f
   refine IF.2 fun j g=> ?_
   have:=Tl f h4 g
   cases c:s.contains (j:Int) with
   |true=>rfl
   |false=>
    exfalso
    have b:(j:Int) ∉ s:=by simpa using c
    have k:cn (j:Int) s=0:=Rc b
    omega
 ·rw [decide_eq_false h4];simp
theorem Vw:∀k:BitVec 8,((decide (k=1#8)||decide (k=2#8)||decide (k=10#8)||decide (k=11#8))||(match DO k with
  |some [_,_,c,d,e,f]=>decide (f=0) && (decide (k=8#8)||decide (e=0)) && (decide (k=6#8)||decide (k=8#8)||decide (k=9#8)||decide (k=12#8)||decide (k=13#8)||(decide (c=0) && decide (d=0)))
  |_=>true))=true:=by decide+kernel
theorem MM {k:BitVec 8} {i s:List Int} {n p:Int} (h:DO k=none):CJ k i s n p=false:=by unfold CJ;rw [h]
theorem Ss (k:BitVec 8):(DO k=none∧UJ k=(0,0,false))∨∃a b c d e f,DO k=some [a,b,c,d,e,f]∧UJ k=(a,b,true):=by
 cases h:DO k with
 |none=>exact .inl ⟨rfl,by unfold UJ;rw [h]⟩
 |some r=>
  have:=(Ny h).2.2
  obtain ⟨a,b,c,d,e,f,rfl⟩:=SQ this
  exact .inr ⟨a,b,c,d,e,f,rfl,by unfold UJ;rw [h]⟩
theorem QF (x:N5) (W:World) (R:N5.at W x):AM prog 34 [x.v] W (fun r T=>r= .bool (CJ x.k x.i x.s x.n x.p)∧Below W.heap.size W T):=by
 have m:=Below.refl W.heap.size W
 have l:=R.i
 have k:=R.s
 refine Bb (n:=112) func34 O<|Af<|B5 (cs:=x.cells) O O O ?_
 rintro U w S o j -
 have m:=m.bs j
 have l:=l.bs j
 have k:=k.bs j
 refine Ab O<|Bl<|Be underlying25 O (DF _)<|Aa (Ah (DG _) O ‹_› rfl) O ?_
 refine Aj O O (UN x.k _) ?_
 rintro _ w ⟨rfl,j⟩
 have m:=m.bs j
 have l:=l.bs j
 have k:=k.bs j
 have o:=o.bs j
 rcases Ss x.k with ⟨e1,e2⟩|⟨a,b,c,d,e,f,e1,e2⟩
 ·rw [e2]
  exact Ac rfl<|Aa (As (i:=0) rfl rfl) rfl<|Aa (As (i:=1) rfl rfl) rfl<|Aa (As (i:=2) rfl rfl) rfl<|Ab rfl<|Ab rfl<|Ab rfl<|Bh<|Ac rfl<|Aa (Ck rfl) rfl<|Ac rfl<|C5 15 (v' := .bool true) rfl (cngA Value.bool (rfl))<|Ae (dj:=15) rfl rfl rfl rfl<|Ae (dj:=15) rfl rfl rfl rfl<|Ae (dj:=15) rfl rfl rfl rfl<|Ae (dj:=15) rfl rfl rfl rfl<|Ae (dj:=15) rfl rfl rfl rfl<|Ae (dj:=15) rfl rfl rfl rfl<|Ae (dj:=15) rfl rfl rfl rfl<|B4 rfl<|Ak<|Bz rfl<|Af<|Ab rfl<|Bu<|Ax rfl rfl<|⟨by rw [MM e1],m⟩
 rw [e2]
 refine Ac O<|Aa (As (i:=0) O O) O<|Aa (As (i:=1) O O) O<|Aa (As (i:=2) O O) O<|Ab O<|Ab O<|Ab O<|Bh<|Ac O<|Aa (Ck O) O<|Ac O<|C5 15 (v' := .bool false) O (cngA Value.bool (rfl))<|Ag (dj:=15) O O<|Be underlying25 O (AN _)<|Ag (dj:=15) O O<|Aa (Ah (AF _) O ‹_› rfl) O ?_
 refine Ag (dj:=15) O O<|Aa (Au AC O ‹_›) O ?_
 refine Ag (dj:=15) O O<|Ac O<|Ag (dj:=15) O O<|Ac O<|Ag (dj:=15) O O<|Aj O O (FM (x.i.length:Int) a b w) ?_
 rintro _ w ⟨rfl,j⟩
 have m:=m.bs j
 have l:=l.bs j
 have k:=k.bs j
 have o:=o.bs j
 refine Ag (dj:=15) O O<|Aa (Ck O) O<|Cn O<|Ak<|Aq O ?_ ?_
 ·intro q
  refine Af<|Ab O<|Bu<|Ax O O ?_
  have q:¬(a≤(x.i.length:Int)∧(x.i.length:Int)≤b):=by simp at q;omega
  exact ⟨by rw [Tx e1 q],m⟩
 intro q
 have q:a≤(x.i.length:Int)∧(x.i.length:Int)≤b:=by simp at q;omega
 obtain ⟨z,v⟩:=q
 clear e2
 refine B0<|An<|Af<|Be underlying25 O (DF _)<|Aa (Ah (DG _) O ‹_› rfl) O ?_
 refine Ak<|Ao<|An<|Af<|Aa (Cl O (show _=some (b8 (1#8)) from rfl)) O<|Ab O<|Ak<|Aq O ?_ ?_
 ·intro q
  have g:x.k=1#8:=AD q
  refine B0<|Ca O true (q)<|Af<|Be underlying25 O (AN _)<|Aa (Ah (AF _) O ‹_› rfl) O ?_
  have t:CJ x.k x.i x.s x.n x.p=(Shapes.ok x.s && decide (x.n=0) && decide (x.p=0)):=by
   have e2:=e1
   rw [g,Xn] at e2
   cases e2
   rw [Iv e1 z v,Bool.eq_iff_iff]
   show ((decide _ && Shapes.ok x.s)=true)↔_
   simp only [Bool.and_eq_true,decide_eq_true_eq]
   constructor
   ·rintro ⟨p,s⟩;exact ⟨⟨s,by omega⟩,by omega⟩
   ·rintro ⟨⟨p,s⟩,A⟩;exact ⟨by omega,p⟩
  rw [t]
  refine Aj O O (CV x.y x.s _ k) ?_
  rintro _ w ⟨rfl,j⟩
  have m:=m.bs j
  have l:=l.bs j
  have k:=k.bs j
  have o:=o.bs j
  refine Ac O ?_
  refine Cc 33 O ?_ ?_
  ·intro p
   refine Ag (dj:=33) O O<|Be underlying25 O (BA _)<|Ag (dj:=33) O O<|Aa (Ah (AK _) O ‹_› rfl) O ?_
   refine Ag (dj:=33) O O<|Aa (Da O O) O<|B4 O<|Ac O ?_
   refine Cc 38 O ?_ ?_
   ·intro s
    refine Ag (dj:=38) O O<|Be underlying25 O (BA _)<|Ag (dj:=38) O O<|Aa (Ah (AK _) O ‹_› rfl) O ?_
    refine Ag (dj:=38) O O<|Aa (Da O O) O<|B4 O<|Ab O<|Bc<|Bi<|Av<|Ax O O ?_
    rw [p,s]
    exact ⟨rfl,m⟩
   intro s
   refine Ae (dj:=38) O O O O<|Ae (dj:=38) O O O O<|Ae (dj:=38) O O O O<|Cn O<|Ab O<|Bc<|Bi<|Av<|Ax O O ?_
   rw [p,s]
   exact ⟨rfl,m⟩
  intro p
  refine Ae (dj:=33) O O O O<|Ae (dj:=33) O O O O<|Ae (dj:=33) O O O O<|Cn O<|Ac O<|Ae (dj:=38) O O O O<|Ae (dj:=38) O O O O<|Ae (dj:=38) O O O O<|Cn O<|Ab O<|Bc<|Bi<|Av<|Ax O O ?_
  rw [p]
  exact ⟨rfl,m⟩
 intro p
 refine Af<|Aa (Cl O (show _=some (b8 (2#8)) from rfl)) O<|Ab O<|Ak<|Aq O ?_ ?_
 ·intro q
  have g:x.k=2#8:=AD q
  refine B0<|Ca O true (q)<|Af<|Be underlying25 O (AN _)<|Aa (Ah (AF _) O ‹_› rfl) O ?_
  have t:CJ x.k x.i x.s x.n x.p=(Shapes.ok x.s && decide (x.n=0) && decide (x.p=0)):=by
   have e2:=e1
   rw [g,Xm] at e2
   cases e2
   rw [Iv e1 z v,Bool.eq_iff_iff]
   show ((decide _ && Shapes.ok x.s)=true)↔_
   simp only [Bool.and_eq_true,decide_eq_true_eq]
   constructor
   ·rintro ⟨p,s⟩;exact ⟨⟨s,by omega⟩,by omega⟩
   ·rintro ⟨⟨p,s⟩,A⟩;exact ⟨by omega,p⟩
  rw [t]
  refine Aj O O (CV x.y x.s _ k) ?_
  rintro _ w ⟨rfl,j⟩
  have m:=m.bs j
  have l:=l.bs j
  have k:=k.bs j
  have o:=o.bs j
  refine Ac O ?_
  refine Cc 33 O ?_ ?_
  ·intro p
   refine Ag (dj:=33) O O<|Be underlying25 O (BA _)<|Ag (dj:=33) O O<|Aa (Ah (AK _) O ‹_› rfl) O ?_
   refine Ag (dj:=33) O O<|Aa (Da O O) O<|B4 O<|Ac O ?_
   refine Cc 38 O ?_ ?_
   ·intro s
    refine Ag (dj:=38) O O<|Be underlying25 O (BA _)<|Ag (dj:=38) O O<|Aa (Ah (AK _) O ‹_› rfl) O ?_
    refine Ag (dj:=38) O O<|Aa (Da O O) O<|B4 O<|Ab O<|Bc<|Bi<|Av<|Ax O O ?_
    rw [p,s]
    exact ⟨rfl,m⟩
   intro s
   refine Ae (dj:=38) O O O O<|Ae (dj:=38) O O O O<|Ae (dj:=38) O O O O<|Cn O<|Ab O<|Bc<|Bi<|Av<|Ax O O ?_
   rw [p,s]
   exact ⟨rfl,m⟩
  intro p
  refine Ae (dj:=33) O O O O<|Ae (dj:=33) O O O O<|Ae (dj:=33) O O O O<|Cn O<|Ac O<|Ae (dj:=38) O O O O<|Ae (dj:=38) O O O O<|Ae (dj:=38) O O O O<|Cn O<|Ab O<|Bc<|Bi<|Av<|Ax O O ?_
  rw [p]
  exact ⟨rfl,m⟩
 intro s
 refine Bw<|Aa (Cl O (show _=some (b8 (10#8)) from rfl)) O<|Ab O<|Ak<|Aq O ?_ ?_
 ·intro q
  have g:x.k=10#8:=AD q
  have t:CJ x.k x.i x.s x.n x.p=(Shapes.ok x.s && decide (x.n=0) && decide (x.p=0)):=by
   have e2:=e1
   rw [g,MK] at e2
   cases e2
   rw [Iv e1 z v,Bool.eq_iff_iff]
   show ((decide _ && Shapes.ok x.s)=true)↔_
   simp only [Bool.and_eq_true,decide_eq_true_eq]
   constructor
   ·rintro ⟨p,s⟩;exact ⟨⟨s,by omega⟩,by omega⟩
   ·rintro ⟨⟨p,s⟩,A⟩;exact ⟨by omega,p⟩
  rw [t]
  refine Af<|Be underlying25 O (AN _)<|Aa (Ah (AF _) O ‹_› rfl) O ?_
  refine Aj O O (CV x.y x.s _ k) ?_
  rintro _ w ⟨rfl,j⟩
  have m:=m.bs j
  have l:=l.bs j
  have k:=k.bs j
  have o:=o.bs j
  refine Ac O ?_
  refine Cc 33 O ?_ ?_
  ·intro p
   refine Ag (dj:=33) O O<|Be underlying25 O (BA _)<|Ag (dj:=33) O O<|Aa (Ah (AK _) O ‹_› rfl) O ?_
   refine Ag (dj:=33) O O<|Aa (Da O O) O<|B4 O<|Ac O ?_
   refine Cc 38 O ?_ ?_
   ·intro s
    refine Ag (dj:=38) O O<|Be underlying25 O (BA _)<|Ag (dj:=38) O O<|Aa (Ah (AK _) O ‹_› rfl) O ?_
    refine Ag (dj:=38) O O<|Aa (Da O O) O<|B4 O<|Ab O<|Bc<|Bi<|Av<|Ax O O ?_
    rw [p,s]
    exact ⟨rfl,m⟩
   intro s
   refine Ae (dj:=38) O O O O<|Ae (dj:=38) O O O O<|Ae (dj:=38) O O O O<|Cn O<|Ab O<|Bc<|Bi<|Av<|Ax O O ?_
   rw [p,s]
   exact ⟨rfl,m⟩
  intro p
  refine Ae (dj:=33) O O O O<|Ae (dj:=33) O O O O<|Ae (dj:=33) O O O O<|Cn O<|Ac O<|Ae (dj:=38) O O O O<|Ae (dj:=38) O O O O<|Ae (dj:=38) O O O O<|Cn O<|Ab O<|Bc<|Bi<|Av<|Ax O O ?_
  rw [p]
  exact ⟨rfl,m⟩
 intro C
 refine Af<|Aa (Cl O (show _=some (b8 (11#8)) from rfl)) O<|Ab O<|Ak<|Aq O ?_ ?_
 ·intro q
  have g:x.k=11#8:=AD q
  have t:CJ x.k x.i x.s x.n x.p=(decide (x.s.length≤4) && DL x.s && decide (x.n=0) && decide (x.p=0)):=by
   have e2:=e1
   rw [g,LJ] at e2
   cases e2
   rw [Iv e1 z v,Bool.eq_iff_iff]
   show ((decide _ && Hb x.s)=true)↔_
   rw [LX]
   simp only [Bool.and_eq_true,decide_eq_true_eq]
   constructor
   ·rintro ⟨p,s,A⟩;exact ⟨⟨⟨s,A⟩,by omega⟩,by omega⟩
   ·rintro ⟨⟨⟨p,s⟩,A⟩,F⟩;exact ⟨by omega,p,s⟩
  rw [t]
  refine Af<|Be underlying25 O (AN _)<|Aa (Ah (AF _) O ‹_› rfl) O ?_
  refine Aa (Au AC O ‹_›) O ?_
  refine Aa (D8 O O) O<|Ac O ?_
  refine Cc 49 O ?_ ?_
  ·intro F
   have E:x.s.length≤4:=by have:=AD F;omega
   refine Ag (dj:=49) O O<|Be underlying25 O (AN _)<|Ag (dj:=49) O O<|Aa (Ah (AF _) O ‹_› rfl) O ?_
   refine Ag (dj:=49) O O<|Be underlying25 O (AN _)<|Ag (dj:=49) O O<|Aa (Ah (AF _) O ‹_› rfl) O ?_
   refine Ag (dj:=49) O O<|Aa (Au AC O ‹_›) O ?_
   refine Ag (dj:=49) O O<|Aj O O (Oh x.y x.s x.s.length _ k E) ?_
   rintro _ w ⟨rfl,j⟩
   have m:=m.bs j
   have l:=l.bs j
   have k:=k.bs j
   have o:=o.bs j
   rw [decide_eq_true (show x.s.length=x.s.length from rfl),Bool.true_and,decide_eq_true E]
   refine B4 O<|Ac O ?_
   refine Cc 57 O ?_ ?_
   ·intro D
    refine Ag (dj:=57) O O<|Be underlying25 O (BA _)<|Ag (dj:=57) O O<|Aa (Ah (AK _) O ‹_› rfl) O ?_
    refine Ag (dj:=57) O O<|Aa (Da O O) O<|B4 O<|Ac O ?_
    refine Cc 62 O ?_ ?_
    ·intro y
     refine Ag (dj:=62) O O<|Be underlying25 O (BA _)<|Ag (dj:=62) O O<|Aa (Ah (AK _) O ‹_› rfl) O ?_
     refine Ag (dj:=62) O O<|Aa (Da O O) O<|B4 O<|Ab O<|Bc<|Bi<|Av<|Ax O O ?_
     rw [D,y]
     exact ⟨rfl,m⟩
    intro y
    refine Ae (dj:=62) O O O O<|Ae (dj:=62) O O O O<|Ae (dj:=62) O O O O<|Cn O<|Ab O<|Bc<|Bi<|Av<|Ax O O ?_
    rw [D,y]
    exact ⟨rfl,m⟩
   intro D
   refine Ae (dj:=57) O O O O<|Ae (dj:=57) O O O O<|Ae (dj:=57) O O O O<|Cn O<|Ac O<|Ae (dj:=62) O O O O<|Ae (dj:=62) O O O O<|Ae (dj:=62) O O O O<|Cn O<|Ab O<|Bc<|Bi<|Av<|Ax O O ?_
   rw [D]
   exact ⟨rfl,m⟩
  intro F
  have E:¬x.s.length≤4:=by have:=AB F;omega
  refine Ae (dj:=49) O O O O<|Ae (dj:=49) O O O O<|Ae (dj:=49) O O O O<|Ae (dj:=49) O O O O<|Ae (dj:=49) O O O O<|Ae (dj:=49) O O O O<|Cn O<|Ac O<|Ae (dj:=57) O O O O<|Ae (dj:=57) O O O O<|Ae (dj:=57) O O O O<|Cn O<|Ac O<|Ae (dj:=62) O O O O<|Ae (dj:=62) O O O O<|Ae (dj:=62) O O O O<|Cn O<|Ab O<|Bc<|Bi<|Av<|Ax O O ?_
  rw [decide_eq_false E]
  exact ⟨rfl,m⟩
 intro B
 have L:=Vw x.k
 rw [p,s,C,B,e1] at L
 simp only [Bool.or_false,Bool.false_or,Bool.and_eq_true,Bool.or_eq_true,decide_eq_true_eq] at L
 obtain ⟨⟨N,X⟩,V⟩:=L
 have K:CJ x.k x.i x.s x.n x.p=(decide (c≤x.n∧x.n≤d∧0≤x.p∧x.p≤e) && decide (x.s.length=0)):=by
  rw [Iv e1 z v,N];rfl
 clear p s C B N
 refine Cp<|Bn<|Ap<|B8<|An<|Af<|Be underlying25 O (AN _)<|Aa (Ah (AF _) O ‹_› rfl) O ?_
 refine Aa (Au AC O ‹_›) O ?_
 refine Aa (Dr O O) O<|Ac O ?_
 refine Cc 71 O ?_ ?_
 ·intro q
  have q:¬x.s.length=0:=by have:=AD q;omega
  exact Ae (dj:=71) rfl rfl rfl rfl<|Ae (dj:=71) rfl rfl rfl rfl<|Ae (dj:=71) rfl rfl rfl rfl<|Ae (dj:=71) rfl rfl rfl rfl<|Fo (dj:=75) rfl rfl rfl<|Fo (dj:=75) rfl rfl rfl<|Fo (dj:=75) rfl rfl rfl<|Ae (dj:=71) rfl rfl rfl rfl<|B4 rfl<|Ak<|Bz rfl<|Af<|Ab rfl<|Bu<|Ax rfl rfl<|⟨by rw [K,decide_eq_false q,Bool.and_false],m⟩
 intro q
 have l0:x.s.length=0:=by have:=AB q;omega
 refine Ag (dj:=71) O O<|Be underlying25 O (DF _)<|Ag (dj:=71) O O<|Aa (Ah (DG _) O ‹_› rfl) O ?_
 refine Ag (dj:=71) O O<|Aa (F0 O (show _=some (b8 (8#8)) from rfl)) O<|Ag (dj:=71) O O<|Ac O ?_
 refine Cc 75 O ?_ ?_
 ·intro M
  have G:¬x.k=8#8:=by simpa using M
  have e0:e=0:=X.resolve_left G
  refine Ag (dj:=75) O O<|Be underlying25 O (BA _)<|Ag (dj:=75) O O<|Aa (Ah (AK _) O ‹_› rfl) O ?_
  refine Ag (dj:=75) O O<|Aa (Cs O O) O<|Ag (dj:=71) O O<|B4 O<|Cn O<|Ak<|Aq O ?_ ?_
  ·intro q
   have Z:¬x.p=0:=by simpa using q
   exact Af<|Ab rfl<|Bu<|Ax rfl rfl<|⟨by rw [K,decide_eq_false (show ¬(c≤x.n∧x.n≤d∧0≤x.p∧x.p≤e) by omega),Bool.false_and],m⟩
  intro q
  have Z:x.p=0:=by simpa using q
  refine B0<|An<|Af<|Be underlying25 O (DF _)<|Aa (Ah (DG _) O ‹_› rfl) O ?_
  refine Ak<|Ao<|Af<|Aa (Cl O (show _=some (b8 (6#8)) from rfl)) O<|Ab O<|Ak<|Aq O ?_ ?_
  ·intro q
   have g:x.k=6#8:=AD q
   have e2:=e1
   rw [g,Vy] at e2
   cases e2
   refine Af<|Be underlying25 O (BA _)<|Aa (Ah (AK _) O ‹_› rfl) O ?_
   refine Aj O O (FM x.n 0 31 _) ?_
   rintro _ w ⟨rfl,j⟩
   have m:=m.bs j
   have l:=l.bs j
   have k:=k.bs j
   have o:=o.bs j
   refine Ab O<|Bc<|Bi<|Av<|Ax O O ?_
   refine ⟨cngA Value.bool ?_,m⟩
   rw [K,Bool.eq_iff_iff]
   simp only [Bool.and_eq_true,decide_eq_true_eq]
   omega
  intro y
  refine Af<|Aa (Cl O (show _=some (b8 (8#8)) from rfl)) O<|Ab O<|Ak<|Ca O false ((decide_eq_false G))<|Af<|Aa (Cl O (show _=some (b8 (9#8)) from rfl)) O<|Ab O<|Ak<|Aq O ?_ ?_
  ·intro q
   have g:x.k=9#8:=AD q
   have e2:=e1
   rw [g,Vx] at e2
   cases e2
   refine Af<|Be underlying25 O (BA _)<|Aa (Ah (AK _) O ‹_› rfl) O ?_
   refine Aj O O (FM x.n 1 64 _) ?_
   rintro _ w ⟨rfl,j⟩
   have m:=m.bs j
   have l:=l.bs j
   have k:=k.bs j
   have o:=o.bs j
   refine Ab O<|Bc<|Bi<|Av<|Ax O O ?_
   refine ⟨cngA Value.bool ?_,m⟩
   rw [K,Bool.eq_iff_iff]
   simp only [Bool.and_eq_true,decide_eq_true_eq]
   omega
  intro u
  refine An<|Af<|Aa (Cl O (show _=some (b8 (12#8)) from rfl)) O<|Ab O<|Ak<|Aq O ?_ ?_
  ·intro Q
   have g:x.k=12#8:=AD Q
   have e2:=e1
   rw [g,Oy] at e2
   cases e2
   refine B0<|Ca O true (Q)<|Af<|Be underlying25 O (BA _)<|Aa (Ah (AK _) O ‹_› rfl) O ?_
   refine Aj O O (FM x.n 0 3 _) ?_
   rintro _ w ⟨rfl,j⟩
   have m:=m.bs j
   have l:=l.bs j
   have k:=k.bs j
   have o:=o.bs j
   refine Ab O<|Bc<|Bi<|Av<|Ax O O ?_
   refine ⟨cngA Value.bool ?_,m⟩
   rw [K,Bool.eq_iff_iff]
   simp only [Bool.and_eq_true,decide_eq_true_eq]
   omega
  intro J
  refine Bw<|Aa (Cl O (show _=some (b8 (13#8)) from rfl)) O<|Ab O<|Ak<|Aq O ?_ ?_
  ·intro q
   have g:x.k=13#8:=AD q
   have e2:=e1
   rw [g,MJ] at e2
   cases e2
   refine Af<|Be underlying25 O (BA _)<|Aa (Ah (AK _) O ‹_› rfl) O ?_
   refine Aj O O (FM x.n 0 3 _) ?_
   rintro _ w ⟨rfl,j⟩
   have m:=m.bs j
   have l:=l.bs j
   have k:=k.bs j
   have o:=o.bs j
   refine Ab O<|Bc<|Bi<|Av<|Ax O O ?_
   refine ⟨cngA Value.bool ?_,m⟩
   rw [K,Bool.eq_iff_iff]
   simp only [Bool.and_eq_true,decide_eq_true_eq]
   omega
  intro I
  have Y:c=0∧d=0:=by
   rcases V with ((((h|h)|h)|h)|h)|h
   ·exact absurd (decide_eq_true h) (by rw [y];decide)
   ·exact absurd h G
   ·exact absurd (decide_eq_true h) (by rw [u];decide)
   ·exact absurd (decide_eq_true h) (by rw [J];decide)
   ·exact absurd (decide_eq_true h) (by rw [I];decide)
   ·exact h
  refine Cp<|Bn<|Cm<|Be underlying25 O (BA _)<|Aa (Ah (AK _) O ‹_› rfl) O ?_
  refine Aa (Da O O) O<|Ab O<|Bc<|Ax O O ?_
  refine ⟨cngA Value.bool ?_,m⟩
  rw [K,Bool.eq_iff_iff]
  simp only [Bool.and_eq_true,decide_eq_true_eq]
  omega
 intro M
 have g:x.k=8#8:=by simpa using M
 have e2:=e1
 rw [g,R4] at e2
 cases e2
 refine Ae (dj:=75) O O O O<|Ae (dj:=75) O O O O<|Ae (dj:=75) O O O O<|Ag (dj:=71) O O<|Cn O<|Cn O<|Ak<|D6 O<|B0<|An<|Af<|Be underlying25 O (DF _)<|Aa (Ah (DG _) O ‹_› rfl) O ?_
 refine Ak<|Ao<|Af<|Aa (Cl O (show _=some (b8 (6#8)) from rfl)) O<|Ab O<|Ak<|Ca O false ((by rw [g];rfl))<|Af<|Aa (Cl O (show _=some (b8 (8#8)) from rfl)) O<|Ab O<|Ak<|Ca O true ((by rw [g];rfl))<|Af<|Be underlying25 O (BA _)<|Aa (Ah (AK _) O ‹_› rfl) O ?_
 refine Aj O O (FM x.n 1 8 _) ?_
 rintro _ w ⟨rfl,j⟩
 have m:=m.bs j
 have l:=l.bs j
 have k:=k.bs j
 have o:=o.bs j
 refine Ac O ?_
 refine Cc 93 O ?_ ?_
 ·intro u
  refine Ag (dj:=93) O O<|Be underlying25 O (BA _)<|Ag (dj:=93) O O<|Aa (Ah (AK _) O ‹_› rfl) O ?_
  refine Ag (dj:=93) O O<|Aj O O (FM x.p 0 8 _) ?_
  rintro _ w ⟨rfl,j⟩
  have m:=m.bs j
  have l:=l.bs j
  have k:=k.bs j
  have o:=o.bs j
  refine B4 O<|Ab O<|Bc<|Bi<|Av<|Ax O O ?_
  have H:1≤x.n∧x.n≤8:=by simpa using u
  refine ⟨cngA Value.bool ?_,m⟩
  rw [K,Bool.eq_iff_iff]
  simp only [Bool.and_eq_true,decide_eq_true_eq]
  omega
 intro u
 have H:¬(1≤x.n∧x.n≤8):=by simp at u;omega
 exact Ae (dj:=93) rfl rfl rfl rfl<|Ae (dj:=93) rfl rfl rfl rfl<|Ae (dj:=93) rfl rfl rfl rfl<|Cn rfl<|Ab rfl<|Bc<|Bi<|Av<|Ax rfl rfl<|⟨by rw [K,decide_eq_false (show ¬(1≤x.n∧x.n≤8∧0≤x.p∧x.p≤8) by omega),Bool.false_and],m⟩

theorem DU.mono {W a w:World} {x y:Value} {s:List Int} {l:List (BitVec 32)} (h:DU a w x y s l) (b:W.heap.size≤a.heap.size):DU W w x y s l:=⟨h.row.mono b,h.col.mono b,h.apart⟩
def EF (W w:World) (r:Value) (e:Int) (s:List Int) (l:List (BitVec 32)):Prop:=
 ∃c:T4,r= .tuple #[c.v, .int .i64 e]∧c.at w∧(e≠0→c.s=[]∧c.l=[]∧c.x= .slice none 0 0∧c.y= .slice none 0 0)∧(e=0→c.s=s∧c.l=l∧DU W w c.x c.y s l)
theorem FB {W w:World} {e:Int} {s:List Int} {l:List (BitVec 32)} (h:e≠0):EF W w (.tuple #[.agg #[.slice none 0 0, .slice none 0 0], .int .i64 e]) e s l:=⟨⟨.slice none 0 0, .slice none 0 0,[],[]⟩,rfl,⟨C0 _ _,C0 _ _⟩,fun _=>⟨rfl,rfl,rfl,rfl⟩,fun a=>absurd a h⟩
theorem IM.d {W w:World} {r:Value} {e:Int} {s:List Int} {l:List (BitVec 32)} (h:IM W w r e s l):EF W w r e s l:=by
 obtain ⟨c,f,d,g,b⟩:=h
 exact ⟨c,f,d,g,fun a=>⟨(b a).1,(b a).2.1,(b a).2.2.k⟩⟩
theorem Jw.d {W w:World} {r:Value} {e:Int} {s:List Int} {l:List (BitVec 32)} (h:Jw W w r e s l):EF W w r e s l:=by
 obtain ⟨x,y,rfl,b,a⟩:=h
 by_cases he:e=0
 ·exact ⟨⟨x,y,s,l⟩,rfl,(a he).at,fun h=>absurd he h,fun _=>⟨rfl,rfl,a he⟩⟩
 ·obtain ⟨rfl,rfl⟩:=b he
  exact FB he
theorem EF.low {W d w:World} {r:Value} {e:Int} {s:List Int} {l:List (BitVec 32)} (h:EF d w r e s l) (j:W.heap.size≤d.heap.size):EF W w r e s l:=by
 obtain ⟨c,g,f,i,b⟩:=h
 exact ⟨c,g,f,i,fun a=>⟨(b a).1,(b a).2.1,(b a).2.2.mono j⟩⟩
def HO (k:BitVec 8) (x:N5) (ts:List T4):Int:=
 let a:=ts.getD 0 default
 let b:=ts.getD 1 default
 if k=3#8∨k=4#8 then e2 a.s a.l b.s b.l else if k=7#8 then Hw a b else if k=5#8 then e1 a.s a.l else if k=6#8 then OZ a.s a.l x.n
 else if k=8#8 then Ho a b x.n x.p else if k=9#8 then HZ a x.n else if k=10#8 then KV a x.s else if k=11#8 then K2 a x.s else if k=12#8 then Lb ts x.n else KO a x.n
def Gu (k:BitVec 8) (x:N5) (ts:List T4):List Int:=
 let a:=ts.getD 0 default
 let b:=ts.getD 1 default
 if k=3#8∨k=4#8 then a.s else if k=7#8 then [a.s.getD 0 default,b.s.getD 1 default] else if k=5#8 then a.s else if k=6#8 then a.s
 else if k=8#8 then FG a.s b.s x.n x.p else if k=9#8 then GJ a.s x.n else if k=10#8 then x.s else if k=11#8 then turn a.s x.s else if k=12#8 then KZ ts x.n.toNat else BK a.s x.n.toNat
def G8 (k:BitVec 8) (x:N5) (ts:List T4):List (BitVec 32):=
 let a:=ts.getD 0 default
 let b:=ts.getD 1 default
 if k=3#8 then z2 (·+·) a.s a.l b.l else if k=4#8 then z2 (·*·) a.s a.l b.l else if k=7#8 then L2 a b else if k=5#8 then z1 Ik a.s a.l else if k=6#8 then z1 (U9 x.n.toNat) a.s a.l
 else if k=8#8 then Lm a b x.n x.p else if k=9#8 then Lk a x.n else if k=10#8 then a.l else if k=11#8 then UI a.s a.l x.s else if k=12#8 then Mk ts x.n.toNat else QC a.s a.l x.n.toNat
theorem Xj (v:Value) (l:List Int) (w:World) (p:BS (Value.int .i64) w v l):AM prog 134 [v] w (fun r k=>r= .bool (Hb l)∧Below w.heap.size w k):=by
 have t:=p.le
 refine Bb (n:=17) func134 O<|Af<|Ab O<|Bh<|Ac O<|Aa (Au AC O ‹_›) O ?_
 refine Ac O<|Ak<|Ao ?_
 refine Bq (S:=Nat) (fun i=>[(0,v),(5, .int .i64 (l.length:Int)),(6, .int .i64 (i:Int))]) (fun i k=>i≤l.length∧(∀j,j<i→l.contains (j:Int)=true)∧Below w.heap.size w k) (fun i=>l.length - i) (0) ⟨rfl,rfl,rfl,trivial⟩ ?_ ?_
 ·exact ⟨Nat.zero_le _,fun _ h=>by omega,Below.refl _ _⟩
 rintro i q ⟨y,o,c⟩
 have m:=p.bs c
 refine Af<|B3 O<|Ak<|An<|Aq O ?_ ?_
 ·intro h
  have a:i<l.length:=by have:=AD h;omega
  refine B0<|An<|Ao<|Af<|Ac O<|Ab O<|Bl<|Ac O<|Ac O<|Aj O O (Ju v l (i:Int) q m) ?_
  rintro _ x ⟨rfl,u⟩
  have b:=c.trans (u.mono (AA c))
  refine Aa (Ck O) O<|Ak<|Aq O ?_ ?_
  ·intro g
   have f:l.contains (i:Int)=false:=by simpa using g
   refine Af<|Ab O<|Bc<|Bi<|Av<|Av<|Bi<|Av<|Ax O O ?_
   refine ⟨?_,b⟩
   unfold Hb;rw [Ua a f];rfl
  intro g
  have f:l.contains (i:Int)=true:=by simpa using g
  refine Cp<|Bn<|Ch<|B7 O (by omega)<|Ac O<|Bf ?_
  exact Ap (Pw.next (i+1) ⟨rfl,rfl,rfl,trivial⟩ (⟨a,fun j s=>(Nat.lt_succ_iff_lt_or_eq.1 s).elim (o j) (fun e=>e ▸ f),b⟩) (by omega))
 intro h
 have a:i=l.length:=by have:=AB h;omega
 subst a
 have d:UB l=true:=IF.2 o
 refine Bp<|Al<|Al<|Bd<|Cm<|Ac O<|Aa (Au AC O ‹_›) O ?_
 refine Aa (D8 O O) O<|Ab O<|Bc<|Ax O O ?_
 refine ⟨?_,c⟩
 unfold Hb;rw [d,Bool.true_and];congr 1;exact decide_eq_decide.2 (by omega)
def HK (k:BitVec 8) (s:List Int) (p:Int):Bool:=if k=10#8 then Shapes.ok s && decide (p=0) else if k=11#8 then Hb s && decide (p=0) else if k=8#8 then decide (s.length=0) && decide (0≤p) && decide (p≤8) else decide (s.length=0) && decide (p=0)
theorem Xk {l:List Int}:decide ((l.length:Int)=0)=decide (l.length=0):=decide_eq_decide.2 (by omega)
theorem TV (x:N5) (w:World) (s:N5.at w x):AM prog 33 [x.v] w (fun r p=>r= .bool (HK x.k x.s x.p)∧Below w.heap.size w p):=by
 have b:=Below.refl w.heap.size w
 have h:=s.s
 refine Bb (n:=50) func33 O<|Af<|B5 (cs:=x.cells) O O O ?_
 rintro q w l i m -
 have b:=b.bs m
 have h:=h.bs m
 refine Ab O<|Bh<|Be underlying25 O (DF _)<|Aa (Ah (DG _) O ‹_› rfl) O ?_
 refine Ak<|Ao<|Af<|Aa (Cl O (show _=some (b8 (10#8)) from rfl)) O<|Ab O<|Ak<|Aq O ?_ ?_
 ·intro g
  have g:x.k=10#8:=AD g
  have e:HK x.k x.s x.p=(Shapes.ok x.s && decide (x.p=0)):=by unfold HK;rw [if_pos g]
  rw [e]
  refine Af<|Be underlying25 O (AN _)<|Aa (Ah (AF _) O ‹_› rfl) O ?_
  refine Aj O O (EL x.y x.s w h) ?_
  rintro _ o ⟨rfl,d⟩
  have i:=i.bs d
  have b:=bt b d
  refine Ac O ?_
  refine Cc 10 O ?_ ?_
  ·intro a
   refine Ag (dj:=10) O O<|Be underlying25 O (BA _)<|Ag (dj:=10) O O<|Aa (Ah (AK _) O ‹_› rfl) O ?_
   refine Ag (dj:=10) O O<|Aa (Da O O) O<|B4 O<|Ab O<|Bc<|Bi<|Av<|Ax O O ?_
   rw [a]
   exact ⟨rfl,b⟩
  intro a
  refine Ae (dj:=10) O O O O<|Ae (dj:=10) O O O O<|Ae (dj:=10) O O O O<|Cn O<|Ab O<|Bc<|Bi<|Av<|Ax O O ?_
  rw [a]
  exact ⟨rfl,b⟩
 intro c
 have c:¬x.k=10#8:=AB c
 refine Af<|Aa (Cl O (show _=some (b8 (11#8)) from rfl)) O<|Ab O<|Ak<|Aq O ?_ ?_
 ·intro g
  have g:x.k=11#8:=AD g
  have e:HK x.k x.s x.p=(Hb x.s && decide (x.p=0)):=by unfold HK;rw [if_neg c,if_pos g]
  rw [e]
  refine Af<|Be underlying25 O (AN _)<|Aa (Ah (AF _) O ‹_› rfl) O ?_
  refine Aj O O (Xj x.y x.s w h) ?_
  rintro _ o ⟨rfl,d⟩
  have i:=i.bs d
  have b:=bt b d
  refine Ac O ?_
  refine Cc 20 O ?_ ?_
  ·intro a
   refine Ag (dj:=20) O O<|Be underlying25 O (BA _)<|Ag (dj:=20) O O<|Aa (Ah (AK _) O ‹_› rfl) O ?_
   refine Ag (dj:=20) O O<|Aa (Da O O) O<|B4 O<|Ab O<|Bc<|Bi<|Av<|Ax O O ?_
   rw [a]
   exact ⟨rfl,b⟩
  intro a
  refine Ae (dj:=20) O O O O<|Ae (dj:=20) O O O O<|Ae (dj:=20) O O O O<|Cn O<|Ab O<|Bc<|Bi<|Av<|Ax O O ?_
  rw [a]
  exact ⟨rfl,b⟩
 intro f
 have f:¬x.k=11#8:=AB f
 refine Af<|Aa (Cl O (show _=some (b8 (8#8)) from rfl)) O<|Ab O<|Ak<|Aq O ?_ ?_
 ·intro g
  have g:x.k=8#8:=AD g
  have e:HK x.k x.s x.p=(decide (x.s.length=0) && decide (0≤x.p) && decide (x.p≤8)):=by unfold HK;rw [if_neg c,if_neg f,if_pos g]
  rw [e,← Xk]
  refine Af<|Be underlying25 O (AN _)<|Aa (Ah (AF _) O ‹_› rfl) O ?_
  refine Aa (Au AC O ‹_›) O ?_
  refine Aa (Da O O) O<|Ac O ?_
  refine Cc 31 O ?_ ?_
  ·intro a
   refine Ag (dj:=31) O O<|Be underlying25 O (BA _)<|Ag (dj:=31) O O<|Aa (Ah (AK _) O ‹_› rfl) O ?_
   refine Ag (dj:=31) O O<|Aa (Ds O O) O<|B4 O<|Ac O ?_
   refine Cc 36 O ?_ ?_
   ·intro k
    refine Ag (dj:=36) O O<|Be underlying25 O (BA _)<|Ag (dj:=36) O O<|Aa (Ah (AK _) O ‹_› rfl) O ?_
    refine Ag (dj:=36) O O<|Aa (D8 O O) O<|B4 O<|Ab O<|Bc<|Bi<|Av<|Ax O O ?_
    rw [a,k]
    exact ⟨rfl,b⟩
   intro k
   refine Ae (dj:=36) O O O O<|Ae (dj:=36) O O O O<|Ae (dj:=36) O O O O<|Cn O<|Ab O<|Bc<|Bi<|Av<|Ax O O ?_
   rw [a,k]
   exact ⟨rfl,b⟩
  intro a
  refine Ae (dj:=31) O O O O<|Ae (dj:=31) O O O O<|Ae (dj:=31) O O O O<|Cn O<|Ac O<|Ae (dj:=36) O O O O<|Ae (dj:=36) O O O O<|Ae (dj:=36) O O O O<|Cn O<|Ab O<|Bc<|Bi<|Av<|Ax O O ?_
  rw [a]
  exact ⟨rfl,b⟩
 intro j
 have j:¬x.k=8#8:=AB j
 have e:HK x.k x.s x.p=(decide (x.s.length=0) && decide (x.p=0)):=by unfold HK;rw [if_neg c,if_neg f,if_neg j]
 rw [e,← Xk]
 refine Cp<|Bn<|Cm<|Be underlying25 O (AN _)<|Aa (Ah (AF _) O ‹_› rfl) O ?_
 refine Aa (Au AC O ‹_›) O ?_
 refine Aa (Da O O) O<|Ac O ?_
 refine Cc 45 O ?_ ?_
 ·intro a
  refine Ag (dj:=45) O O<|Be underlying25 O (BA _)<|Ag (dj:=45) O O<|Aa (Ah (AK _) O ‹_› rfl) O ?_
  refine Ag (dj:=45) O O<|Aa (Da O O) O<|B4 O<|Ab O<|Bc<|Ax O O ?_
  rw [a]
  exact ⟨rfl,b⟩
 intro a
 refine Ae (dj:=45) O O O O<|Ae (dj:=45) O O O O<|Ae (dj:=45) O O O O<|Cn O<|Ab O<|Bc<|Ax O O ?_
 rw [a]
 exact ⟨rfl,b⟩

theorem BN {ts:List T4} {j:Nat} (h:j<ts.length):∀i,i<2→∃q,[ts[j].x,ts[j].y][i]? =some q∧(cellsOf ts)[j*2+i]? =some q:=fun i c=>by
 obtain ⟨a,b⟩:=CW h
 rcases (show i=0∨i=1 by omega) with rfl|rfl
 ·exact ⟨_,rfl,a⟩
 ·exact ⟨_,rfl,b⟩
abbrev Oc:TypeId:=33
theorem QE {w b:World} {sz:Nat} {v:Value} (h:Sl w sz v 0 []):Sl b sz v 0 []:=by
 obtain ⟨f,a,cap,e,c,i,d, -⟩:=h
 exact ⟨f,a,cap,e,c,i,d,fun _ _ j u g=>by simp at g⟩
theorem EF.by {W w j:World} {r:Value} {e:Int} {s:List Int} {l:List (BitVec 32)} {A:Nat} (h:EF W w r e s l) (g:w.grownBy j (some A)) (q:A<W.heap.size):EF W j r e s l:=by
 obtain ⟨d,n,c,k,o⟩:=h
 by_cases he:e=0
 ·obtain ⟨f,i,a⟩:=o he
  have m:DU W j d.x d.y s l:=⟨a.row.heap fun b e=>g.block b (a.row.lt b e).2 (fun e2=>by have:=(a.row.lt b e).1;have:=Option.some.inj e2;omega),a.col.heap fun b e=>g.block b (a.col.lt b e).2 (fun e2=>by have:=(a.col.lt b e).1;have:=Option.some.inj e2;omega),a.apart⟩
  exact ⟨d,n,by have:=m.at;unfold T4.at at this ⊢;rw [f,i];exact this,k,fun _=>⟨f,i,m⟩⟩
 ·obtain ⟨f,i, -⟩:=k he
  refine ⟨d,n, ?_,k,fun p=>absurd p he⟩
  unfold T4.at at c ⊢
  rw [f,i] at c ⊢
  exact ⟨QE c.1,QE c.2⟩
theorem EF.ones {W w:World} {r:Value} {e:Int} {s:List Int} {l:List (BitVec 32)} (h:EF W w r e s l):∃x y,r= .tuple #[.agg [x,y].toArray, .int .i64 e]∧[x,y].all (·.oneCell')=true:=by
 obtain ⟨d,b,a, -⟩:=h
 exact ⟨d.x,d.y,b,by rw [all_cons,all_cons,a.1.one',a.2.one'];rfl⟩
theorem Pd (x:N5) (v:Value) (a b:T4) (A:Nat) (f:FuncId) (e:Int) (s:List Int) (l:List (BitVec 32)) (w:World) (G:AO w A 83 [.func (.func f) #[] #[]]) (I:N5.at w x) (h:CN w v [a,b])
  (M:∀c,Below w.heap.size w c→AM prog f [a.v,b.v] c (fun r m=>Below c.heap.size c m∧EF c m r e s l)):
  AM prog 199 [x.v,v, .pointer (some ⟨A,0,none⟩)] w (fun r m=>Below w.heap.size w m∧EF w m r e s l):=by
 obtain ⟨W,K⟩:∃W,W=w:=⟨_,rfl⟩
 rw [← K] at G I h M
 rw [← K]
 have y:=Below.refl W.heap.size W
 have h_i:=I.i
 have h_s:=I.s
 have g:=h.1
 refine Bb (n:=17) func199 O<|Af<|B5 (cs:=x.cells) O O O ?_
 rintro U w Q u D -
 have y:=y.bs D
 have yx:=AH u
 refine Cx AY O ?_
 rintro S w N C D -
 have y:=y.bs D
 have u:=u.bs D
 refine Ab O<|Ak<|An ?_
 have Z:=AA y
 have yr:=AH C
 refine Cw.any AS (fun w2 E _=> ?_)
 have t:=y.trans (E.mono Z)
 refine Dh (fun m=>Below W.heap.size W m) (fun hC=> ?_) (t)
 refine Cj (Am Bo)<|Ai 0 O (fun c d=>Ah (YC _) O (AO.bs ‹_› d) O) O<|Ai 1 O (fun c d=>B6 O) O<|Ai 2 O (fun c d=>Ci AR O O (g.bs d) 0 O (show 0<2 by decide)) O<|Ai 3 O (fun c d=>Cq (cs:=[a.x,a.y]) (AT _) (AP _) O (g.bs d) O (by decide) (BN (ts:=[a,b]) (j:=0) Nat.zero_lt_two)) O<|Ai 4 O (fun c d=>B6 O) O<|Ai 5 O (fun c d=>Ci AR O O (g.bs d) 1 O (show 1<2 by decide)) O<|Ai 6 O (fun c d=>Cq (cs:=[b.x,b.y]) (AT _) (AP _) O (g.bs d) O (by decide) (BN (ts:=[a,b]) (j:=1) Nat.one_lt_two)) O<|Cb<|AZ.only ‹_› (i:=7) (by kernel_rfl) O ?_
 refine Ec (p:=[]) (q:=[]) O O O (M w2 t) ?_
 rintro r w3 ⟨o,L⟩
 obtain ⟨X,Y,rfl,T⟩:=L.ones
 have z2:=E.size
 have z3:=o.size
 have J:=t.trans (o.mono (by omega))
 have B:=(C.bs E).bs o
 refine AZ.back<|Cj (Am Bo)<|Ai 8 O (fun c d=>As (i:=0) O O) O<|Ai 9 O (fun c d=>As (i:=1) O O) O<|Cb<|AZ.only ‹_› (i:=10) (by kernel_rfl) O ?_
 refine Az (Bv (cs:=[X,Y]) (k:=2) (by kernel_rfl) O O O T B O) ?_
 rintro w4 ⟨R,z,V⟩
 have F:=L.by z (by omega)
 have H:=J.grown z (by omega) (by rintro _ ⟨⟩;omega)
 refine AZ.back<|Cj (Am Bo)<|Ai 11 O (fun c d=>Cf O) O<|Cb<|Cu ‹_› (by kernel_rfl) ?_
 refine Ap<|B8<|Df<|Bt O O O ‹_› underlying33 O O O ?_
 exact ⟨H,F.low (by omega)⟩
theorem Kl (x:N5) (v:Value) (a:T4) (A:Nat) (f:FuncId) (e:Int) (s:List Int) (l:List (BitVec 32)) (w:World) (C:AO w A 107 [.func (.func f) #[] #[]]) (L:N5.at w x) (h:CN w v [a])
  (S:∀b,Below w.heap.size w b→AM prog f [x.v,a.v] b (fun r m=>Below b.heap.size b m∧EF b m r e s l)):
  AM prog 206 [x.v,v, .pointer (some ⟨A,0,none⟩)] w (fun r m=>Below w.heap.size w m∧EF w m r e s l):=by
 obtain ⟨W,Q⟩:∃W,W=w:=⟨_,rfl⟩
 rw [← Q] at C L h S
 rw [← Q]
 have B:=Below.refl W.heap.size W
 have h_i:=L.i
 have h_s:=L.s
 have D:=h.1
 refine Bb (n:=15) func206 O<|Af<|B5 (cs:=x.cells) O O O ?_
 rintro y w U g J -
 have B:=B.bs J
 have yx:=AH g
 refine Cx AY O ?_
 rintro X w T F J -
 have B:=B.bs J
 have g:=g.bs J
 refine Ab O<|Ak<|An ?_
 have z0:=AA B
 have yr:=AH F
 refine Cw.any AS (fun w2 I _=> ?_)
 have z:=B.trans (I.mono z0)
 have t:=g.bs I
 refine Dh (fun m=>Below W.heap.size W m∧AO m y 25 x.cells) (fun hC=> ?_) (⟨z,t⟩)
 refine Cj (Am Bo)<|Ai 0 O (fun b c=>Ah (XG _) O (C.bs c.1) O) O<|Ai 1 O (fun b c=>B9 (k:=5) (EM _) (EJ _) O O c.2) O<|Ai 2 O (fun b c=>B6 O) O<|Ai 3 O (fun b c=>Ci AR O O (D.bs c.1) 0 O (show 0<1 by decide)) O<|Ai 4 O (fun b c=>Cq (cs:=[a.x,a.y]) (AT _) (AP _) O (D.bs c.1) O (by decide) (BN (ts:=[a]) (j:=0) Nat.zero_lt_one)) O<|Cb<|AZ.only ‹_› (i:=5) (by kernel_rfl) O ?_
 refine Ec (p:=[]) (q:=[]) O O O (S w2 z) ?_
 rintro r N ⟨d,R⟩
 obtain ⟨rx,ry,rfl,Y⟩:=R.ones
 have z2:=I.size
 have z3:=d.size
 have H:=z.trans (d.mono (by omega))
 have E:=(F.bs I).bs d
 have o:=t.bs d
 have Z:Below W.heap.size W N∧AO N y 25 x.cells:=⟨H,o⟩
 refine AZ.back<|Cj (Am Bo)<|Ai 6 O (fun b c=>As (i:=0) O O) O<|Ai 7 O (fun b c=>As (i:=1) O O) O<|Cb<|AZ.only ‹_› (i:=8) (by kernel_rfl) O ?_
 refine Az (Bv (cs:=[rx,ry]) (k:=2) (by kernel_rfl) O O O Y E O) ?_
 rintro M ⟨V,u,hz4⟩
 have K:=R.by u (by omega)
 have G:=H.grown u (by omega) (by rintro _ ⟨⟩;omega)
 have hC4:Below W.heap.size W M∧AO M y 25 x.cells:=⟨G,o.by u (fun e=>by have:=Option.some.inj e;omega)⟩
 refine AZ.back<|Cj (Am Bo)<|Ai 9 O (fun b c=>Cf O) O<|Cb<|Cu ‹_› (by kernel_rfl) ?_
 refine Ap<|B8<|Df<|Bt O O O ‹_› underlying33 O O O ?_
 exact ⟨G,K.low (by omega)⟩
theorem VO (x:N5) (a:T4) (w:World) (v:N5.at w x) (A:a.at w):
  AM prog 117 [x.v,a.v] w (fun r t=>Below w.heap.size w t∧EF w t r (e1 a.s a.l) (a.s) (z1 Ik a.s a.l)):=by
 obtain ⟨W,u⟩:∃W,W=w:=⟨_,rfl⟩
 rw [← u] at v A
 rw [← u]
 have f:=Below.refl W.heap.size W
 have d:=v.s
 have b:=A
 refine Bb (n:=10) func117 O<|Af<|B5 (cs:=x.cells) O O O ?_
 rintro G w C e c -
 have f:=f.bs c
 have d:=d.bs c
 have b:=b.bs c
 have Q:=AH e
 refine B5 (cs:=[a.x,a.y]) O O O ?_
 rintro I w z h c -
 have f:=f.bs c
 have d:=d.bs c
 have b:=b.bs c
 have e:=e.bs c
 have S:=AH h
 refine Cx AY O ?_
 rintro E w B m c -
 have f:=f.bs c
 have d:=d.bs c
 have b:=b.bs c
 have e:=e.bs c
 have h:=h.bs c
 refine Ab O<|Bl<|Aa (B9 (AT _) (AP _) O O ‹_›) O ?_
 have y:=AA f
 have L:=AH m
 refine Aj O O (WR a w b) ?_
 rintro r N ⟨g,o⟩
 have o:=IM.d o
 obtain ⟨J,K,rfl,F⟩:=o.ones
 have R:=g.size
 have s:=f.trans (g.mono y)
 have l:=m.bs g
 refine Aa (As (i:=0) O O) O<|Aa (As (i:=1) O O) O<|Az (Bv (cs:=[J,K]) (k:=2) (by kernel_rfl) O O O F l O) ?_
 rintro M ⟨D,j,H⟩
 have p:=o.by j L
 have q:=s.grown j (by omega) (by rintro _ ⟨⟩;omega)
 refine Ab O<|Bc<|Bt O O O ‹_› underlying33 O O O ?_
 exact ⟨q,p.low y⟩
theorem VN (x:N5) (a:T4) (w:World) (v:N5.at w x) (A:a.at w):
  AM prog 119 [x.v,a.v] w (fun r t=>Below w.heap.size w t∧EF w t r (OZ a.s a.l x.n) (a.s) (z1 (U9 x.n.toNat) a.s a.l)):=by
 obtain ⟨W,u⟩:∃W,W=w:=⟨_,rfl⟩
 rw [← u] at v A
 rw [← u]
 have f:=Below.refl W.heap.size W
 have d:=v.s
 have b:=A
 refine Bb (n:=12) func119 O<|Af<|B5 (cs:=x.cells) O O O ?_
 rintro G w C e c -
 have f:=f.bs c
 have d:=d.bs c
 have b:=b.bs c
 have Q:=AH e
 refine B5 (cs:=[a.x,a.y]) O O O ?_
 rintro I w z h c -
 have f:=f.bs c
 have d:=d.bs c
 have b:=b.bs c
 have e:=e.bs c
 have S:=AH h
 refine Cx AY O ?_
 rintro E w B m c -
 have f:=f.bs c
 have d:=d.bs c
 have b:=b.bs c
 have e:=e.bs c
 have h:=h.bs c
 refine Ab O<|Bl<|Aa (B9 (AT _) (AP _) O O ‹_›) O ?_
 refine Be underlying25 O (BA _)<|Aa (Ah (AK _) O ‹_› rfl) O ?_
 have y:=AA f
 have L:=AH m
 refine Aj O O (US a x.n w b) ?_
 rintro r N ⟨g,o⟩
 have o:=IM.d o
 obtain ⟨J,K,rfl,F⟩:=o.ones
 have R:=g.size
 have s:=f.trans (g.mono y)
 have l:=m.bs g
 refine Aa (As (i:=0) O O) O<|Aa (As (i:=1) O O) O<|Az (Bv (cs:=[J,K]) (k:=2) (by kernel_rfl) O O O F l O) ?_
 rintro M ⟨D,j,H⟩
 have p:=o.by j L
 have q:=s.grown j (by omega) (by rintro _ ⟨⟩;omega)
 refine Ab O<|Bc<|Bt O O O ‹_› underlying33 O O O ?_
 exact ⟨q,p.low y⟩
theorem VM (x:N5) (a:T4) (w:World) (v:N5.at w x) (A:a.at w):
  AM prog 121 [x.v,a.v] w (fun r t=>Below w.heap.size w t∧EF w t r (HZ a x.n) (GJ a.s x.n) (Lk a x.n)):=by
 obtain ⟨W,u⟩:∃W,W=w:=⟨_,rfl⟩
 rw [← u] at v A
 rw [← u]
 have f:=Below.refl W.heap.size W
 have d:=v.s
 have b:=A
 refine Bb (n:=12) func121 O<|Af<|B5 (cs:=x.cells) O O O ?_
 rintro G w C e c -
 have f:=f.bs c
 have d:=d.bs c
 have b:=b.bs c
 have Q:=AH e
 refine B5 (cs:=[a.x,a.y]) O O O ?_
 rintro I w z h c -
 have f:=f.bs c
 have d:=d.bs c
 have b:=b.bs c
 have e:=e.bs c
 have S:=AH h
 refine Cx AY O ?_
 rintro E w B m c -
 have f:=f.bs c
 have d:=d.bs c
 have b:=b.bs c
 have e:=e.bs c
 have h:=h.bs c
 refine Ab O<|Bl<|Aa (B9 (AT _) (AP _) O O ‹_›) O ?_
 refine Be underlying25 O (BA _)<|Aa (Ah (AK _) O ‹_› rfl) O ?_
 have y:=AA f
 have L:=AH m
 refine Aj O O (XQ a x.n w b) ?_
 rintro r N ⟨g,o⟩
 have o:=IM.d o
 obtain ⟨J,K,rfl,F⟩:=o.ones
 have R:=g.size
 have s:=f.trans (g.mono y)
 have l:=m.bs g
 refine Aa (As (i:=0) O O) O<|Aa (As (i:=1) O O) O<|Az (Bv (cs:=[J,K]) (k:=2) (by kernel_rfl) O O O F l O) ?_
 rintro M ⟨D,j,H⟩
 have p:=o.by j L
 have q:=s.grown j (by omega) (by rintro _ ⟨⟩;omega)
 refine Ab O<|Bc<|Bt O O O ‹_› underlying33 O O O ?_
 exact ⟨q,p.low y⟩
theorem VL (x:N5) (a:T4) (w:World) (v:N5.at w x) (A:a.at w):
  AM prog 123 [x.v,a.v] w (fun r t=>Below w.heap.size w t∧EF w t r (KV a x.s) (x.s) (a.l)):=by
 obtain ⟨W,u⟩:∃W,W=w:=⟨_,rfl⟩
 rw [← u] at v A
 rw [← u]
 have f:=Below.refl W.heap.size W
 have c:=v.s
 have b:=A
 refine Bb (n:=12) func123 O<|Af<|B5 (cs:=x.cells) O O O ?_
 rintro G w C e d -
 have f:=f.bs d
 have c:=c.bs d
 have b:=b.bs d
 have Q:=AH e
 refine B5 (cs:=[a.x,a.y]) O O O ?_
 rintro I w z h d -
 have f:=f.bs d
 have c:=c.bs d
 have b:=b.bs d
 have e:=e.bs d
 have S:=AH h
 refine Cx AY O ?_
 rintro E w B m d -
 have f:=f.bs d
 have c:=c.bs d
 have b:=b.bs d
 have e:=e.bs d
 have h:=h.bs d
 refine Ab O<|Bl<|Aa (B9 (AT _) (AP _) O O ‹_›) O ?_
 refine Be underlying25 O (AN _)<|Aa (Ah (AF _) O ‹_› rfl) O ?_
 have y:=AA f
 have L:=AH m
 refine Aj O O (Tq a x.y x.s w b c) ?_
 rintro r N ⟨g,o⟩
 have o:=Jw.d o
 obtain ⟨J,K,rfl,F⟩:=o.ones
 have R:=g.size
 have s:=f.trans (g.mono y)
 have l:=m.bs g
 refine Aa (As (i:=0) O O) O<|Aa (As (i:=1) O O) O<|Az (Bv (cs:=[J,K]) (k:=2) (by kernel_rfl) O O O F l O) ?_
 rintro M ⟨D,j,H⟩
 have p:=o.by j L
 have q:=s.grown j (by omega) (by rintro _ ⟨⟩;omega)
 refine Ab O<|Bc<|Bt O O O ‹_› underlying33 O O O ?_
 exact ⟨q,p.low y⟩
theorem VK (x:N5) (a:T4) (w:World) (v:N5.at w x) (A:a.at w):
  AM prog 125 [x.v,a.v] w (fun r t=>Below w.heap.size w t∧EF w t r (K2 a x.s) (turn a.s x.s) (UI a.s a.l x.s)):=by
 obtain ⟨W,u⟩:∃W,W=w:=⟨_,rfl⟩
 rw [← u] at v A
 rw [← u]
 have f:=Below.refl W.heap.size W
 have c:=v.s
 have b:=A
 refine Bb (n:=12) func125 O<|Af<|B5 (cs:=x.cells) O O O ?_
 rintro G w C e d -
 have f:=f.bs d
 have c:=c.bs d
 have b:=b.bs d
 have Q:=AH e
 refine B5 (cs:=[a.x,a.y]) O O O ?_
 rintro I w z h d -
 have f:=f.bs d
 have c:=c.bs d
 have b:=b.bs d
 have e:=e.bs d
 have S:=AH h
 refine Cx AY O ?_
 rintro E w B m d -
 have f:=f.bs d
 have c:=c.bs d
 have b:=b.bs d
 have e:=e.bs d
 have h:=h.bs d
 refine Ab O<|Bl<|Aa (B9 (AT _) (AP _) O O ‹_›) O ?_
 refine Be underlying25 O (AN _)<|Aa (Ah (AF _) O ‹_› rfl) O ?_
 have y:=AA f
 have L:=AH m
 refine Aj O O (Vr a x.y x.s w b c) ?_
 rintro r N ⟨g,o⟩
 have o:=Jw.d o
 obtain ⟨J,K,rfl,F⟩:=o.ones
 have R:=g.size
 have s:=f.trans (g.mono y)
 have l:=m.bs g
 refine Aa (As (i:=0) O O) O<|Aa (As (i:=1) O O) O<|Az (Bv (cs:=[J,K]) (k:=2) (by kernel_rfl) O O O F l O) ?_
 rintro M ⟨D,j,H⟩
 have p:=o.by j L
 have q:=s.grown j (by omega) (by rintro _ ⟨⟩;omega)
 refine Ab O<|Bc<|Bt O O O ‹_› underlying33 O O O ?_
 exact ⟨q,p.low y⟩
theorem VJ (x:N5) (a:T4) (w:World) (v:N5.at w x) (A:a.at w):
  AM prog 127 [x.v,a.v] w (fun r t=>Below w.heap.size w t∧EF w t r (KO a x.n) (BK a.s x.n.toNat) (QC a.s a.l x.n.toNat)):=by
 obtain ⟨W,u⟩:∃W,W=w:=⟨_,rfl⟩
 rw [← u] at v A
 rw [← u]
 have f:=Below.refl W.heap.size W
 have d:=v.s
 have b:=A
 refine Bb (n:=12) func127 O<|Af<|B5 (cs:=x.cells) O O O ?_
 rintro G w C e c -
 have f:=f.bs c
 have d:=d.bs c
 have b:=b.bs c
 have Q:=AH e
 refine B5 (cs:=[a.x,a.y]) O O O ?_
 rintro I w z h c -
 have f:=f.bs c
 have d:=d.bs c
 have b:=b.bs c
 have e:=e.bs c
 have S:=AH h
 refine Cx AY O ?_
 rintro E w B m c -
 have f:=f.bs c
 have d:=d.bs c
 have b:=b.bs c
 have e:=e.bs c
 have h:=h.bs c
 refine Ab O<|Bl<|Aa (B9 (AT _) (AP _) O O ‹_›) O ?_
 refine Be underlying25 O (BA _)<|Aa (Ah (AK _) O ‹_› rfl) O ?_
 have y:=AA f
 have L:=AH m
 refine Aj O O (Xi a x.n w b) ?_
 rintro r N ⟨g,o⟩
 have o:=Jw.d o
 obtain ⟨J,K,rfl,F⟩:=o.ones
 have R:=g.size
 have s:=f.trans (g.mono y)
 have l:=m.bs g
 refine Aa (As (i:=0) O O) O<|Aa (As (i:=1) O O) O<|Az (Bv (cs:=[J,K]) (k:=2) (by kernel_rfl) O O O F l O) ?_
 rintro M ⟨D,j,H⟩
 have p:=o.by j L
 have q:=s.grown j (by omega) (by rintro _ ⟨⟩;omega)
 refine Ab O<|Bc<|Bt O O O ‹_› underlying33 O O O ?_
 exact ⟨q,p.low y⟩
theorem VI (x:N5) (v:Value) (a b:T4) (w:World) (h:CN w v [a,b]):
  AM prog 129 [x.v,v] w (fun r u=>Below w.heap.size w u∧EF w u r (Ho a b x.n x.p) (FG a.s b.s x.n x.p) (Lm a b x.n x.p)):=by
 obtain ⟨W,I⟩:∃W,W=w:=⟨_,rfl⟩
 rw [← I] at h
 rw [← I]
 have t:=Below.refl W.heap.size W
 have f:=h.1
 refine Bb (n:=19) func129 O<|Af<|B5 (cs:=x.cells) O O O ?_
 rintro s w K m E -
 have t:=t.bs E
 have Z:=AH m
 refine Cx AY O ?_
 rintro M w J z E -
 have t:=t.bs E
 have m:=m.bs E
 refine Ab O<|Ak<|An ?_
 have U:=AA t
 have yr:=AH z
 refine Cw.any AS (fun X C _=> ?_)
 have l:=t.trans (C.mono U)
 have p:=m.bs C
 refine Dh (fun u=>Below W.heap.size W u∧AO u s 25 x.cells) (fun Y=> ?_) (⟨l,p⟩)
 refine Cj (Am Bo)<|Ai 0 O (fun d c=>B6 O) O<|Ai 1 O (fun d c=>Ci AR O O (f.bs c.1) 0 O (show 0<2 by decide)) O<|Ai 2 O (fun d c=>Cq (cs:=[a.x,a.y]) (AT _) (AP _) O (f.bs c.1) O (by decide) (BN (ts:=[a,b]) (j:=0) Nat.zero_lt_two)) O<|Ai 3 O (fun d c=>B6 O) O<|Ai 4 O (fun d c=>Ci AR O O (f.bs c.1) 1 O (show 1<2 by decide)) O<|Ai 5 O (fun d c=>Cq (cs:=[b.x,b.y]) (AT _) (AP _) O (f.bs c.1) O (by decide) (BN (ts:=[a,b]) (j:=1) Nat.one_lt_two)) O<|Ai 6 O (fun d c=>Cd underlying25 O (BA _)) O<|Ai 7 O (fun d c=>Ah (AK _) O c.2 O) O<|Ai 8 O (fun d c=>Cd underlying25 O (BA _)) O<|Ai 9 O (fun d c=>Ah (AK _) O c.2 O) O<|Cb<|AZ.only ‹_› (i:=10) (by kernel_rfl) O ?_
 refine Aj O O (XR a b x.n x.p X ((h.2 a (by simp)).bs l) ((h.2 b (by simp)).bs l)) ?_
 rintro r H ⟨g,D⟩
 have D:=IM.d D
 obtain ⟨S,T,rfl,N⟩:=D.ones
 have z2:=C.size
 have z3:=g.size
 have B:=l.trans (g.mono (by omega))
 have y:=(z.bs C).bs g
 have o:=p.bs g
 have Q:Below W.heap.size W H∧AO H s 25 x.cells:=⟨B,o⟩
 refine AZ.back<|Cj (Am Bo)<|Ai 11 O (fun d c=>As (i:=0) O O) O<|Ai 12 O (fun d c=>As (i:=1) O O) O<|Cb<|AZ.only ‹_› (i:=13) (by kernel_rfl) O ?_
 refine Az (Bv (cs:=[S,T]) (k:=2) (by kernel_rfl) O O O N y O) ?_
 rintro G ⟨L,q,R⟩
 have F:=D.by q (by omega)
 have A:=B.grown q (by omega) (by rintro _ ⟨⟩;omega)
 have V:Below W.heap.size W G∧AO G s 25 x.cells:=⟨A,o.by q (fun e=>by have:=Option.some.inj e;omega)⟩
 refine AZ.back<|Cj (Am Bo)<|Ai 14 O (fun d c=>Cf O) O<|Cb<|Cu ‹_› (by kernel_rfl) ?_
 refine Ap<|B8<|Df<|Bt O O O ‹_› underlying33 O O O ?_
 exact ⟨A,F.low (by omega)⟩
theorem VH (x:N5) (v:Value) (ts:List T4) (w:World) (h:CN w v ts):
  AM prog 131 [x.v,v] w (fun r p=>Below w.heap.size w p∧EF w p r (Lb ts x.n) (KZ ts x.n.toNat) (Mk ts x.n.toNat)):=by
 obtain ⟨W,q⟩:∃W,W=w:=⟨_,rfl⟩
 rw [← q] at h
 rw [← q]
 have c:=Below.refl W.heap.size W
 refine Bb (n:=12) func131 O<|Af<|B5 (cs:=x.cells) O O O ?_
 rintro B w u b j -
 have c:=c.bs j
 have I:=AH b
 refine Cx AY O ?_
 rintro z w t f j -
 have c:=c.bs j
 have b:=b.bs j
 refine Ab O<|Bl<|Ac O<|Be underlying25 O (BA _)<|Aa (Ah (AK _) O ‹_› rfl) O ?_
 have s:=AA c
 have F:=AH f
 refine Aj O O (Vs v ts x.n w (h.bs c)) ?_
 rintro r H ⟨a,g⟩
 have g:=Jw.d g
 obtain ⟨D,E,rfl,A⟩:=g.ones
 have J:=a.size
 have o:=c.trans (a.mono s)
 have e:=f.bs a
 refine Aa (As (i:=0) O O) O<|Aa (As (i:=1) O O) O<|Az (Bv (cs:=[D,E]) (k:=2) (by kernel_rfl) O O O A e O) ?_
 rintro G ⟨y,d,C⟩
 have l:=g.by d F
 have m:=o.grown d (by omega) (by rintro _ ⟨⟩;omega)
 refine Ab O<|Bc<|Bt O O O ‹_› underlying33 O O O ?_
 exact ⟨m,l.low s⟩
def dv (a b c d:Int) (f:Value):List Value:=[.int .i64 a, .int .i64 b, .int .i64 c, .int .i64 d,f]
abbrev EI (f:FuncId) (q:List Value):Value:= .func (.func f) #[] q.toArray
theorem Le (a b c d:Int) (f:FuncId) (q:List Value):Tryz.prog.built 79 [(0, .int .i64 a),(1, .int .i64 b),(2, .int .i64 c),(3, .int .i64 d),(4,EI f q)]=some (dv a b c d (EI f q)).toArray:=by
 have e:Tryz.prog.info? 79=some Tryz.t79:=by kernel_rfl
 have g:Tryz.prog.info? 3=some Tryz.t3:=by kernel_rfl
 have h:Tryz.prog.info? 36=some Tryz.t36:=by kernel_rfl
 simp [Program.built,e,underlying79,g,h,Instr.fill,Value.cells,EI,dv]
 rfl
theorem MG (g e:Int) (f:FuncId) (w:World):AM prog 116 [.int .i64 g, .int .i64 e,EI f []] w (fun r j=>Below w.heap.size w j∧∃A,w.heap.size≤A∧r= .agg (dv 1 1 g e (EI 206 [.pointer (some ⟨A,0,none⟩)])).toArray∧AO j A 107 [EI f []]):=by
 have c:=Below.refl w.heap.size w
 obtain ⟨m,s⟩:∃m,m=w.heap.size:=⟨_,rfl⟩
 refine Bb (n:=11) func116 O<|Af<|B5 (cs:=[EI f []]) O O O ?_
 rintro b w o a h -
 have c:=c.bs h
 have u:=AH a
 refine Cx QV O ?_
 rintro q w p d h -
 have c:=c.bs h
 have a:=a.bs h
 refine Bl<|Ac O<|Ac O<|Aa (Ef (vs:=[]) O O) O ?_
 have t:=AA c
 refine Aa (C4 (cs:=dv 1 1 g e (EI 206 [.pointer (some ⟨b,0,none⟩)])) O (Le 1 1 g e 206 [.pointer (some ⟨b,0,none⟩)])) O<|Az (Bv (cs:=dv 1 1 g e (EI 206 [.pointer (some ⟨b,0,none⟩)])) (k:=5) (by kernel_rfl) O O O O d O) ?_
 rintro x ⟨d,l,v⟩
 have a:=a.by l (by rintro ⟨⟩;omega)
 have i:=c.grown l t (by rintro _ ⟨⟩;omega)
 refine Bc<|Ee O O ‹_› underlying79 O O O ?_
 exact ⟨i,b,by omega,rfl,a⟩
theorem Sj (f:FuncId) (w:World):AM prog 112 [EI f []] w (fun r h=>Below w.heap.size w h∧∃A,w.heap.size≤A∧r= .agg (dv 2 2 0 0 (EI 199 [.pointer (some ⟨A,0,none⟩)])).toArray∧AO h A 83 [EI f []]):=by
 have c:=Below.refl w.heap.size w
 obtain ⟨j,p⟩:∃j,j=w.heap.size:=⟨_,rfl⟩
 refine Bb (n:=5) func112 O<|Af<|B5 (cs:=[EI f []]) O O O ?_
 rintro b w l a e -
 have c:=c.bs e
 have s:=AH a
 refine Cx QV O ?_
 rintro o w m d e -
 have c:=c.bs e
 have a:=a.bs e
 refine Bl<|Aa (Ef (vs:=[]) O O) O ?_
 have q:=AA c
 refine Aa (C4 (cs:=dv 2 2 0 0 (EI 199 [.pointer (some ⟨b,0,none⟩)])) O (Le 2 2 0 0 199 [.pointer (some ⟨b,0,none⟩)])) O<|Az (Bv (cs:=dv 2 2 0 0 (EI 199 [.pointer (some ⟨b,0,none⟩)])) (k:=5) (by kernel_rfl) O O O O d O) ?_
 rintro u ⟨d,i,t⟩
 have a:=a.by i (by rintro ⟨⟩;omega)
 have g:=c.grown i q (by rintro _ ⟨⟩;omega)
 refine Bc<|Ee O O ‹_› underlying79 O O O ?_
 exact ⟨g,b,by omega,rfl,a⟩

theorem RJ {place:Nat→Option (Nat×Nat)} {a:Array Value} {i off:Nat} {v:Value} {ds:List Value} {b:List (Nat×Value)} (d:v.cells=ds.toArray) (f:place i=some (off,ds.length)) (h:off+ds.length≤a.size):Instr.fill place a ((i,v)::b)=Instr.fill place (GW a.toList off ds).toArray b:=by
 have g:=LY ds 0 off a (by omega)
 have e:v.cells.zipIdx.foldl (fun cs (c,j)=>cs.setIfInBounds (off+j) c) a=(GW a.toList off ds).toArray:=by
  rw [d]
  simpa using g
 simp only [Instr.fill,f,e]
 rw [if_neg]
 rw [d]
 simp
 omega
theorem EV {a:List (List Value)} {i:Nat} {ds:List Value} {c:List (Nat×Value)} (d:∀r ∈ a,r.length=5) (e:i<a.length) (g:ds.length=5):
  Instr.fill (fun i=>some (i*5,5)) a.flatten.toArray ((i, .agg ds.toArray)::c)=Instr.fill (fun i=>some (i*5,5)) (a.set i ds).flatten.toArray c:=by
 have e1:a.flatten=Hg id a:=by simp [Hg]
 have e2:(a.set i ds).flatten=Hg id (a.set i ds):=by simp [Hg]
 have j:(Hg id a).length=a.length*5:=Lc (k:=5) d
 have h:=X2 (k:=5) (i:=4) e (by decide)
 rw [e1,e2,RJ (off:=i*5) (ds:=ds) rfl (by rw [g]) (by simp only [size_toArray];omega)]
 have:=VB (f:=id) (k:=5) (i:=0) (ds:=ds) (b:=ds) d e (by omega) (by
  show GW a[i] 0 ds=ds
  have:=d _ (getElem_mem e)
  unfold GW
  rw [take_zero,nil_append,drop_of_length_le (by omega),append_nil])
 rw [Nat.add_zero] at this
 rw [← this]
structure Pb where
 (a3 a4 a5 a6 a7 a9 a10 a11 a13:Nat)
abbrev Na (A:Nat):Value:=EI 199 [.pointer (some ⟨A,0,none⟩)]
abbrev Hf (A:Nat):Value:=EI 206 [.pointer (some ⟨A,0,none⟩)]
abbrev z5:List Value:=dv 0 0 0 0 .nilFunc
def DJ (d:Pb):List (List Value):=[z5,z5,z5,dv 2 2 0 0 (Na d.a3),dv 2 2 0 0 (Na d.a4),dv 1 1 0 0 (Hf d.a5),dv 1 1 0 31 (Hf d.a6),dv 2 2 0 0 (Na d.a7),dv 2 2 1 8 (EI 129 []),dv 1 1 1 64 (Hf d.a9),dv 1 1 0 0 (Hf d.a10),dv 1 1 0 0 (Hf d.a11),dv 1 4 0 3 (EI 131 []),dv 1 1 0 3 (Hf d.a13)]
abbrev Y9:TypeId:=79
abbrev ND:TypeId:=80
theorem Ly {a:List (List Value)} {i:Nat} {ds:List Value} (h:∀r ∈ a,r.length=5) (b:ds.length=5):∀r ∈ a.set i ds,r.length=5:=fun r c=>(mem_or_eq_of_mem_set c).elim (h r) (fun e=>e ▸ b)
theorem Zk:∀r ∈ replicate 14 z5,r.length=5:=fun r a=>by rw [(List.mem_replicate.1 a).2];rfl
theorem Uj (d:Pb):Tryz.prog.built ND [(3, .agg (dv 2 2 0 0 (Na d.a3)).toArray),(4, .agg (dv 2 2 0 0 (Na d.a4)).toArray),(7, .agg (dv 2 2 0 0 (Na d.a7)).toArray),(5, .agg (dv 1 1 0 0 (Hf d.a5)).toArray),(6, .agg (dv 1 1 0 31 (Hf d.a6)).toArray),(9, .agg (dv 1 1 1 64 (Hf d.a9)).toArray),(10, .agg (dv 1 1 0 0 (Hf d.a10)).toArray),(11, .agg (dv 1 1 0 0 (Hf d.a11)).toArray),(13, .agg (dv 1 1 0 3 (Hf d.a13)).toArray),(8, .agg (dv 2 2 1 8 (EI 129 [])).toArray),(12, .agg (dv 1 4 0 3 (EI 131 [])).toArray)]=some (DJ d).flatten.toArray:=by
 have q:Tryz.prog.info? ND=some Tryz.t80:=by kernel_rfl
 have p:Tryz.prog.info? Y9=some Tryz.t79:=by kernel_rfl
 simp only [Program.built,q,underlying80,p]
 have s:∃z,(Tryz.t80).zero=some z∧z.cells=(replicate 14 z5).flatten.toArray:=⟨_,rfl,rfl⟩
 obtain ⟨z,c,b⟩:=s
 rw [c]
 simp only
 rw [b,show (Tryz.t79).size=5 from rfl]
 have l:=Zk
 rw [EV l (by simp) rfl]
 have k:=Ly (i:=3) (ds:=dv 2 2 0 0 (Na d.a3)) l rfl
 rw [EV k (by simp) rfl]
 have g:=Ly (i:=4) (ds:=dv 2 2 0 0 (Na d.a4)) k rfl
 rw [EV g (by simp) rfl]
 have h:=Ly (i:=7) (ds:=dv 2 2 0 0 (Na d.a7)) g rfl
 rw [EV h (by simp) rfl]
 have f:=Ly (i:=5) (ds:=dv 1 1 0 0 (Hf d.a5)) h rfl
 rw [EV f (by simp) rfl]
 have o:=Ly (i:=6) (ds:=dv 1 1 0 31 (Hf d.a6)) f rfl
 rw [EV o (by simp) rfl]
 have e:=Ly (i:=9) (ds:=dv 1 1 1 64 (Hf d.a9)) o rfl
 rw [EV e (by simp) rfl]
 have j:=Ly (i:=10) (ds:=dv 1 1 0 0 (Hf d.a10)) e rfl
 rw [EV j (by simp) rfl]
 have n:=Ly (i:=11) (ds:=dv 1 1 0 0 (Hf d.a11)) j rfl
 rw [EV n (by simp) rfl]
 have m:=Ly (i:=13) (ds:=dv 1 1 0 3 (Hf d.a13)) n rfl
 rw [EV m (by simp) rfl]
 have a:=Ly (i:=8) (ds:=dv 2 2 1 8 (EI 129 [])) m rfl
 rw [EV a (by simp) rfl]
 have r:=Ly (i:=12) (ds:=dv 1 4 0 3 (EI 131 [])) a rfl
 rfl
theorem Oz:HP prog ND (replicate 14 z5).flatten 560:=⟨⟨_,(show Tryz.prog.info? ND=some Tryz.t80 by kernel_rfl),rfl,rfl,_,rfl,rfl⟩⟩
def I2 (w' :World) (d:Pb):Prop:=AO w' d.a3 83 [EI 113 []]∧AO w' d.a4 83 [EI 114 []]∧AO w' d.a7 83 [EI 115 []]∧AO w' d.a5 107 [EI 117 []]∧AO w' d.a6 107 [EI 119 []]∧AO w' d.a9 107 [EI 121 []]∧AO w' d.a10 107 [EI 123 []]∧AO w' d.a11 107 [EI 125 []]∧AO w' d.a13 107 [EI 127 []]
theorem VF (w:World):AM prog 32 [] w (fun r I=>Below w.heap.size w I∧∃d,r= .agg (DJ d).flatten.toArray∧I2 I d):=by
 have c:=Below.refl w.heap.size w
 obtain ⟨G,v⟩:∃G,G=w.heap.size:=⟨_,rfl⟩
 refine Bb (n:=13) func32 O<|Af<|Bk (Xw.new Oz) O ?_
 rintro _ w ⟨rfl,b,a,J⟩
 have c:=c.bs a
 obtain ⟨y,F⟩:∃y,y=G:=⟨_,rfl⟩
 rw [← v,← F] at b
 rw [← v,← F]
 have yr:=AH b
 clear a J
 refine Bl ?_
 have Y:=AH b
 refine Aj O O (Sj 113 w) ?_
 rintro _ w ⟨a,A,g3,rfl,f⟩
 have c:=c.bs a
 have b:=b.bs a
 have y4:=AH b
 refine Aj O O (Sj 114 w) ?_
 rintro _ w ⟨a,C,g4,rfl,g⟩
 have c:=c.bs a
 have b:=b.bs a
 have f:=f.bs a
 have V:=AH b
 refine Aj O O (Sj 115 w) ?_
 rintro _ w ⟨a,z,Z,rfl,i⟩
 have c:=c.bs a
 have b:=b.bs a
 have f:=f.bs a
 have g:=g.bs a
 have y5:=AH b
 refine Aj O O (MG 0 0 117 w) ?_
 rintro _ w ⟨a,B,g5,rfl,j⟩
 have c:=c.bs a
 have b:=b.bs a
 have f:=f.bs a
 have g:=g.bs a
 have i:=i.bs a
 have y6:=AH b
 refine Aj O O (MG 0 31 119 w) ?_
 rintro _ w ⟨a,E,W,rfl,m⟩
 have c:=c.bs a
 have b:=b.bs a
 have f:=f.bs a
 have g:=g.bs a
 have i:=i.bs a
 have j:=j.bs a
 have y9:=AH b
 refine Aj O O (MG 1 64 121 w) ?_
 rintro _ w ⟨a,D,X,rfl,t⟩
 have c:=c.bs a
 have b:=b.bs a
 have f:=f.bs a
 have g:=g.bs a
 have i:=i.bs a
 have j:=j.bs a
 have m:=m.bs a
 have L:=AH b
 refine Aj O O (MG 0 0 123 w) ?_
 rintro _ w ⟨a,o,T,rfl,h⟩
 have c:=c.bs a
 have b:=b.bs a
 have f:=f.bs a
 have g:=g.bs a
 have i:=i.bs a
 have j:=j.bs a
 have m:=m.bs a
 have t:=t.bs a
 have U:=AH b
 refine Aj O O (MG 0 0 125 w) ?_
 rintro _ w ⟨a,p,N,rfl,l⟩
 have c:=c.bs a
 have b:=b.bs a
 have f:=f.bs a
 have g:=g.bs a
 have i:=i.bs a
 have j:=j.bs a
 have m:=m.bs a
 have t:=t.bs a
 have h:=h.bs a
 have M:=AH b
 refine Aj O O (MG 0 3 127 w) ?_
 rintro _ w ⟨a,q,Q,rfl,u⟩
 have c:=c.bs a
 have b:=b.bs a
 have f:=f.bs a
 have g:=g.bs a
 have i:=i.bs a
 have j:=j.bs a
 have m:=m.bs a
 have t:=t.bs a
 have h:=h.bs a
 have l:=l.bs a
 refine Aa (C4 (cs:=dv 2 2 1 8 (EI 129 [])) O (Le 2 2 1 8 129 [])) O<|Aa (C4 (cs:=dv 1 4 0 3 (EI 131 [])) O (Le 1 4 0 3 131 [])) O<|Aa (C4 (cs:=(DJ ⟨A,C,B,E,z,D,o,p,q⟩).flatten) O (Uj ⟨A,C,B,E,z,D,o,p,q⟩)) O ?_
 have S:=AH b
 have R:=AA c
 have x:(DJ ⟨A,C,B,E,z,D,o,p,q⟩).flatten.all (·.oneCell')=true:=rfl
 refine Az (Bv (cs:=(DJ ⟨A,C,B,E,z,D,o,p,q⟩).flatten) (k:=70) (by kernel_rfl) O O O x b O) ?_
 rintro w2 ⟨K,s,J⟩
 have f:=f.by s (fun e=>by have:=Option.some.inj e;omega)
 have g:=g.by s (fun e=>by have:=Option.some.inj e;omega)
 have i:=i.by s (fun e=>by have:=Option.some.inj e;omega)
 have j:=j.by s (fun e=>by have:=Option.some.inj e;omega)
 have m:=m.by s (fun e=>by have:=Option.some.inj e;omega)
 have t:=t.by s (fun e=>by have:=Option.some.inj e;omega)
 have h:=h.by s (fun e=>by have:=Option.some.inj e;omega)
 have l:=l.by s (fun e=>by have:=Option.some.inj e;omega)
 have u:=u.by s (fun e=>by have:=Option.some.inj e;omega)
 have H:=c.grown s R (by rintro _ ⟨⟩;omega)
 refine Bc<|Ee O O ‹_› underlying80 O O O ?_
 exact ⟨by rw [F,v];exact H,⟨A,C,B,E,z,D,o,p,q⟩,rfl,f,g,i,j,m,t,h,l,u⟩
def IK:Nat→Option (Int×Int×Int×Int)
 |3=>some (2,2,0,0)
 |4=>some (2,2,0,0)
 |5=>some (1,1,0,0)
 |6=>some (1,1,0,31)
 |7=>some (2,2,0,0)
 |8=>some (2,2,1,8)
 |9=>some (1,1,1,64)
 |10=>some (1,1,0,0)
 |11=>some (1,1,0,0)
 |12=>some (1,4,0,3)
 |13=>some (1,1,0,3)
 |_=>none
def G9 (w:World) (d:Pb) (k:Nat) (a b c e:Int):Prop:=
 ∃f q,(DJ d)[k]? =some (dv a b c e (EI f q))∧∀(x:N5) (v:Value) (ts:List T4) (w1:World),x.k=BitVec.ofNat 8 k→Below w.heap.size w w1→N5.at w1 x→CN w1 v ts→a≤(ts.length:Int)→(ts.length:Int)≤b→
  AM prog f ([]++[x.v,v]++q) w1 (fun r w' =>Below w1.heap.size w1 w' ∧EF w1 w' r (HO x.k x ts) (Gu x.k x ts) (G8 x.k x ts))
theorem Ka {α:Type} {l:List α} (h:l.length=1):∃a,l=[a]:=by
 match l,h with
 |[a],_=>exact ⟨a,rfl⟩
theorem NB {α:Type} {l:List α} (h:l.length=2):∃a b,l=[a,b]:=by
 match l,h with
 |[a,b],_=>exact ⟨a,b,rfl⟩
theorem Zx (w:World) (d:Pb) (h:I2 w d):G9 w d 3 2 2 0 0:=by
 obtain ⟨l,r,o, -⟩:=h
 refine ⟨_,_,rfl,fun x v ts f i g n c q p=> ?_⟩
 obtain ⟨a,b,rfl⟩:=NB (show ts.length=2 by omega)
 rw [i]
 exact Pd x v a b d.a3 _ _ _ _ f (l.bs g) n c (fun k e=>(YG a b k ((c.2 a (by simp)).bs e) ((c.2 b (by simp)).bs e)).mono fun _ _ ⟨j,m⟩=>⟨j,m.d⟩)
theorem Zw (w:World) (d:Pb) (h:I2 w d):G9 w d 4 2 2 0 0:=by
 obtain ⟨r,k,o, -⟩:=h
 refine ⟨_,_,rfl,fun x v ts f i g n c q p=> ?_⟩
 obtain ⟨a,b,rfl⟩:=NB (show ts.length=2 by omega)
 rw [i]
 exact Pd x v a b d.a4 _ _ _ _ f (k.bs g) n c (fun l e=>(Yt a b l ((c.2 a (by simp)).bs e) ((c.2 b (by simp)).bs e)).mono fun _ _ ⟨j,m⟩=>⟨j,m.d⟩)
theorem Zt (w:World) (d:Pb) (h:I2 w d):G9 w d 7 2 2 0 0:=by
 obtain ⟨r,q,f, -⟩:=h
 refine ⟨_,_,rfl,fun x v ts i j g n c p o=> ?_⟩
 obtain ⟨a,b,rfl⟩:=NB (show ts.length=2 by omega)
 rw [j]
 exact Pd x v a b d.a7 _ _ _ _ i (f.bs g) n c (fun l e=>(WZ a b l ((c.2 a (by simp)).bs e) ((c.2 b (by simp)).bs e)).mono fun _ _ ⟨k,m⟩=>⟨k,m.d⟩)
theorem Zv (w:World) (d:Pb) (h:I2 w d):G9 w d 5 1 1 0 0:=by
 obtain ⟨-, -, -,j,q,r,m,k,n⟩:=h
 refine ⟨_,_,rfl,fun x v ts f i g e c p o=> ?_⟩
 obtain ⟨a,rfl⟩:=Ka (show ts.length=1 by omega)
 rw [i]
 exact Kl x v a d.a5 _ _ _ _ f (j.bs g) e c (fun l b=>VO x a l (e.bs b) ((c.2 a (by simp)).bs b))
theorem Zu (w:World) (d:Pb) (h:I2 w d):G9 w d 6 1 1 0 31:=by
 obtain ⟨-, -, -,o,k,r,m,j,n⟩:=h
 refine ⟨_,_,rfl,fun x v ts f i g e c q p=> ?_⟩
 obtain ⟨a,rfl⟩:=Ka (show ts.length=1 by omega)
 rw [i]
 exact Kl x v a d.a6 _ _ _ _ f (k.bs g) e c (fun l b=>VN x a l (e.bs b) ((c.2 a (by simp)).bs b))
theorem Zr (w:World) (d:Pb) (h:I2 w d):G9 w d 9 1 1 1 64:=by
 obtain ⟨-, -, -,o,r,n,l,j,m⟩:=h
 refine ⟨_,_,rfl,fun x v ts f i g e c q p=> ?_⟩
 obtain ⟨a,rfl⟩:=Ka (show ts.length=1 by omega)
 rw [i]
 exact Kl x v a d.a9 _ _ _ _ f (n.bs g) e c (fun k b=>VM x a k (e.bs b) ((c.2 a (by simp)).bs b))
theorem Zd (w:World) (d:Pb) (h:I2 w d):G9 w d 10 1 1 0 0:=by
 obtain ⟨-, -, -,n,q,r,b,k,m⟩:=h
 refine ⟨_,_,rfl,fun x v ts i j g f e p o=> ?_⟩
 obtain ⟨a,rfl⟩:=Ka (show ts.length=1 by omega)
 rw [j]
 exact Kl x v a d.a10 _ _ _ _ i (b.bs g) f e (fun l c=>VL x a l (f.bs c) ((e.2 a (by simp)).bs c))
theorem Zc (w:World) (d:Pb) (h:I2 w d):G9 w d 11 1 1 0 0:=by
 obtain ⟨-, -, -,n,q,r,l,b,m⟩:=h
 refine ⟨_,_,rfl,fun x v ts i j g f e p o=> ?_⟩
 obtain ⟨a,rfl⟩:=Ka (show ts.length=1 by omega)
 rw [j]
 exact Kl x v a d.a11 _ _ _ _ i (b.bs g) f e (fun k c=>VK x a k (f.bs c) ((e.2 a (by simp)).bs c))
theorem Za (w:World) (d:Pb) (h:I2 w d):G9 w d 13 1 1 0 3:=by
 obtain ⟨-, -, -,n,q,r,m,k,b⟩:=h
 refine ⟨_,_,rfl,fun x v ts i j g f e p o=> ?_⟩
 obtain ⟨a,rfl⟩:=Ka (show ts.length=1 by omega)
 rw [j]
 exact Kl x v a d.a13 _ _ _ _ i (b.bs g) f e (fun l c=>VJ x a l (f.bs c) ((e.2 a (by simp)).bs c))
theorem Zs (w:World) (d:Pb):G9 w d 8 2 2 1 8:=by
 refine ⟨_,_,rfl,fun x v ts c e _ _ f h g=> ?_⟩
 obtain ⟨a,b,rfl⟩:=NB (show ts.length=2 by omega)
 rw [e]
 exact VI x v a b c f
theorem Zb (w:World) (d:Pb):G9 w d 12 1 4 0 3:=by
 refine ⟨_,_,rfl,fun x v ts a c _ _ b _ _=> ?_⟩
 rw [c]
 exact VH x v ts a b
theorem VG (w:World) (d:Pb) (h:I2 w d) (k:Nat) (f:k<14):(IK k=none∧(DJ d)[k]? =some z5)∨∃a b c e,IK k=some (a,b,c,e)∧G9 w d k a b c e:=by
 rcases (show k=0∨k=1∨k=2∨k=3∨k=4∨k=5∨k=6∨k=7∨k=8∨k=9∨k=10∨k=11∨k=12∨k=13 by omega) with rfl|rfl|rfl|rfl|rfl|rfl|rfl|rfl|rfl|rfl|rfl|rfl|rfl|rfl
 ·exact .inl ⟨rfl,rfl⟩
 ·exact .inl ⟨rfl,rfl⟩
 ·exact .inl ⟨rfl,rfl⟩
 ·exact .inr ⟨_,_,_,_,rfl,Zx w d h⟩
 ·exact .inr ⟨_,_,_,_,rfl,Zw w d h⟩
 ·exact .inr ⟨_,_,_,_,rfl,Zv w d h⟩
 ·exact .inr ⟨_,_,_,_,rfl,Zu w d h⟩
 ·exact .inr ⟨_,_,_,_,rfl,Zt w d h⟩
 ·exact .inr ⟨_,_,_,_,rfl,Zs w d⟩
 ·exact .inr ⟨_,_,_,_,rfl,Zr w d h⟩
 ·exact .inr ⟨_,_,_,_,rfl,Zd w d h⟩
 ·exact .inr ⟨_,_,_,_,rfl,Zc w d h⟩
 ·exact .inr ⟨_,_,_,_,rfl,Zb w d⟩
 ·exact .inr ⟨_,_,_,_,rfl,Za w d h⟩
end Go.Proofs.YtmipoeanpnnjoaaGreatDoor

namespace Go.Dd
open Go Go.RowKit List
set_option maxRecDepth 100000
section
variable {P : Program} {n : Nat} {E : CS} {w : World} {ty t s : TypeId} {x y : Operand} {v : Value}
theorem Ex.nilFn {f:Fn} {p q:Array Value} (d:∃a b c,P.underlying t=some (.func a b c)) (k:ev E x=some (.func f p q)) (g:ev E y=some .nilFunc):Ex P n E (.binOp .eql t x y s) ty w (.bool false):=fun a e _ _ _ _=>by
 obtain ⟨o,l,m,d⟩:=d
 have j:eqGuard .eql t x y (.func f p q) .nilFunc=pure ():=rfl
 have i:binOp .eql t (.func f p q) .nilFunc=(do pure (.bool (← Op.equal t (.func f p q) .nilFunc))):=rfl
 have h:(Op.equalIn (9999+1) t (.func f p q) .nilFunc).run P w= .ok false w:=by
  unfold Op.equalIn
  simp [run_underlying d]
 simp [execOp,e.ev k,e.ev g,j,i,Op.equal,Op.maxDepth,h]
theorem Ex.nilFy (d:∃a b c,P.underlying t=some (.func a b c)) (j:ev E x=some .nilFunc) (f:ev E y=some .nilFunc):Ex P n E (.binOp .eql t x y s) ty w (.bool true):=fun a e _ _ _ _=>by
 obtain ⟨m,k,l,d⟩:=d
 have i:eqGuard .eql t x y .nilFunc .nilFunc=pure ():=rfl
 have h:binOp .eql t .nilFunc .nilFunc=(do pure (.bool (← Op.equal t .nilFunc .nilFunc))):=rfl
 have g:(Op.equalIn (9999+1) t .nilFunc .nilFunc).run P w= .ok true w:=by
  unfold Op.equalIn
  simp [run_underlying d]
 simp [execOp,e.ev j,e.ev f,i,h,Op.equal,Op.maxDepth,g]
end
end Go.Dd
namespace Go.Proofs.YtmipoeanpnnjoaaGreatDoor
open Go Go.Dd Go.RowKit List Go.Proofs.Tryz
set_option maxRecDepth 100000
theorem Q1:∃a b c,Tryz.prog.underlying 36=some (.func a b c):=⟨_,_,_,underlying36⟩
def DK (x:N5) (ts:List T4):Bool:=match IK x.k.toNat with
 |some (a,b,c,d)=>decide (ts.length=x.i.length) && decide (a≤(ts.length:Int)) && decide ((ts.length:Int)≤b) && decide (c≤x.n) && decide (x.n≤d) && HK x.k x.s x.p
 |none=>false
def GQ (x:N5) (ts:List T4):Int:=if DK x ts then HO x.k x ts else 1
theorem TZ {k:Nat} (h:14≤k):IK k=none:=by
 unfold IK
 split<;>first|rfl|omega
theorem YZ (x:N5) (v:Value) (ts:List T4) (w:World) (hx:N5.at w x) (h:CN w v ts):
  AM prog 9 [x.v,v] w (fun r w' =>Below w.heap.size w w' ∧EF w w' r (GQ x ts) (Gu x.k x ts) (G8 x.k x ts)):=by
 obtain ⟨W,hW⟩:∃W,W=w:=⟨_,rfl⟩
 rw [← hW] at hx h
 rw [← hW]
 have l:=Below.refl W.heap.size W
 have R:=hx.i
 have J:=hx.s
 have N:=h.1
 have k8:=x.k.isLt
 refine Bb (n:=70) func9 O<|Af<|B5 (cs:=x.cells) O O O ?_
 rintro A_x w eA_x u S -
 have l:=l.bs S
 have R:=R.bs S
 have J:=J.bs S
 have N:=N.bs S
 have yx:=AH u
 refine Cx AY O ?_
 rintro A_r w eA_r j S -
 have l:=l.bs S
 have R:=R.bs S
 have J:=J.bs S
 have N:=N.bs S
 have u:=u.bs S
 refine Ab O<|Bl ?_
 have z0:=AA l
 have yr:=AH j
 refine Aj O O (VF w) ?_
 rintro _ w1 ⟨T,d,rfl,hD⟩
 have u:=u.bs T
 have j:=j.bs T
 have z1:=T.size
 have l:=l.trans (T.mono z0)
 refine Bk (Xw.new Oz) O ?_
 rintro _ w2 ⟨rfl,z,U,hz2⟩
 have u:=u.bs U
 have j:=j.bs U
 have hones:(DJ d).flatten.all (·.oneCell')=true:=rfl
 obtain ⟨Q,Z⟩:∃Q,Q=w1.heap.size:=⟨_,rfl⟩
 rw [← Z] at z
 rw [← Z]
 refine Az (Bv (cs:=(DJ d).flatten) (k:=70) (by kernel_rfl) O O O hones z O) ?_
 rintro w3 ⟨z,hg3,hz3⟩
 have L:Below w1.heap.size w1 w3:=U.grown hg3 U.size (by rintro _ ⟨⟩;omega)
 have u:=u.by hg3 (by rintro ⟨⟩;omega)
 have j:=j.by hg3 (by rintro ⟨⟩;omega)
 have l:=l.trans (L.mono (by omega))
 have z3:=L.size
 refine Bh<|Be underlying25 O (DF _)<|Aa (Ah (DG _) O ‹_› rfl) O ?_
 refine Aa (Gi XU NW O) O<|Aa (Ds O O) O<|Ak<|Aq O ?_ ?_
 ·intro g
  have g:=AD g
  have D:DK x ts=false:=(show DK x ts=false by unfold DK;rw [TZ (by omega)])
  have e1:GQ x ts=1:=by unfold GQ;rw [D];rfl
  refine Af<|C8 O<|Az (Bv (cs:=[.slice none 0 0, .slice none 0 0]) (k:=2) (by kernel_rfl) O O O O j O) ?_
  rintro w9 ⟨A,m,G⟩
  have o:=Below.grown l m (AA l) (by rintro _ ⟨⟩;omega)
  refine Ab O<|Bu<|Bt O O O ‹_› underlying33 O O O ?_
  rw [e1]
  exact ⟨o,FB (by decide)⟩
 intro g
 have k14:x.k.toNat<14:=by have:=AB g;omega
 have X:∀r ∈ DJ d,r.length=5:=fun r hr=>by
  simp only [DJ,mem_cons,not_mem_nil,or_false] at hr
  rcases hr with rfl|rfl|rfl|rfl|rfl|rfl|rfl|rfl|rfl|rfl|rfl|rfl|rfl|rfl<;>rfl
 have I:∀row,(DJ d)[x.k.toNat]? =some row→(((DJ d).flatten.drop (0+x.k.toNat*5)).take 5=row∧row.length=5):=fun row hr=>by
  obtain ⟨hlt,rfl⟩:=List.getElem?_eq_some_iff.1 hr
  have e1:(DJ d).flatten=Hg id (DJ d):=by simp [Hg]
  rw [e1,Nat.zero_add]
  exact ⟨OG (f:=id) (k:=5) X hlt,X _ (getElem_mem hlt)⟩
 rcases VG w1 d hD x.k.toNat k14 with ⟨hdr,K⟩|⟨a,b,c,e,hdr,f,q,K,hcall⟩
 ·obtain ⟨hp, -⟩:=I _ K
  refine Co<|Be underlying25 O (DF _)<|Aa (Ah (DG _) O ‹_› rfl) O ?_
  refine Aa (Ex.idxB Wg QB O O x.k.toNat O k14) O<|Aa (Eg (ds:=z5) (k:=5) (Wy _) (QB _) O O z hp) O<|Bk (Xw.new QV) O ?_
  rintro _ w4 ⟨rfl,F,M,hz4⟩
  have j:=j.bs M
  refine Az (Bv (cs:=z5) (k:=5) (by kernel_rfl) O O O O F O) ?_
  rintro w5 ⟨F,V,hz5⟩
  have l:=(l.trans (M.mono (by omega))).grown V (by omega) (by rintro _ ⟨⟩;omega)
  have j:=j.by V (by rintro ⟨⟩;omega)
  refine Bh<|Be underlying79 O (S7 _)<|Aa (Ah (U2 _) O ‹_› rfl) O ?_
  refine Aa (Ex.nilFy Q1 O O) O<|Ac O<|C5 21 (v' := .bool true) O (cngA Value.bool (rfl))<|Ae (dj:=21) O O O O<|Ae (dj:=21) O O O O<|Ae (dj:=21) O O O O<|Ae (dj:=21) O O O O<|Ae (dj:=21) O O O O<|Ae (dj:=21) O O O O<|B4 O<|Ac O<|Ae (dj:=29) O O O O<|Ae (dj:=29) O O O O<|Ae (dj:=29) O O O O<|Ae (dj:=29) O O O O<|Ae (dj:=29) O O O O<|B4 O<|Ac O<|Ae (dj:=36) O O O O<|Ae (dj:=36) O O O O<|Ae (dj:=36) O O O O<|Ae (dj:=36) O O O O<|Ae (dj:=36) O O O O<|B4 O<|Ac O<|Ae (dj:=43) O O O O<|Ae (dj:=43) O O O O<|Ae (dj:=43) O O O O<|Ae (dj:=43) O O O O<|Ae (dj:=43) O O O O<|B4 O<|Ac O<|Ae (dj:=50) O O O O<|Ae (dj:=50) O O O O<|Ae (dj:=50) O O O O<|Ae (dj:=50) O O O O<|Ae (dj:=50) O O O O<|B4 O<|Ac O<|Ae (dj:=57) O O O O<|Ae (dj:=57) O O O O<|Ae (dj:=57) O O O O<|B4 O<|Ak<|Bz O<|Af ?_
  refine C8 O ?_
  have D:DK x ts=false:=(show DK x ts=false by unfold DK;rw [hdr])
  have e1:GQ x ts=1:=by unfold GQ;rw [D];rfl
  refine Az (Bv (cs:=[.slice none 0 0, .slice none 0 0]) (k:=2) (by kernel_rfl) O O O O j O) ?_
  rintro w9 ⟨A,m,G⟩
  have o:=Below.grown l m (AA l) (by rintro _ ⟨⟩;omega)
  refine Ab O<|Bu<|Bt O O O ‹_› underlying33 O O O ?_
  rw [e1]
  exact ⟨o,FB (by decide)⟩
 obtain ⟨hp, -⟩:=I _ K
 have C:DK x ts=(decide (ts.length=x.i.length) && decide (a≤(ts.length:Int)) && decide ((ts.length:Int)≤b) && decide (c≤x.n) && decide (x.n≤e) && HK x.k x.s x.p):=by unfold DK;rw [hdr]
 refine Co<|Be underlying25 O (DF _)<|Aa (Ah (DG _) O ‹_› rfl) O ?_
 refine Aa (Ex.idxB Wg QB O O x.k.toNat O k14) O<|Aa (Eg (ds:=dv a b c e (EI f q)) (k:=5) (Wy _) (QB _) O O z hp) O<|Bk (Xw.new QV) O ?_
 rintro _ w4 ⟨rfl,F,M,hz4⟩
 refine Az (Bv (cs:=dv a b c e (EI f q)) (k:=5) (by kernel_rfl) O O O O F O) ?_
 rintro w5 ⟨F,V,hz5⟩
 have B:Below w3.heap.size w3 w5:=M.grown V M.size (by rintro _ ⟨⟩;omega)
 have l:=l.trans (B.mono (by omega))
 have j:=j.bs B
 have u:=u.bs B
 have z5:=B.size
 have N:=h.1.bs l
 have R:=hx.i.bs l
 have J:=hx.s.bs l
 refine Bh<|Be underlying79 O (S7 _)<|Aa (Ah (U2 _) O ‹_› rfl) O ?_
 refine Aa (Ex.nilFn Q1 O O) O<|Ac O<|C5 21 (v' := .bool false) O (cngA Value.bool (rfl))<|Ag (dj:=21) O O<|Ac O<|Ag (dj:=21) O O<|Aa (Au AR O ‹_›) O ?_
 refine Ag (dj:=21) O O<|Be underlying25 O (AN _)<|Ag (dj:=21) O O<|Aa (Ah (AF _) O ‹_› rfl) O ?_
 refine Ag (dj:=21) O O<|Aa (Au AC O ‹_›) O ?_
 refine Ag (dj:=21) O O<|Aa (Cs O O) O<|Cn O<|Ac O ?_
 refine Cc 29 O ?_ ?_
 ·intro g1
  have g1:¬ts.length=x.i.length:=fun e=>by rw [e] at g1;simp at g1
  refine Ae (dj:=29) O O O O<|Ae (dj:=29) O O O O<|Ae (dj:=29) O O O O<|Ae (dj:=29) O O O O<|Ae (dj:=29) O O O O<|B4 O<|Ac O<|Ae (dj:=36) O O O O<|Ae (dj:=36) O O O O<|Ae (dj:=36) O O O O<|Ae (dj:=36) O O O O<|Ae (dj:=36) O O O O<|B4 O<|Ac O<|Ae (dj:=43) O O O O<|Ae (dj:=43) O O O O<|Ae (dj:=43) O O O O<|Ae (dj:=43) O O O O<|Ae (dj:=43) O O O O<|B4 O<|Ac O<|Ae (dj:=50) O O O O<|Ae (dj:=50) O O O O<|Ae (dj:=50) O O O O<|Ae (dj:=50) O O O O<|Ae (dj:=50) O O O O<|B4 O<|Ac O<|Ae (dj:=57) O O O O<|Ae (dj:=57) O O O O<|Ae (dj:=57) O O O O<|B4 O<|Ak<|Bz O<|Af<|C8 O ?_
  have D:DK x ts=false:=by rw [C,decide_eq_false g1];rfl
  have e1:GQ x ts=1:=by unfold GQ;rw [D];rfl
  refine Az (Bv (cs:=[.slice none 0 0, .slice none 0 0]) (k:=2) (by kernel_rfl) O O O O j O) ?_
  rintro w9 ⟨A,m,G⟩
  have o:=Below.grown l m (AA l) (by rintro _ ⟨⟩;omega)
  refine Ab O<|Bu<|Bt O O O ‹_› underlying33 O O O ?_
  rw [e1]
  exact ⟨o,FB (by decide)⟩
 intro g1
 have g1:ts.length=x.i.length:=by simp at g1;omega
 refine Ag (dj:=29) O O<|Ac O<|Ag (dj:=29) O O<|Aa (Au AR O ‹_›) O ?_
 refine Ag (dj:=29) O O<|Be underlying79 O (BA _)<|Ag (dj:=29) O O<|Aa (Ah (AK _) O ‹_› rfl) O ?_
 refine Ag (dj:=29) O O<|B3 O<|Cn O<|Ac O ?_
 refine Cc 36 O ?_ ?_
 ·intro g2
  have g2:¬a≤(ts.length:Int):=by have:=AD g2;omega
  refine Ae (dj:=36) O O O O<|Ae (dj:=36) O O O O<|Ae (dj:=36) O O O O<|Ae (dj:=36) O O O O<|Ae (dj:=36) O O O O<|B4 O<|Ac O<|Ae (dj:=43) O O O O<|Ae (dj:=43) O O O O<|Ae (dj:=43) O O O O<|Ae (dj:=43) O O O O<|Ae (dj:=43) O O O O<|B4 O<|Ac O<|Ae (dj:=50) O O O O<|Ae (dj:=50) O O O O<|Ae (dj:=50) O O O O<|Ae (dj:=50) O O O O<|Ae (dj:=50) O O O O<|B4 O<|Ac O<|Ae (dj:=57) O O O O<|Ae (dj:=57) O O O O<|Ae (dj:=57) O O O O<|B4 O<|Ak<|Bz O<|Af<|C8 O ?_
  have D:DK x ts=false:=by rw [C,decide_eq_false g2];simp
  have e1:GQ x ts=1:=by unfold GQ;rw [D];rfl
  refine Az (Bv (cs:=[.slice none 0 0, .slice none 0 0]) (k:=2) (by kernel_rfl) O O O O j O) ?_
  rintro w9 ⟨A,m,G⟩
  have o:=Below.grown l m (AA l) (by rintro _ ⟨⟩;omega)
  refine Ab O<|Bu<|Bt O O O ‹_› underlying33 O O O ?_
  rw [e1]
  exact ⟨o,FB (by decide)⟩
 intro g2
 have g2:a≤(ts.length:Int):=by have:=AB g2;omega
 refine Ag (dj:=36) O O<|Ac O<|Ag (dj:=36) O O<|Aa (Au AR O ‹_›) O ?_
 refine Ag (dj:=36) O O<|Be underlying79 O (BA _)<|Ag (dj:=36) O O<|Aa (Ah (AK _) O ‹_› rfl) O ?_
 refine Ag (dj:=36) O O<|Aa (Dr O O) O<|Cn O<|Ac O ?_
 refine Cc 43 O ?_ ?_
 ·intro Y
  have Y:¬(ts.length:Int)≤b:=by have:=AD Y;omega
  refine Ae (dj:=43) O O O O<|Ae (dj:=43) O O O O<|Ae (dj:=43) O O O O<|Ae (dj:=43) O O O O<|Ae (dj:=43) O O O O<|B4 O<|Ac O<|Ae (dj:=50) O O O O<|Ae (dj:=50) O O O O<|Ae (dj:=50) O O O O<|Ae (dj:=50) O O O O<|Ae (dj:=50) O O O O<|B4 O<|Ac O<|Ae (dj:=57) O O O O<|Ae (dj:=57) O O O O<|Ae (dj:=57) O O O O<|B4 O<|Ak<|Bz O<|Af<|C8 O ?_
  have D:DK x ts=false:=by rw [C,decide_eq_false Y];simp
  have e1:GQ x ts=1:=by unfold GQ;rw [D];rfl
  refine Az (Bv (cs:=[.slice none 0 0, .slice none 0 0]) (k:=2) (by kernel_rfl) O O O O j O) ?_
  rintro w9 ⟨A,m,G⟩
  have o:=Below.grown l m (AA l) (by rintro _ ⟨⟩;omega)
  refine Ab O<|Bu<|Bt O O O ‹_› underlying33 O O O ?_
  rw [e1]
  exact ⟨o,FB (by decide)⟩
 intro Y
 have Y:(ts.length:Int)≤b:=by have:=AB Y;omega
 refine Ag (dj:=43) O O<|Be underlying25 O (BA _)<|Ag (dj:=43) O O<|Aa (Ah (AK _) O ‹_› rfl) O ?_
 refine Ag (dj:=43) O O<|Be underlying79 O (BA _)<|Ag (dj:=43) O O<|Aa (Ah (AK _) O ‹_› rfl) O ?_
 refine Ag (dj:=43) O O<|B3 O<|Cn O<|Ac O ?_
 refine Cc 50 O ?_ ?_
 ·intro g4
  have g4:¬c≤x.n:=by have:=AD g4;omega
  refine Ae (dj:=50) O O O O<|Ae (dj:=50) O O O O<|Ae (dj:=50) O O O O<|Ae (dj:=50) O O O O<|Ae (dj:=50) O O O O<|B4 O<|Ac O<|Ae (dj:=57) O O O O<|Ae (dj:=57) O O O O<|Ae (dj:=57) O O O O<|B4 O<|Ak<|Bz O<|Af<|C8 O ?_
  have D:DK x ts=false:=by rw [C,decide_eq_false g4];simp
  have e1:GQ x ts=1:=by unfold GQ;rw [D];rfl
  refine Az (Bv (cs:=[.slice none 0 0, .slice none 0 0]) (k:=2) (by kernel_rfl) O O O O j O) ?_
  rintro w9 ⟨A,m,G⟩
  have o:=Below.grown l m (AA l) (by rintro _ ⟨⟩;omega)
  refine Ab O<|Bu<|Bt O O O ‹_› underlying33 O O O ?_
  rw [e1]
  exact ⟨o,FB (by decide)⟩
 intro g4
 have g4:c≤x.n:=by have:=AB g4;omega
 refine Ag (dj:=50) O O<|Be underlying25 O (BA _)<|Ag (dj:=50) O O<|Aa (Ah (AK _) O ‹_› rfl) O ?_
 refine Ag (dj:=50) O O<|Be underlying79 O (BA _)<|Ag (dj:=50) O O<|Aa (Ah (AK _) O ‹_› rfl) O ?_
 refine Ag (dj:=50) O O<|Aa (Dr O O) O<|Cn O<|Ac O ?_
 refine Cc 57 O ?_ ?_
 ·intro g5
  have g5:¬x.n≤e:=by have:=AD g5;omega
  refine Ae (dj:=57) O O O O<|Ae (dj:=57) O O O O<|Ae (dj:=57) O O O O<|B4 O<|Ak<|Bz O<|Af<|C8 O ?_
  have D:DK x ts=false:=by rw [C,decide_eq_false g5];simp
  have e1:GQ x ts=1:=by unfold GQ;rw [D];rfl
  refine Az (Bv (cs:=[.slice none 0 0, .slice none 0 0]) (k:=2) (by kernel_rfl) O O O O j O) ?_
  rintro w9 ⟨A,m,G⟩
  have o:=Below.grown l m (AA l) (by rintro _ ⟨⟩;omega)
  refine Ab O<|Bu<|Bt O O O ‹_› underlying33 O O O ?_
  rw [e1]
  exact ⟨o,FB (by decide)⟩
 intro g5
 have g5:x.n≤e:=by have:=AB g5;omega
 refine Ag (dj:=57) O O<|Aa (B9 (k:=5) (EM _) (EJ _) O O u) O<|Ag (dj:=57) O O<|Aj O O (TV x w5 (hx.bs l)) ?_
 rintro _ w6 ⟨rfl,H⟩
 have l:=l.trans (H.mono (by omega))
 have j:=j.bs H
 have u:=u.bs H
 have F:=F.bs H
 have z6:=H.size
 refine Ag (dj:=57) O O<|Aa (Ck O) O<|Cn O<|Ak<|Aq O ?_ ?_
 ·intro g6
  have g6:HK x.k x.s x.p=false:=by simpa using g6
  have D:DK x ts=false:=by rw [C,g6,Bool.and_false]
  have e1:GQ x ts=1:=by unfold GQ;rw [D];rfl
  refine Af<|C8 O<|Az (Bv (cs:=[.slice none 0 0, .slice none 0 0]) (k:=2) (by kernel_rfl) O O O O j O) ?_
  rintro w9 ⟨A,m,G⟩
  have o:=Below.grown l m (AA l) (by rintro _ ⟨⟩;omega)
  refine Ab O<|Bu<|Bt O O O ‹_› underlying33 O O O ?_
  rw [e1]
  exact ⟨o,FB (by decide)⟩
 intro g6
 have g6:HK x.k x.s x.p=true:=by simpa using g6
 have e0:GQ x ts=HO x.k x ts:=by
  unfold GQ
  rw [C,decide_eq_true g1,decide_eq_true g2,decide_eq_true Y,decide_eq_true g4,decide_eq_true g5,g6];rfl
 have hcl:=hcall x v ts w6 (by simp) (L.trans ((B.trans (H.mono z5)).mono z3)) (hx.bs l) (h.bs l) g2 Y
 rw [← e0] at hcl
 refine Co<|Be underlying79 O (S7 _)<|Aa (Ah (U2 _) O ‹_› rfl) O ?_
 refine Aa (B9 (k:=5) (EM _) (EJ _) O O u) O<|Ac O<|Ec (p:=[]) (q:=q) O O O (hcl) ?_
 rintro r w7 ⟨hn7,hA⟩
 obtain ⟨rx,ry,rfl,r1⟩:=hA.ones
 have z7:=hn7.size
 have l:=l.trans (hn7.mono (by omega))
 have j:=j.bs hn7
 refine Aa (As (i:=0) O O) O<|Aa (As (i:=1) O O) O<|Az (Bv (cs:=[rx,ry]) (k:=2) (by kernel_rfl) O O O r1 j O) ?_
 rintro w8 ⟨b_r8,hg8,hz8⟩
 have hA8:=hA.by hg8 (by omega)
 have hB8:=l.grown hg8 (by omega) (by rintro _ ⟨⟩;omega)
 refine Ab O<|Bc<|Bt O O O ‹_› underlying33 O O O ?_
 exact ⟨hB8,hA8.low (by omega)⟩
end Go.Proofs.YtmipoeanpnnjoaaGreatDoor

namespace Go.Proofs.YtmipoeanpnnjoaaGreatDoor
open Go Go.Dd Go.RowKit List Go.Proofs.Tryz
set_option maxRecDepth 100000
theorem TR (t:T4) (v:Value) (s:List Int) (w:World) (d:t.at w) (e:BS (Value.int .i64) w v s):
  AM prog 104 [t.v,v] w (fun r j=>r= .bool (tok t.s t.l && decide (t.s=s))∧Below w.heap.size w j):=by
 have b:=Below.refl w.heap.size w
 refine Bb (n:=13) func104 O<|Af<|B5 (cs:=[t.x,t.y]) O O O ?_
 rintro k w h c a -
 have b:=b.bs a
 have d:=d.bs a
 have e:=e.bs a
 refine Ab O<|Bl<|Aa (B9 (AT _) (AP _) O O ‹_›) O ?_
 refine Aj O O (DS t.x t.y t.s t.l w d.1 d.2) ?_
 rintro _ i ⟨rfl,a⟩
 have b:=bt b a
 have c:=c.bs a
 refine Ac O ?_
 refine Cc 7 O ?_ ?_
 ·intro g
  refine Ag (dj:=7) O O<|Be underlying33 O (AN _)<|Ag (dj:=7) O O<|Aa (Ah (AF _) O ‹_› rfl) O ?_
  refine Ag (dj:=7) O O<|Ac O<|Ag (dj:=7) O O<|Aj O O (EW t.x v t.s s i (d.1.bs a) (e.bs a)) ?_
  rintro _ l ⟨rfl,f⟩
  exact B4 rfl<|Ab rfl<|Bc<|Ax rfl rfl<|⟨by rw [g,Bool.true_and],bt b f⟩
 intro g
 refine Ae (dj:=7) O O O O<|Ae (dj:=7) O O O O<|Ae (dj:=7) O O O O<|Ae (dj:=7) O O O O<|Cn O<|Ab O<|Bc<|Ax O O ?_
 exact ⟨by rw [g];rfl,b⟩
theorem Sm (t:T4) (w:World) (M:t.at w) (h1:t.s.length≤1000000) (h2:t.l.length≤1000000):
  AM prog 105 [t.v] w (fun r I=>Below w.heap.size w I∧∃x y,r= .agg [x,y].toArray∧DU w I x y t.s t.l):=by
 obtain ⟨W,Z⟩:∃W,W=w:=⟨_,rfl⟩
 rw [← Z] at M
 rw [← Z]
 have p:=Below.refl W.heap.size W
 refine Bb (n:=12) func105 O<|Af<|B5 (cs:=[t.x,t.y]) O O O ?_
 rintro R w V h K -
 have p:=p.bs K
 have yx:=AH h
 refine Cx AY O ?_
 rintro A_r w eA_r s K -
 have p:=p.bs K
 have h:=h.bs K
 refine Ak<|An ?_
 have z0:=AA p
 have yr:=AH s
 refine Cw.any AS (fun w2 H _=> ?_)
 have A:=p.trans (H.mono z0)
 have l:=h.bs H
 refine Dh (fun I=>AO I R 33 [t.x,t.y]) (fun hC=> ?_) (l)
 refine Cj (Am Bo)<|Ai 0 O (fun L F=>Cd underlying33 O (AN _)) O<|Ai 1 O (fun L F=>Ah (AF _) O F O) O<|Ai 4 O (fun L F=>Cd underlying33 O (BC _)) O<|Ai 5 O (fun L F=>Ah (BG _) O F O) O<|Cb<|AZ.only ‹_› (i:=2) (by kernel_rfl) O ?_
 refine Aj O O (Hl t.x t.s w2 (M.1.bs A) (by omega)) ?_
 rintro x w3 ⟨o,j⟩
 have U:=(BM.clip o).lt
 have z2:=H.size
 have z3:=j.size
 have S:=A.trans (j.mono (by omega))
 have v:=l.bs j
 refine AZ.back<|AZ.only ‹_› (i:=3) (by kernel_rfl) O ?_
 refine Aj O O (Md x t.s w3 (AQ o)) ?_
 rintro _ w4 ⟨rfl,d⟩
 have z4:=d.size
 have z:=S.trans (d.mono (by omega))
 have D:=v.bs d
 refine AZ.back<|AZ.only ‹_› (i:=6) (by kernel_rfl) O ?_
 refine Aj O O (MS t.y t.l w4 (M.2.bs z) (by omega)) ?_
 rintro y w5 ⟨B,f⟩
 have z5:=f.size
 have Q:=z.trans (f.mono (by omega))
 have G:=D.bs f
 refine AZ.back<|AZ.only ‹_› (i:=7) (by kernel_rfl) O ?_
 refine Aj O O (OO y t.l w5 (AQ B)) ?_
 rintro _ w6 ⟨rfl,a⟩
 have z6:=a.size
 have T:=Q.trans (a.mono (by omega))
 have q:=G.bs a
 have g:=(BM.clip o).bs (d.trans ((f.trans (a.mono z5)).mono z4))
 have c:=(BM.clip B).bs a
 have k1:[clip x,clip y].all (·.oneCell')=true:=by rw [all_cons,all_cons,g.slT.one',c.slT.one'];rfl
 refine AZ.back<|AZ.only ‹_› (i:=8) (by kernel_rfl) O ?_
 refine Aa (C4 (vs:=[(0,clip x),(1,clip y)]) (cs:=[clip x,clip y]) O (Hs _ _ g.slT.one c.slT.one)) O<|AZ.back<|AZ.only ‹_› (i:=9) (by kernel_rfl) O ?_
 have E:=(((((s.bs H).bs j).bs d).bs f).bs a)
 refine Az (Bv (cs:=[clip x,clip y]) (k:=2) (by kernel_rfl) O O O k1 E O) ?_
 rintro w7 ⟨Y,J,hz⟩
 have X:=q.by J (fun e=>by have:=Option.some.inj e;omega)
 have N:=T.grown J (by omega) (by rintro _ ⟨⟩;omega)
 have C:=g.heap fun b e=>J.block b (g.lt b e).2 (fun e2=>by have:=(g.lt b e).1;have:=Option.some.inj e2;omega)
 have u:=c.heap fun b e=>J.block b (c.lt b e).2 (fun e2=>by have:=(c.lt b e).1;have:=Option.some.inj e2;omega)
 have m:DU W w7 (clip x) (clip y) t.s t.l:=⟨C.mono (by omega),u.mono (by omega),fun b e1 e2=>by have:=U b e2;have:=(c.lt b e1).1;omega⟩
 refine AZ.back<|Cu ‹_› (by kernel_rfl) ?_
 refine Ap<|B8<|Df<|Ee O O ‹_› underlying33 O O O ?_
 exact ⟨N,_,_,rfl,m⟩
end Go.Proofs.YtmipoeanpnnjoaaGreatDoor

namespace Go.Proofs.YtmipoeanpnnjoaaGreatDoor
open Go Go.Dd Go.RowKit List
set_option maxRecDepth 100000
abbrev PV:=List Int×List (BitVec 32)
def pv (t:T4):PV:=(t.s,t.l)
def EN (t:PV) (s:List Int):Bool:=tok t.1 t.2 && decide (t.1=s)
def H8:List PV→List N5→Bool
 |_,[]=>true
 |[],_::_=>false
 |t::ts,x::xs=>EN t x.s && H8 ts xs
abbrev F1 (ls:List N5):List N5:=ls.filter fun a=>decide (a.k=1#8)
abbrev F2 (ls:List N5):List N5:=ls.filter fun a=>decide (a.k=2#8)
theorem RX (a:List N5):(EO a).map (fun j=>a.getD j.toNat default)=F2 a:=by
 unfold EO
 rw [map_map]
 have e:a=(range a.length).map fun i=>a.getD i default:=by
  refine ext_getElem (by simp) fun i b c=> ?_
  simp [b]
 conv=>rhs;unfold F2;rw [e,filter_map]
 have e2:((fun j:Int=>a.getD j.toNat default)∘fun i:Nat=>(i:Int))=fun i=>a.getD i default:=by funext i;simp
 rw [e2];rfl
theorem Wz {a:List N5} {j:Nat} (b:j<(EO a).length):∃i:Nat,i<a.length∧(EO a).getD j default=(i:Int)∧∃c:j<(F2 a).length,(F2 a)[j]=a.getD i default:=by
 have f:(EO a)[j] ∈ EO a:=getElem_mem b
 obtain ⟨i,d,e⟩:=List.mem_map.1 (show (EO a)[j] ∈ ((range a.length).filter fun i=>decide ((a.getD i default).k=2#8)).map fun i:Nat=>(i:Int) from f)
 have d:=List.mem_range.1 (List.mem_filter.1 d).1
 have c:j<(F2 a).length:=by rw [← RX,length_map];exact b
 refine ⟨i,d,by rw [getD_eq_getElem?_getD,getElem?_eq_getElem b];exact e.symm,c, ?_⟩
 have:(F2 a)[j]? =some (a.getD i default):=by
  rw [← RX,getElem?_map,getElem?_eq_getElem b,← e];simp
 rw [getElem?_eq_getElem c] at this
 exact Option.some.inj this
theorem NR:∀{ws:List PV} {xs:List N5},ws.length=xs.length→(H8 ws xs=true↔∀i (h:i<xs.length),EN (ws.getD i ([],[])) xs[i].s=true)
 |[],[],_=>⟨fun _ i h=>absurd h (by simp),fun _=>rfl⟩
 |t::ws,x::xs,hl=>by
  have b:=NR (ws:=ws) (xs:=xs) (by simpa using hl)
  show (EN t x.s && H8 ws xs)=true↔_
  rw [Bool.and_eq_true,b]
  constructor
  ·rintro ⟨d,c⟩ i a
   cases i with
   |zero=>exact d
   |succ i=>exact c i (by simpa using a)
  ·intro h
   exact ⟨h 0 (by simp),fun i a=>h (i+1) (by simpa using a)⟩

def tv (p:PV):T4:=⟨.slice none 0 0, .slice none 0 0,p.1,p.2⟩
def Ks (t:T4):T4:=tv (pv t)
theorem U4 (k:BitVec 8) (x:N5) (ts:List T4) (h:ts.length≤4):HO k x (ts.map Ks)=HO k x ts∧Gu k x (ts.map Ks)=Gu k x ts∧G8 k x (ts.map Ks)=G8 k x ts:=by
 match ts,h with
 |[],_=>exact ⟨rfl,rfl,rfl⟩
 |[a],_=>exact ⟨rfl,rfl,rfl⟩
 |[a,b],_=>exact ⟨rfl,rfl,rfl⟩
 |[a,b,c],_=>exact ⟨rfl,rfl,rfl⟩
 |[a,b,c,d],_=>exact ⟨rfl,rfl,rfl⟩
 |a::b::c::d::e::l,h=>simp at h
theorem RN {k:Nat} {a b c d:Int} (h:IK k=some (a,b,c,d)):b≤4:=by
 unfold IK at h
 split at h<;>(cases h<;>decide)
theorem TY {x:N5} {ts:List T4} (h:DK x ts=true):ts.length≤4∧ts.length=x.i.length∧HK x.k x.s x.p=true:=by
 unfold DK at h
 split at h
 ·rename_i a b c d e
  have:=RN e
  simp only [Bool.and_eq_true,decide_eq_true_eq] at h
  exact ⟨by omega,h.1.1.1.1.1,h.2⟩
 ·cases h
theorem RM (x:N5) (ts:List T4):DK x (ts.map Ks)=DK x ts:=by
 unfold DK;rw [length_map]
theorem Rb (x:N5) (ts:List T4):GQ x (ts.map Ks)=GQ x ts∧(GQ x ts=0→Gu x.k x (ts.map Ks)=Gu x.k x ts∧G8 x.k x (ts.map Ks)=G8 x.k x ts):=by
 unfold GQ
 rw [RM]
 cases h:DK x ts with
 |false=>exact ⟨rfl,fun h=>by cases h⟩
 |true=>
  obtain ⟨b,a,c⟩:=U4 x.k x ts (TY h).1
  simp only [if_true]
  exact ⟨b,fun _=>⟨a,c⟩⟩
def Gz (acc:List PV) (x:N5):List T4:=x.i.map fun j=>tv (acc.getD j.toNat ([],[]))
def FF:List PV→List PV→List PV→List N5→Option (List PV)
 |acc,_,_,[]=>some acc
 |acc,gv,ws,x::l=>
  if x.k=1#8 then match gv with
   |t::gv' =>if EN t x.s then FF (acc++[t]) gv' ws l else none
   |[]=>none
  else if x.k=2#8 then match ws with
   |t::ws' =>if EN t x.s then FF (acc++[t]) gv ws' l else none
   |[]=>none
  else if GQ x (Gz acc x)=0 then FF (acc++[(Gu x.k x (Gz acc x),G8 x.k x (Gz acc x))]) gv ws l else none
def HU (ls:List N5):Nat:=(ls.filter fun a=>decide (a.k=2#8)).length
def FW (ls:List N5) (ws:List PV) (t:PV):Option (List PV):=if (ID ls).isSome && decide (ws.length=HU ls) then FF [] [t] ws ls else none
theorem Lj:∀(a:List N5),(EO a).length=HU a:=fun a=>by
 have key:∀m,m≤a.length→(EO (a.take m)).length=HU (a.take m):=by
  intro m
  induction m with
  |zero=>intro _;rfl
  |succ m ih=>
   intro b
   rw [JY a m b,length_append,ih (by omega),take_succ_eq_append_getElem b]
   have e:a.getD m default=a[m]:=by rw [getD_eq_getElem?_getD,getElem?_eq_getElem b];rfl
   unfold HU
   rw [filter_append,length_append,e]
   by_cases h:(a[m]).k=2#8
   ·rw [if_pos h,filter_cons,decide_eq_true h];rfl
   ·rw [if_neg h,filter_cons,decide_eq_false h];rfl
 have:=key a.length (AX _)
 rwa [take_length] at this
theorem N2:∀(b:List N5) (a g:List (List Int)),DX a b=some g→∀i (c:i<b.length),∀j ∈ (b[i]).i,0≤j∧j<((a.length+i:Nat):Int)
 |[],_,_,_,i,c=>by simp at c
 |x::b,a,g,h,i,c=>by
  unfold DX at h
  cases e:I3 a x with
  |none=>rw [e] at h;cases h
  |some s=>
   rw [e] at h
   cases i with
   |zero=>
    intro j d
    unfold I3 at e
    split at e
    ·rename_i k
     simp only [Bool.and_eq_true,Bool.not_eq_true'] at k
     have f:=k.1.2
     unfold NQ at f
     have:=List.any_eq_false.1 f j d
     simp at this
     simp only [Nat.add_zero]
     omega
    ·cases e
   |succ i=>
    intro j d
    have:=N2 b _ _ h i (by simpa using c) j d
    rw [length_append,length_singleton] at this
    omega
theorem JK {a:List N5} {b:List (List Int)} (h:ID a=some b):DX [] a=some b∧CM a=1∧1≤a.length∧a.length≤32:=by
 unfold ID at h
 split at h
 ·cases h
 ·rename_i d
  split at h
  ·rename_i s hs
   split at h
   ·rename_i c
    cases h
    exact ⟨hs,c.1,by omega,by omega⟩
   ·cases h
  ·cases h
end Go.Proofs.YtmipoeanpnnjoaaGreatDoor

namespace Go.Proofs.YtmipoeanpnnjoaaGreatDoor
open Go Go.Dd Go.RowKit List Go.Proofs.Tryz
set_option maxRecDepth 100000
theorem DP:∀(a b:List T4),cellsOf (a++b)=cellsOf a++cellsOf b
 |[],_=>rfl
 |t::a,b=>by rw [cons_append,cellsOf,cellsOf,DP a b];rfl
def It (W w:World) (ts:List T4):Prop:=∀t ∈ ts,DU W w t.x t.y t.s t.l
theorem DU.bs {W w a:World} {x y:Value} {s:List Int} {l:List (BitVec 32)} (h:DU W w x y s l) (g:Below w.heap.size w a):DU W a x y s l:=⟨h.row.bs g,h.col.bs g,h.apart⟩
theorem It.bs {W w a:World} {ts:List T4} (h:It W w ts) (g:Below w.heap.size w a):It W a ts:=fun t b=>(h t b).bs g
theorem Jl {w:World} {base sz n b:Nat} {e:TypeId} {v:Value} {xs:List Value} (h:w.ownsRow base e sz v n xs) (d:v.ownBlock=some b):∃cs,AO w b e cs:=by
 obtain ⟨cap,a,rfl,c, -⟩:=FO h d
 exact ⟨a,c⟩
theorem QQ {w:World} {base sz n b:Nat} {e:TypeId} {v:Value} {xs:List Value} (h:BM w base e sz v n xs) (c:v.ownBlock=some b):∃cs,AO w b e cs:=by
 rcases h with h|⟨g,a,rfl,_,d,_⟩
 ·exact Jl h c
 ·have:g=b:=by simpa [Value.ownBlock] using c
  exact ⟨a,this ▸ d⟩
theorem Uk {w:World} {b:Nat} {e T:TypeId} {cs ds:List Value} (h:AO w b e cs) (k:AO w b T ds):e=T:=by
 unfold AO at h k
 rw [h] at k
 simp only [Option.some.injEq,Obj.cells.injEq] at k
 exact k.2.1
theorem DU.ty {W w d:World} {x y:Value} {s:List Int} {l:List (BitVec 32)} {T:TypeId} {r:Option Nat} (h:DU W w x y s l) (g:w.grownBy d r) (f:∀b,r=some b→∃cs,AO w b T cs) (j:3≠T) (i:21≠T):DU W d x y s l:=
  ⟨h.row.heap fun b e => g.block b (h.row.lt b e).2 (fun e2 => by
      obtain ⟨cs,a⟩:=f b e2.symm
      obtain ⟨ds,c⟩:=QQ h.row e
      exact j (Uk c a)),
   h.col.heap fun b e=>g.block b (h.col.lt b e).2 (fun e2=>by
      obtain ⟨cs,a⟩:=f b e2.symm
      obtain ⟨ds,c⟩:=QQ h.col e
      exact i (Uk c a)),h.apart⟩
theorem It.ty {W w a:World} {ts:List T4} {T:TypeId} {r:Option Nat} (h:It W w ts) (g:w.grownBy a r) (d:∀b,r=some b→∃cs,AO w b T cs) (e:3≠T) (c:21≠T):It W a ts:=fun t f=>(h t f).ty g d e c
theorem It.snoc {W w:World} {ts:List T4} {c:T4} (h:It W w ts) (a:DU W w c.x c.y c.s c.l):It W w (ts++[c]):=fun t b=>(List.mem_append.1 b).elim (h t) (fun e=>by rw [List.mem_singleton.1 e];exact a)
structure FT (W w:World) (ts:List T4):Prop where
 each:It W w ts
 apart:ts.Pairwise fun c d=>JX c.x d.x∧JX c.y d.y
theorem FT.bs {W w a:World} {ts:List T4} (h:FT W w ts) (g:Below w.heap.size w a):FT W a ts:=⟨h.each.bs g,h.apart⟩
theorem FT.ty {W w a:World} {ts:List T4} {T:TypeId} {r:Option Nat} (h:FT W w ts) (g:w.grownBy a r) (d:∀b,r=some b→∃cs,AO w b T cs) (e:3≠T) (c:21≠T):FT W a ts:=⟨h.each.ty g d e c,h.apart⟩
theorem FT.snoc {W w:World} {ts:List T4} {c:T4} {N:Nat} (h:FT W w ts) (i:DU W w c.x c.y c.s c.l) (a:∀t ∈ ts,(∀b,t.x.ownBlock=some b→b<N)∧∀b,t.y.ownBlock=some b→b<N) (f:(∀b,c.x.ownBlock=some b→N≤b)∧∀b,c.y.ownBlock=some b→N≤b):FT W w (ts++[c]):=
 ⟨h.each.snoc i,List.pairwise_append.2 ⟨h.apart,pairwise_singleton _ _,fun t e d g=>by
  rw [List.mem_singleton.1 g]
  exact ⟨fun b e1 e2=>by have:=(a t e).1 b e1;have:=f.1 b e2;omega,fun b e1 e2=>by have:=(a t e).2 b e1;have:=f.2 b e2;omega⟩⟩⟩
theorem CN.tail {w:World} {v:Value} {t:T4} {ts:List T4} (h:CN w v (t::ts)):CN w (cut v 2 1 (ts.length+1)) ts:=by
 refine ⟨?_,fun q a=>h.2 q (mem_cons_of_mem _ a)⟩
 have:=Sl.cut (i:=1) (j:=ts.length+1) h.1 (by omega) (AX _)
 rw [Nat.add_sub_cancel] at this
 have e:((cellsOf (t::ts)).drop (1*2)).take (ts.length*2)=cellsOf ts:=by
  show (cellsOf ts).take (ts.length*2)=cellsOf ts
  have:(cellsOf ts).length=ts.length*2:=by have:=h.1.len;simp [cellsOf] at this;omega
  rw [take_of_length_le (by omega)]
 rw [e] at this
 exact this
theorem Ud (u:Value) (ts:List T4) (w:World) (b:Sl w 2 u ts.length (cellsOf ts)):AM prog 106 [u] w (fun r a=>r=clip u∧Below w.heap.size w a):=by
 refine Bb (n:=9) func106 O<|Af<|Ab O<|Bl<|Ac O<|Ac O<|Aa (Au AR O ‹_›) O ?_
 refine Ac O<|Aa (Au AR O ‹_›) O ?_
 exact Aa (Fm AR rfl rfl rfl b.shp) rfl<|Ab rfl<|Bc<|Ax rfl rfl<|⟨rfl,Below.refl _ _⟩
theorem O4 (f:N5→Bool) {a:List N5} {i:Nat} {x:N5} (b:i<a.length) (c:x=a[i]):((a.drop i).filter f).length=(if f x then 1 else 0)+((a.drop (i+1)).filter f).length:=by
 rw [drop_eq_getElem_cons b,← c,filter_cons]
 split
 ·rw [length_cons];omega
 ·omega
theorem Kv {x:N5} (h:CJ x.k x.i x.s x.n x.p=true):x.i.length≤4:=by
 obtain ⟨a,b,c,d,e,f,g⟩:=IA h
 have l:=(BI h g).1
 have j:∀p ∈ ML,p.2.2.getD 1 0≤4:=by decide
 unfold DO at g
 cases hf:ML.find? (fun p=>decide (p.2.1=(x.k.toNat:Int))) with
 |none=>rw [hf] at g;cases g
 |some p=>
  rw [hf] at g
  have i:=j p (mem_of_find?_eq_some hf)
  have k:p.2.2=[a,b,c,d,e,f]:=by simpa using g
  rw [k] at i
  simp at i
  omega
set_option maxHeartbeats 1600000 in
theorem Uq (v:Value) (p:List N5) (u:Value) (ws:List T4) (t:T4) (W:World) (h:GN W v p) (hw:CN W u ws) (ht:t.at W):
  AM prog 23 [.agg [v].toArray,u,t.v] W (fun r Y=>Below W.heap.size W Y∧match FW p (ws.map pv) (pv t) with
   |none=>r= .tuple #[.slice none 0 0, .int .i64 1]
   |some vs=>∃q ts,r= .tuple #[q, .int .i64 0]∧CN Y q ts∧FT W Y ts∧BM Y W.heap.size Oc 2 q ts.length (cellsOf ts)∧ts.map pv=vs):=by
 obtain ⟨R,hR⟩:∃R,R=FW p (ws.map pv) (pv t):=⟨_,rfl⟩
 rw [← hR]
 have E:=Below.refl W.heap.size W
 have hwl:=hw.1.le
 refine Bb (n:=95) func23 O<|Af<|B5 (cs:=[v]) O O O ?_
 rintro A_g w eA_g N hn -
 have E:=E.bs hn
 have yg:=AH N
 refine B5 (cs:=[t.x,t.y]) O O O ?_
 rintro A_in w eA_in b_in hn -
 have E:=E.bs hn
 have N:=N.bs hn
 refine Ab O<|Ab O<|Bh<|Aa (B9 (FC _) (DR _) O O ‹_›) O ?_
 have z0:=AA E
 refine Aj O O (TM v p w (h.bs E)) ?_
 rintro _ w1 ⟨hn1,rfl⟩
 have N:=N.bs hn1
 have b_in:=b_in.bs hn1
 have z1:=hn1.size
 have E:=E.trans (hn1.mono z0)
 refine Aa (Ck O) O<|Ac O ?_
 refine Cc 19 O ?_ ?_
 ·intro g
  have g:(ID p).isSome=false:=by simpa using g
  refine Ae (dj:=19) O O O O<|Ae (dj:=19) O O O O<|Ae (dj:=19) O O O O<|Ae (dj:=19) O O O O<|Ae (dj:=19) O O O O<|Ae (dj:=19) O O O O<|B4 O<|Ak<|Bz O<|Af<|Ab O<|Ab O<|Bu<|Bx O O O ?_
  have hN:R=none:=by rw [hR];unfold FW;rw [g];rfl
  rw [hN]
  exact ⟨E,rfl⟩
 intro g
 obtain ⟨ss,hss⟩:∃ss,ID p=some ss:=by
  cases e:ID p with
  |none=>rw [e] at g;cases g
  |some ss=>exact ⟨ss,rfl⟩
 obtain ⟨hgR,hin1,hl1,hl32⟩:=JK hss
 have hAR:R=if ws.length=HU p then FF [] [pv t] (ws.map pv) p else none:=by
  rw [hR];unfold FW;rw [hss,length_map]
  by_cases e:ws.length=HU p
  ·rw [if_pos e,decide_eq_true e];rfl
  ·rw [if_neg e,decide_eq_false e];rfl
 have hw1:=(hw.bs E).1
 refine Ag (dj:=19) O O<|Ac O<|Ag (dj:=19) O O<|Aa (Au AR O ‹_›) O ?_
 refine Ag (dj:=19) O O<|Aa (B9 (FC _) (DR _) O O ‹_›) O ?_
 refine Ag (dj:=19) O O<|Aj O O (PN v p w1 (h.bs E) (by omega)) ?_
 rintro q w2 ⟨hn2,s_q⟩
 have N:=N.bs hn2
 have b_in:=b_in.bs hn2
 have z2:=hn2.size
 have E:=E.trans (hn2.mono (by omega))
 have lwq:=Lj p
 refine Ag (dj:=19) O O<|Aa (Au AC O ‹_›) O ?_
 refine Ag (dj:=19) O O<|Aa (Cs O O) O<|Cn O<|Ak<|Aq O ?_ ?_
 ·intro T
  have T:¬ws.length=HU p:=fun e=>by rw [lwq,e] at T;simp at T
  refine Af<|Ab O<|Ab O<|Bu<|Bx O O O ?_
  have hN:R=none:=by rw [hAR,if_neg T]
  rw [hN]
  exact ⟨E,rfl⟩
 intro T
 have T:ws.length=HU p:=by rw [lwq] at T;simp at T;omega
 rw [if_pos T] at hAR
 refine Co<|Aa (B9 (AT _) (AP _) O O ‹_›) O ?_
 refine Bk (Dw (cs:=[t.x,t.y]) AR AY O O (by decide) (by decide)) O ?_
 rintro gq0 w3 ⟨o_g, -,hn3, -⟩
 have N:=N.bs hn3
 have z3:=hn3.size
 have E:=E.trans (hn3.mono (by omega))
 have h_v:=h.sl.bs E
 have hg0:CN w3 gq0 [t]:=⟨AI o_g,fun q Z=>by rw [List.mem_singleton.1 Z];exact ht.bs E⟩
 refine Ac O<|Ab O<|Ab O<|Bh<|Be underlying64 O (CQ _)<|Aa (Ah (CZ _) O ‹_› rfl) O ?_
 refine Aa (Au BQ O ‹_›) O ?_
 refine Ac O<|Ak<|Ao ?_
 refine Bq (S:=(Nat×Value×List T4×Value×List T4×Value×List T4)) (fun z=>[(6,z.2.2.2.2.2.1),(7, .int .i64 0),(8,z.2.1),(9,z.2.2.2.1),(31,v),(32, .int .i64 (p.length:Int)),(33, .int .i64 (z.1:Int))]) (fun z Y=>z.1≤p.length∧Below w3.heap.size w3 Y∧CN w3 z.2.1 z.2.2.1∧CN W z.2.2.2.1 z.2.2.2.2.1∧z.2.2.1.length=CM (p.drop z.1)∧z.2.2.2.2.1.length=HU (p.drop z.1)∧Y.ownsRow w3.heap.size Oc 2 z.2.2.2.2.2.1 z.2.2.2.2.2.2.length (cellsOf z.2.2.2.2.2.2)∧FT W Y z.2.2.2.2.2.2∧z.2.2.2.2.2.2.length=z.1∧FF (z.2.2.2.2.2.2.map pv) (z.2.2.1.map pv) (z.2.2.2.2.1.map pv) (p.drop z.1)=R) (fun z=>p.length - z.1) ((0,gq0,[t],u,ws, .slice none 0 0,[])) ⟨rfl,rfl,rfl,rfl,rfl,rfl,rfl,trivial⟩ ?_ ?_
 ·exact ⟨Nat.zero_le _,Below.refl _ _,hg0,hw,by rw [drop_zero,hin1];rfl,by rw [drop_zero];exact T,⟨rfl, .inl ⟨rfl,rfl⟩⟩,⟨fun _ h=>(by cases h),List.Pairwise.nil⟩,rfl,by rw [hAR];rfl⟩
 clear N b_in hw1 s_q h_v
 rintro ⟨i,gq,X,wq,V,l,ts⟩ w4 ⟨hi,M,hgt,hwt,lg,lw,C,m,lts,f⟩
 dsimp only at hi M hgt hwt lg lw C m lts f ⊢
 have E:=E.trans (M.mono (by omega))
 have h_v:=h.sl.bs E
 have z4:=M.size
 have hlow:∀t ∈ ts,(∀b,t.x.ownBlock=some b→b<w4.heap.size)∧∀b,t.y.ownBlock=some b→b<w4.heap.size:=fun t ht=>⟨fun b e=>((m.each t ht).row.lt b e).2,fun b e=>((m.each t ht).col.lt b e).2⟩
 refine Af<|B3 O<|Ak<|An<|Aq O ?_ ?_
 ·intro gi
  have F:i<p.length:=by have:=AD gi;omega
  obtain ⟨x,hxd⟩:∃x,x=p[i]:=⟨_,rfl⟩
  have hx:=(h.each x (hxd ▸ getElem_mem F)).bs E
  have hcl:=h.cells F
  rw [← hxd] at hcl
  have ed:p.drop i=x::p.drop (i+1):=by rw [drop_eq_getElem_cons F,← hxd]
  have hji:=N2 p [] ss hgR i F
  rw [← hxd] at hji
  have lg2:X.length=(if x.k=1#8 then 1 else 0)+CM (p.drop (i+1)):=by
   rw [lg];unfold CM;rw [O4 _ F hxd];simp only [decide_eq_true_eq]
  have lw2:V.length=(if x.k=2#8 then 1 else 0)+HU (p.drop (i+1)):=by
   rw [lw];unfold HU;rw [O4 _ F hxd];simp only [decide_eq_true_eq]
  rw [ed] at f
  refine B0<|An<|Ao<|Af<|Aa (Ci BQ O O h_v i O F) O<|Aa (Cq (cs:=x.cells) (EM _) (EJ _) O h_v O (by decide) hcl) O<|Bk (Xw.new GD) O ?_
  rintro _ w5 ⟨rfl,s,hn5,hz5⟩
  refine Az (Bv (cs:=x.cells) (k:=5) (by kernel_rfl) O O O hx.ones s O) ?_
  rintro w6 ⟨s,hg6,hz6⟩
  obtain ⟨A_n,eAn⟩:∃A_n,A_n=w4.heap.size:=⟨_,rfl⟩
  rw [← eAn] at s
  rw [← eAn]
  refine Bl<|Bk (Xw.new AY) O ?_
  rintro _ w7 ⟨rfl,o,hn7,hz7⟩
  have s:=s.bs hn7
  obtain ⟨A_t,eAt⟩:∃A_t,A_t=w6.heap.size:=⟨_,rfl⟩
  rw [← eAt] at o
  rw [← eAt]
  have a:Below w4.heap.size w4 w7:=(hn5.grown hg6 hn5.size (by rintro _ e;have:=Option.some.inj e;omega)).trans (hn7.mono (by omega))
  have z7:=a.size
  clear h_v
  refine Ak<|An<|Ao<|Af<|Be underlying25 O (DF _)<|Aa (Ah (DG _) O ‹_› rfl) O ?_
  refine Aa (Cl O (show _=some (b8 (1#8)) from rfl)) O<|Ab O<|Ak<|Aq O ?_ ?_
  ·intro g1
   have g1:x.k=1#8:=AD g1
   rw [g1] at lg2 lw2
   rw [if_pos rfl] at lg2
   rw [if_neg (by decide)] at lw2
   obtain ⟨d,A,rfl⟩:∃d A,X=d::A:=by
    cases X with
    |nil=>simp at lg2;omega
    |cons d A=>exact ⟨d,A,rfl⟩
   have f:R=if EN (pv d) x.s=true then FF (ts.map pv++[pv d]) (A.map pv) (V.map pv) (p.drop (i+1)) else none:=by rw [← f,map_cons];simp only [FF,g1,if_true]
   have hgs:=(hgt.bs (M.trans (a.mono z4))).1
   have H:=((hgt.2 d (by simp)).bs (M.trans (a.mono z4)))
   simp only [length_cons] at lg2
   refine Cw.any AS (fun w8 hd _=> ?_)
   refine Dh (fun Y=>Sl Y 2 gq (d::A).length (cellsOf (d::A))) (fun hC=> ?_) ((hgs.bs hd))
   have b_n8:=s.bs hd
   have b_t8:=o.bs hd
   have hB8:=a.trans (hd.mono z7)
   have ht8:=H.bs hd
   have hgs8:=hgs.bs hd
   have one0:[d.x,d.y].all (·.oneCell')=true:=by rw [all_cons,all_cons,H.1.one',H.2.one'];rfl
   refine Cj (Bs (Am (Bs (Am (Am (Bs (Am Bo)))))))<|Ai 0 O (fun w1 G=>B6 O) O<|Ai 1 O (fun w1 G=>Ci AR O O G 0 O (Nat.succ_pos _)) O<|Ai 2 O (fun w1 G=>Cq (cs:=[d.x,d.y]) (AT _) (AP _) O G O (by decide) (BN (ts:=d::A) (j:=0) (Nat.succ_pos _))) O<|Ai 3 O (fun w1 G=>B6 O) O<|Ai 4 O (fun w1 G=>E3 (i:=1) AR O O G.shp (Nat.succ_pos _)) O<|Cb<|AZ.only ‹_› (i:=5) (by kernel_rfl) O ?_
   refine Az (Bv (cs:=[d.x,d.y]) (k:=2) (by kernel_rfl) O O O one0 b_t8 O) ?_
   rintro w9 ⟨b_t9,hg9,hz9⟩
   have hB9:=hB8.grown hg9 hB8.size (by rintro _ e;have:=Option.some.inj e;omega)
   have hgs9:=((hgt.bs (M.trans (hB9.mono z4)))).1
   have b_n9:=b_n8.by hg9 (fun e=>by have:=Option.some.inj e;omega)
   refine AZ.back<|Cj (Bs (Am (Bs (Am (Am (Bs (Am Bo)))))))<|Ai 6 O (fun w1 G=>Cf O) O<|Cb<|Cu ‹_› (by kernel_rfl) ?_
   refine Bn<|Ap<|B8<|An<|Af<|Aa (B9 (AT _) (AP _) O O ‹_›) O ?_
   refine Be underlying25 O (AN _)<|Aa (Ah (AF _) O ‹_› rfl) O ?_
   have a:=hB9
   have z8:=a.size
   have s:=b_n9
   have o:=b_t9
   have H:d.at w9:=(hgt.2 d (by simp)).bs (M.trans (hB9.mono z4))
   have hxz:=hx.bs a
   have h_s:=hxz.s
   refine Aj O O (TR d x.y x.s w9 H h_s) ?_
   rintro _ wy ⟨rfl,U⟩
   have a:=a.trans (U.mono z8)
   have zy:=U.size
   have o:=o.bs U
   have hBy:=E.trans (a.mono (by omega))
   refine Aa (Ck O) O<|Ak<|Aq O ?_ ?_
   ·intro gf
    have gf:EN (pv d) x.s=false:=by
     show (tok d.s d.l && decide (d.s=x.s))=false
     cases Z:(tok d.s d.l && decide (d.s=x.s)) with
     |false=>rfl
     |true=>rw [Z] at gf;cases gf
    refine Af<|Ab O<|Ab O<|Bu<|Bi<|Av<|Av<|Bi<|Av<|Bx O O O ?_
    have hN:R=none:=by rw [f,gf];rfl
    rw [hN]
    exact ⟨hBy,rfl⟩
   intro gf
   have gf:EN (pv d) x.s=true:=by
    show (tok d.s d.l && decide (d.s=x.s))=true
    cases Z:(tok d.s d.l && decide (d.s=x.s)) with
    |true=>rfl
    |false=>rw [Z] at gf;cases gf
   rw [gf,if_pos rfl] at f
   have ktok:tok d.s d.l=true:=by unfold EN at gf;rw [Bool.and_eq_true] at gf;exact gf.1
   obtain ⟨kok,klen⟩:=BJ ktok
   have ksz:=Shapes.size_le d.s
   refine B0<|Bw<|Ac O<|Aa (B9 (AT _) (AP _) O O ‹_›) O ?_
   refine Aj O O (Sm d wy (H.bs U) (by have:=(FR kok).2;omega) (by omega)) ?_
   rintro _ wx ⟨hnx,cx,cy,rfl,hM⟩
   have zx:=hnx.size
   have a:=a.trans (hnx.mono (by omega))
   have c1:[cx,cy].all (·.oneCell')=true:=by rw [all_cons,all_cons,hM.row.slT.one',hM.col.slT.one'];rfl
   obtain ⟨c,G⟩:∃c:T4,c=⟨cx,cy,d.s,d.l⟩:=⟨_,rfl⟩
   have cpv:pv c=pv d:=by rw [G];rfl
   have cmk:DU W wx c.x c.y c.s c.l:=by rw [G];exact hM.mono (by omega)
   have cnew:(∀b,c.x.ownBlock=some b→w4.heap.size≤b)∧∀b,c.y.ownBlock=some b→w4.heap.size≤b:=by
    rw [G]
    exact ⟨fun b e=>by have:=(hM.row.lt b e).1;omega,fun b e=>by have:=(hM.col.lt b e).1;omega⟩
   have cc:[cx,cy]=[c.x,c.y]:=by rw [G]
   refine Bk (Dw (cs:=[cx,cy]) AR AY O O (by decide) (by decide)) O ?_
   rintro q wv ⟨D, -,J, -⟩
   rw [cc] at D
   have zv:=J.size
   have a:=a.trans (J.mono (by omega))
   have C:=AL C a
   have m:=m.bs a
   have c1' :[c.x,c.y].all (·.oneCell')=true:=by rw [← cc];exact c1
   refine Bk (Di (base:=w3.heap.size) AR AY O (by decide) O O C (AI D) c1' (by omega) (by omega) (by omega)) O ?_
   rintro l' wu ⟨I,hnu,hgu, -⟩
   have e1:cellsOf ts++[c.x,c.y]=cellsOf (ts++[c]):=by rw [DP];rfl
   have K:FT W wv (ts++[c]):=m.snoc (cmk.bs J) hlow cnew
   have L:=K.ty hgu (fun b e=>Jl C e) (by decide) (by decide)
   have e2:ts.length+1=(ts++[c]).length:=by rw [length_append];rfl
   rw [e1,e2] at I
   have hB3' :=(M.trans (a.mono z4)).trans hnu
   have epv:(ts++[c]).map pv=ts.map pv++[pv c]:=by rw [map_append];rfl
   refine Ab O<|Bf<|Bn<|Ch<|B7 O (by omega)<|Ac O<|Bf ?_
   exact Ap (Pw.next ((i+1,cut gq 2 1 (A.length+1),A,wq,V,l',ts++[c])) ⟨rfl,rfl,rfl,rfl,rfl,rfl,rfl,trivial⟩ (⟨F,hB3',hgt.tail,hwt,(show A.length=CM (p.drop (i+1)) by omega),(show V.length=HU (p.drop (i+1)) by omega),I,L,by rw [length_append,lts];rfl,by simp only;rw [epv,cpv];exact f.symm⟩) (by simp only;omega))
  intro g1
  have g1:¬x.k=1#8:=AB g1
  rw [if_neg g1] at lg2
  refine Af<|Be underlying25 O (DF _)<|Aa (Ah (DG _) O ‹_› rfl) O ?_
  refine Aa (Cl O (show _=some (b8 (2#8)) from rfl)) O<|Ab O<|Ak<|Aq O ?_ ?_
  ·intro T
   have T:x.k=2#8:=AD T
   rw [if_pos T] at lw2
   obtain ⟨d,B,rfl⟩:∃d B,V=d::B:=by
    cases V with
    |nil=>simp at lw2;omega
    |cons d B=>exact ⟨d,B,rfl⟩
   have f:R=if EN (pv d) x.s=true then FF (ts.map pv++[pv d]) (X.map pv) (B.map pv) (p.drop (i+1)) else none:=by rw [← f,map_cons];simp only [FF];rw [if_neg g1,if_pos T]
   have hws:=(hwt.bs (E.trans (a.mono (by omega)))).1
   have H:=((hwt.2 d (by simp)).bs (E.trans (a.mono (by omega))))
   simp only [length_cons] at lw2
   refine Cw.any AS (fun w8 hd _=> ?_)
   refine Dh (fun Y=>Sl Y 2 wq (d::B).length (cellsOf (d::B))) (fun hC=> ?_) ((hws.bs hd))
   have b_n8:=s.bs hd
   have b_t8:=o.bs hd
   have hB8:=a.trans (hd.mono z7)
   have ht8:=H.bs hd
   have hws8:=hws.bs hd
   have one0:[d.x,d.y].all (·.oneCell')=true:=by rw [all_cons,all_cons,H.1.one',H.2.one'];rfl
   refine Cj (Bs (Am (Bs (Am (Am (Bs (Am Bo)))))))<|Ai 0 O (fun w1 G=>B6 O) O<|Ai 1 O (fun w1 G=>Ci AR O O G 0 O (Nat.succ_pos _)) O<|Ai 2 O (fun w1 G=>Cq (cs:=[d.x,d.y]) (AT _) (AP _) O G O (by decide) (BN (ts:=d::B) (j:=0) (Nat.succ_pos _))) O<|Ai 3 O (fun w1 G=>B6 O) O<|Ai 4 O (fun w1 G=>E3 (i:=1) AR O O G.shp (Nat.succ_pos _)) O<|Cb<|AZ.only ‹_› (i:=5) (by kernel_rfl) O ?_
   refine Az (Bv (cs:=[d.x,d.y]) (k:=2) (by kernel_rfl) O O O one0 b_t8 O) ?_
   rintro w9 ⟨b_t9,hg9,hz9⟩
   have hB9:=hB8.grown hg9 hB8.size (by rintro _ e;have:=Option.some.inj e;omega)
   have hws9:=((hwt.bs (E.trans (hB9.mono (by omega))))).1
   have b_n9:=b_n8.by hg9 (fun e=>by have:=Option.some.inj e;omega)
   refine AZ.back<|Cj (Bs (Am (Bs (Am (Am (Bs (Am Bo)))))))<|Ai 6 O (fun w1 G=>Cf O) O<|Cb<|Cu ‹_› (by kernel_rfl) ?_
   refine Bn<|Ap<|B8<|An<|Af<|Aa (B9 (AT _) (AP _) O O ‹_›) O ?_
   refine Be underlying25 O (AN _)<|Aa (Ah (AF _) O ‹_› rfl) O ?_
   have a:=hB9
   have z8:=a.size
   have s:=b_n9
   have o:=b_t9
   have H:d.at w9:=(hwt.2 d (by simp)).bs (E.trans (hB9.mono (by omega)))
   have hxz:=hx.bs a
   have h_s:=hxz.s
   refine Aj O O (TR d x.y x.s w9 H h_s) ?_
   rintro _ wy ⟨rfl,U⟩
   have a:=a.trans (U.mono z8)
   have zy:=U.size
   have o:=o.bs U
   have hBy:=E.trans (a.mono (by omega))
   refine Aa (Ck O) O<|Ak<|Aq O ?_ ?_
   ·intro gf
    have gf:EN (pv d) x.s=false:=by
     show (tok d.s d.l && decide (d.s=x.s))=false
     cases Z:(tok d.s d.l && decide (d.s=x.s)) with
     |false=>rfl
     |true=>rw [Z] at gf;cases gf
    refine Af<|Ab O<|Ab O<|Bu<|Bi<|Av<|Av<|Bi<|Av<|Bx O O O ?_
    have hN:R=none:=by rw [f,gf];rfl
    rw [hN]
    exact ⟨hBy,rfl⟩
   intro gf
   have gf:EN (pv d) x.s=true:=by
    show (tok d.s d.l && decide (d.s=x.s))=true
    cases Z:(tok d.s d.l && decide (d.s=x.s)) with
    |true=>rfl
    |false=>rw [Z] at gf;cases gf
   rw [gf,if_pos rfl] at f
   have ktok:tok d.s d.l=true:=by unfold EN at gf;rw [Bool.and_eq_true] at gf;exact gf.1
   obtain ⟨kok,klen⟩:=BJ ktok
   have ksz:=Shapes.size_le d.s
   refine B0<|Bw<|Ac O<|Aa (B9 (AT _) (AP _) O O ‹_›) O ?_
   refine Aj O O (Sm d wy (H.bs U) (by have:=(FR kok).2;omega) (by omega)) ?_
   rintro _ wx ⟨hnx,cx,cy,rfl,hM⟩
   have zx:=hnx.size
   have a:=a.trans (hnx.mono (by omega))
   have c1:[cx,cy].all (·.oneCell')=true:=by rw [all_cons,all_cons,hM.row.slT.one',hM.col.slT.one'];rfl
   obtain ⟨c,G⟩:∃c:T4,c=⟨cx,cy,d.s,d.l⟩:=⟨_,rfl⟩
   have cpv:pv c=pv d:=by rw [G];rfl
   have cmk:DU W wx c.x c.y c.s c.l:=by rw [G];exact hM.mono (by omega)
   have cnew:(∀b,c.x.ownBlock=some b→w4.heap.size≤b)∧∀b,c.y.ownBlock=some b→w4.heap.size≤b:=by
    rw [G]
    exact ⟨fun b e=>by have:=(hM.row.lt b e).1;omega,fun b e=>by have:=(hM.col.lt b e).1;omega⟩
   have cc:[cx,cy]=[c.x,c.y]:=by rw [G]
   refine Bk (Dw (cs:=[cx,cy]) AR AY O O (by decide) (by decide)) O ?_
   rintro q wv ⟨D, -,J, -⟩
   rw [cc] at D
   have zv:=J.size
   have a:=a.trans (J.mono (by omega))
   have C:=AL C a
   have m:=m.bs a
   have c1' :[c.x,c.y].all (·.oneCell')=true:=by rw [← cc];exact c1
   refine Bk (Di (base:=w3.heap.size) AR AY O (by decide) O O C (AI D) c1' (by omega) (by omega) (by omega)) O ?_
   rintro l' wu ⟨I,hnu,hgu, -⟩
   have e1:cellsOf ts++[c.x,c.y]=cellsOf (ts++[c]):=by rw [DP];rfl
   have K:FT W wv (ts++[c]):=m.snoc (cmk.bs J) hlow cnew
   have L:=K.ty hgu (fun b e=>Jl C e) (by decide) (by decide)
   have e2:ts.length+1=(ts++[c]).length:=by rw [length_append];rfl
   rw [e1,e2] at I
   have hB3' :=(M.trans (a.mono z4)).trans hnu
   have epv:(ts++[c]).map pv=ts.map pv++[pv c]:=by rw [map_append];rfl
   refine Ab O<|Bf<|Bn<|Ch<|B7 O (by omega)<|Ac O<|Bf ?_
   exact Ap (Pw.next ((i+1,gq,X,cut wq 2 1 (B.length+1),B,l',ts++[c])) ⟨rfl,rfl,rfl,rfl,rfl,rfl,rfl,trivial⟩ (⟨F,hB3',hgt,hwt.tail,(show X.length=CM (p.drop (i+1)) by omega),(show B.length=HU (p.drop (i+1)) by omega),I,L,by rw [length_append,lts];rfl,by simp only;rw [epv,cpv];exact f.symm⟩) (by simp only;omega))
  intro T
  have T:¬x.k=2#8:=AB T
  rw [if_neg T] at lw2
  obtain ⟨ins,hins⟩:∃ins:List T4,ins=x.i.map fun j=>ts.getD j.toNat default:=⟨_,rfl⟩
  have lins:ins.length=x.i.length:=by rw [hins,length_map]
  have hnorm:ins.map Ks=Gz (ts.map pv) x:=by
   rw [hins,map_map]
   unfold Gz
   refine map_congr_left fun j hj=> ?_
   have hb:=hji j hj
   simp only [length_nil,Nat.zero_add] at hb
   show Ks (ts.getD j.toNat default)=_
   unfold Ks
   congr 1
   rw [getD_eq_getElem?_getD,getD_eq_getElem?_getD,getElem?_map,getElem?_eq_getElem (by omega)];rfl
  obtain ⟨dn1,dn2⟩:=Rb x ins
  rw [hnorm] at dn1 dn2
  have f:R=if GQ x (Gz (ts.map pv) x)=0 then FF (ts.map pv++[(Gu x.k x (Gz (ts.map pv) x),G8 x.k x (Gz (ts.map pv) x))]) (X.map pv) (V.map pv) (p.drop (i+1)) else none:=by rw [← f];simp only [FF];rw [if_neg g1,if_neg T]
  have hx7:=hx.bs a
  have h_i:=hx7.i
  have hi4:=Kv (Ix p [] ss hgR x (hxd ▸ getElem_mem F))
  refine Af<|Ab O<|Bh<|Be underlying25 O (AN _)<|Aa (Ah (AF _) O ‹_› rfl) O ?_
  refine Aa (Au AC O ‹_›) O ?_
  refine Ac O<|Ak<|Ao ?_
  refine Bq (S:=(Nat×Value)) (fun y=>[(6,l),(7, .int .i64 0),(8,gq),(9,wq),(11, .pointer (some ⟨A_n,0,none⟩)),(12, .pointer (some ⟨A_t,0,none⟩)),(13,y.2),(31,v),(32, .int .i64 (p.length:Int)),(33, .int .i64 (i:Int)),(38,x.x),(39, .int .i64 (x.i.length:Int)),(40, .int .i64 (y.1:Int))]) (fun y Y=>y.1≤x.i.length∧Below w4.heap.size w4 Y∧w7.heap.size≤Y.heap.size∧AO Y A_n 25 x.cells∧AO Y A_t Oc [.slice none 0 0, .slice none 0 0]∧Y.ownsRow w7.heap.size Oc 2 y.2 y.1 (cellsOf (ins.take y.1))) (fun y=>x.i.length - y.1) ((0, .slice none 0 0)) ⟨rfl,rfl,rfl,rfl,rfl,rfl,rfl,rfl,rfl,rfl,rfl,rfl,rfl,trivial⟩ ?_ ?_
  ·exact ⟨Nat.zero_le _,a,AX _,s,o,⟨rfl, .inl ⟨rfl,rfl⟩⟩⟩
  clear s o h_i hx7
  rintro ⟨j,iq⟩ w8 ⟨hj,a,z78,s,o,D⟩
  dsimp only at hj a z78 s o D ⊢
  have h_i:=(hx.bs a).i
  have o_l8:=AL C a
  have sl_l8:=AI o_l8
  have z8:=a.size
  refine Af<|B3 O<|Ak<|An<|Aq O ?_ ?_
  ·intro gj
   have hj' :j<x.i.length:=by have:=AD gj;omega
   obtain ⟨k,hk⟩:∃k,k=x.i.getD j default:=⟨_,rfl⟩
   have hkm:k ∈ x.i:=by rw [hk];exact EU hj'
   have hkb:=hji k hkm
   simp only [length_nil,Nat.zero_add] at hkb
   have hkl:k.toNat<ts.length:=by omega
   obtain ⟨q,Z⟩:∃q,q=ts[k.toNat]:=⟨_,rfl⟩
   have hqm:q ∈ ts:=by rw [Z];exact getElem_mem hkl
   have hqat:=((m.bs a).each q hqm).at
   have hqc:=BN hkl
   rw [← Z] at hqc
   have einq:ins[j]'(by omega)=q:=by
    simp only [hins,getElem_map]
    have ek:x.i[j]=k:=by rw [hk,getD_eq_getElem?_getD,getElem?_eq_getElem hj'];rfl
    rw [ek,Z,getD_eq_getElem?_getD,getElem?_eq_getElem hkl];rfl
   have Hf:[q.x,q.y].all (·.oneCell')=true:=by rw [all_cons,all_cons,hqat.1.one',hqat.2.one'];rfl
   refine B0<|An<|Ao<|Af<|Aa (Ay AC O O ‹_› _ O (by omega)) O ?_
   refine Aa (Ex.as (Bj (AK _) O h_i hj') (cngA (Value.int .i64) hk.symm)) O<|Ab O<|Ak<|Bw<|Ac O<|Ac O<|Ac O<|Aa (Ci AR O O sl_l8 k.toNat (show k=((k.toNat:Nat):Int) by omega) hkl) O<|Aa (Cq (cs:=[q.x,q.y]) (AT _) (AP _) O sl_l8 O (by decide) hqc) O<|Bk (Dw (cs:=[q.x,q.y]) AR AY O O (by decide) (by decide)) O ?_
   rintro lq w9 ⟨o_lq, -,Q, -⟩
   have D:=AL D Q
   have z9:=Q.size
   refine Bk (Di (base:=w7.heap.size) AR AY O (by decide) O O D (AI o_lq) Hf (by omega) (by omega) (by omega)) O ?_
   rintro iq' w10 ⟨o_q',hn10, -, -⟩
   have e1:cellsOf (ins.take j)++[q.x,q.y]=cellsOf (ins.take (j+1)):=by
    rw [take_succ_eq_append_getElem (by omega),DP,einq];rfl
   rw [e1] at o_q'
   have s:=(s.bs Q).bl hn10 (by omega)
   have o:=(o.bs Q).bl hn10 (by omega)
   refine Ab O<|Bf<|Bn<|Ch<|B7 O (by omega)<|Ac O<|Bf ?_
   exact Ap (Pw.next ((j+1,iq')) ⟨rfl,rfl,rfl,rfl,rfl,rfl,rfl,rfl,rfl,rfl,rfl,rfl,rfl,trivial⟩ (⟨hj',(a.trans (Q.mono z8)).trans (hn10.mono z7),by have:=hn10.size;omega,s,o,o_q'⟩) (by simp only;omega))
  intro gj
  have hj' :j=x.i.length:=by have:=AB gj;omega
  subst hj'
  rw [← lins,take_length] at D
  have hT:CN w8 iq ins:=⟨AI D,fun q Z=>by
   rw [hins] at Z
   obtain ⟨k,hk,rfl⟩:=List.mem_map.1 Z
   have hkb:=hji k hk
   simp only [length_nil,Nat.zero_add] at hkb
   have hkl:k.toNat<ts.length:=by omega
   have e:ts.getD k.toNat default=ts[k.toNat]:=by rw [getD_eq_getElem?_getD,getElem?_eq_getElem hkl];rfl
   rw [e]
   exact ((m.bs a).each _ (getElem_mem hkl)).at⟩
  refine Bp<|Al<|Al<|Bd<|Ap<|B8<|An<|Af<|Aa (B9 (EM _) (EJ _) O O ‹_›) O ?_
  refine Ac O<|Aj O O (YZ x iq ins w8 (hx.bs a) hT) ?_
  rintro _ w9 ⟨Q,c,rfl,hcat,hcno,hcyes⟩
  have z9:=Q.size
  have a:=a.trans (Q.mono z8)
  have s:=s.bs Q
  have o:=o.bs Q
  have c1:[c.x,c.y].all (·.oneCell')=true:=by rw [all_cons,all_cons,hcat.1.one',hcat.2.one'];rfl
  have b_t9:=o
  refine Ac O<|Aa (As (i:=0) O O) O<|Aa (As (i:=1) O O) O<|Az (Bv (cs:=[c.x,c.y]) (k:=2) (by kernel_rfl) O O O c1 o O) ?_
  rintro w10 ⟨o,hg10,hz10⟩
  have a:=a.grown hg10 a.size (by rintro _ e;have:=Option.some.inj e;omega)
  have hB10:=E.trans (a.mono (by omega))
  refine Ab O<|Bl<|Ac O<|Aa (Cs O O) O<|Ak<|Aq O ?_ ?_
  ·intro ge
   have ge:¬GQ x ins=0:=by simpa using ge
   refine Af<|Ab O<|Ab O<|Bu<|Bi<|Av<|Bi<|Av<|Av<|Bi<|Av<|Bx O O O ?_
   have hN:R=none:=by rw [f,if_neg (by rw [dn1];exact ge)]
   rw [hN]
   exact ⟨hB10,rfl⟩
  intro ge
  have ge:GQ x ins=0:=by simpa using ge
  obtain ⟨cs1,cl1,hM⟩:=hcyes ge
  rw [if_pos (by rw [dn1];exact ge)] at f
  obtain ⟨es1,el1⟩:=dn2 ge
  have cpv:pv c=(Gu x.k x (Gz (ts.map pv) x),G8 x.k x (Gz (ts.map pv) x)):=by rw [es1,el1];unfold pv;rw [cs1,cl1]
  rw [← cpv] at f
  have cmk:DU W w10 c.x c.y c.s c.l:=by
   rw [cs1,cl1]
   have hm:DU W w9 c.x c.y (Gu x.k x ins) (G8 x.k x ins):=hM.mono (by omega)
   exact hm.ty hg10 (fun b e=>by cases e;exact ⟨_,b_t9⟩) (by decide) (by decide)
  have cnew:(∀b,c.x.ownBlock=some b→w4.heap.size≤b)∧∀b,c.y.ownBlock=some b→w4.heap.size≤b:=
   ⟨fun b e=>by have:=(hM.row.lt b e).1;omega,fun b e=>by have:=(hM.col.lt b e).1;omega⟩
  obtain ⟨cx,hcx⟩:∃cx,cx=c.x:=⟨_,rfl⟩
  obtain ⟨cy,hcy⟩:∃cy,cy=c.y:=⟨_,rfl⟩
  have cc:[cx,cy]=[c.x,c.y]:=by rw [hcx,hcy]
  rw [← cc] at c1 o
  refine Co<|Ac O<|Aa (B9 (AT _) (AP _) O O ‹_›) O ?_
  refine Bk (Dw (cs:=[cx,cy]) AR AY O O (by decide) (by decide)) O ?_
  rintro q wv ⟨D, -,J, -⟩
  rw [cc] at D
  have zv:=J.size
  have a:=a.trans (J.mono (by omega))
  have C:=AL C a
  have m:=m.bs a
  have c1' :[c.x,c.y].all (·.oneCell')=true:=by rw [← cc];exact c1
  refine Bk (Di (base:=w3.heap.size) AR AY O (by decide) O O C (AI D) c1' (by omega) (by omega) (by omega)) O ?_
  rintro l' wu ⟨I,hnu,hgu, -⟩
  have e1:cellsOf ts++[c.x,c.y]=cellsOf (ts++[c]):=by rw [DP];rfl
  have K:FT W wv (ts++[c]):=m.snoc (cmk.bs J) hlow cnew
  have L:=K.ty hgu (fun b e=>Jl C e) (by decide) (by decide)
  have e2:ts.length+1=(ts++[c]).length:=by rw [length_append];rfl
  rw [e1,e2] at I
  have hB3' :=(M.trans (a.mono z4)).trans hnu
  have epv:(ts++[c]).map pv=ts.map pv++[pv c]:=by rw [map_append];rfl
  refine Ab O<|Ak<|Bp<|Pw.blkE O<|Al<|Bd<|Ch<|B7 O (by omega)<|Ac O<|Bf ?_
  exact Ap (Pw.next ((i+1,gq,X,wq,V,l',ts++[c])) ⟨rfl,(cngA (fun z=>some (Value.int .i64 z)) ge),rfl,rfl,rfl,rfl,rfl,trivial⟩ (⟨F,hB3',hgt,hwt,(show X.length=CM (p.drop (i+1)) by omega),(show V.length=HU (p.drop (i+1)) by omega),I,L,by rw [length_append,lts];rfl,by simp only;rw [epv];exact f.symm⟩) (by simp only;omega))
 intro gi
 have F:i=p.length:=by have:=AB gi;omega
 subst F
 rw [drop_length] at f
 have hR2:R=some (ts.map pv):=by rw [← f];rfl
 refine Bp<|Al<|Al<|Bd<|Cm<|Ac O<|Aj O O (Ud l ts w4 (AI C)) ?_
 rintro _ w5 ⟨rfl,hn5⟩
 refine Ab O<|Ab O<|Bc<|Bx O O O ?_
 rw [hR2]
 exact ⟨E.trans (hn5.mono (by omega)),_,ts,rfl,⟨(Fz (AI C)).bs hn5,fun q Z=>(m.each q Z).at.bs hn5⟩,m.bs hn5,((BM.clip C).mono (by omega)).bs hn5,rfl⟩
theorem YB (v:Value) (c:List N5) (u:Value) (ws:List T4) (t:T4) (W:World) (h:GN W v c) (f:CN W u ws) (k:t.at W):
  AM prog 23 [.agg [v].toArray,u,t.v] W (fun r a=>Below W.heap.size W a∧match FW c (ws.map pv) (pv t) with
   |none=>r= .tuple #[.slice none 0 0, .int .i64 1]
   |some vs=>∃q ts,r= .tuple #[q, .int .i64 0]∧CN a q ts∧It W a ts∧ts.map pv=vs):=by
 refine (Uq v c u ws t W h f k).mono fun r a ⟨j,b⟩=>⟨j, ?_⟩
 cases e:FW c (ws.map pv) (pv t) with
 |none=>rw [e] at b;exact b
 |some vs=>
  rw [e] at b
  obtain ⟨q,ts,d,g,i, -,l⟩:=b
  exact ⟨q,ts,d,g,i.each,l⟩
theorem JS:∀(l:List N5) (a b ws vs:List PV),FF a b ws l=some vs→vs.length=a.length+l.length
 |[],a,b,ws,vs,h=>by cases h;simp
 |x::l,a,b,ws,vs,h=>by
  unfold FF at h
  split at h
  ·split at h
   ·split at h
    ·have:=JS l _ _ _ _ h;simp only [length_append,length_cons,length_nil] at this ⊢;omega
    ·cases h
   ·cases h
  ·split at h
   ·split at h
    ·split at h
     ·have:=JS l _ _ _ _ h;simp only [length_append,length_cons,length_nil] at this ⊢;omega
     ·cases h
    ·cases h
   ·split at h
    ·have:=JS l _ _ _ _ h;simp only [length_append,length_cons,length_nil] at this ⊢;omega
    ·cases h
theorem H2 {a:List N5} {ws vs:List PV} {t:PV} (h:FW a ws t=some vs):(∃c,ID a=some c)∧ws.length=HU a∧FF [] [t] ws a=some vs∧vs.length=a.length:=by
 unfold FW at h
 split at h
 ·rename_i b
  simp only [Bool.and_eq_true,decide_eq_true_eq] at b
  refine ⟨Option.isSome_iff_exists.1 b.1,b.2,h, ?_⟩
  have:=JS _ _ _ _ _ h
  simpa using this
 ·cases h
def K6 (vs:List PV):PV:=vs.getD (vs.length - 1) ([],[])
theorem Yk (v:Value) (x:List N5) (u:Value) (ws:List T4) (t:T4) (W:World) (h:GN W v x) (hw:CN W u ws) (X:t.at W):
  AM prog 21 [.agg [v].toArray,u,t.v] W (fun r J=>Below W.heap.size W J∧match FW x (ws.map pv) (pv t) with
   |none=>r= .tuple #[.agg #[.slice none 0 0, .slice none 0 0], .int .i64 1]
   |some vs=>∃c:T4,r= .tuple #[c.v, .int .i64 0]∧DU W J c.x c.y c.s c.l∧pv c=K6 vs):=by
 have g:=Below.refl W.heap.size W
 obtain ⟨R,H⟩:∃R,R=FW x (ws.map pv) (pv t):=⟨_,rfl⟩
 rw [← H]
 refine Bb (n:=27) func21 O<|Af<|B5 (cs:=[v]) O O O ?_
 rintro Y w L d l -
 have g:=g.bs l
 have yg:=AH d
 refine B5 (cs:=[t.x,t.y]) O O O ?_
 rintro M w F f l -
 have g:=g.bs l
 have d:=d.bs l
 have yi:=AH f
 refine Cx AY O ?_
 rintro U w T a l -
 have g:=g.bs l
 have d:=d.bs l
 have f:=f.bs l
 refine Ab O<|Bl<|Aa (B9 (FC _) (DR _) O O ‹_›) O ?_
 refine Ac O<|Aa (B9 (AT _) (AP _) O O ‹_›) O ?_
 have Q:=AA g
 have yr:=AH a
 refine Aj O O (YB v x u ws t w (h.bs g) (hw.bs g) (X.bs g)) ?_
 rintro r w1 ⟨m,A⟩
 rw [← H] at A
 have a:=a.bs m
 have z1:=m.size
 have s:=g.trans (m.mono Q)
 cases eR:R with
 |none=>
  rw [eR] at A
  obtain rfl:=A
  refine Ac O<|Aa (As (i:=0) O O) O<|Aa (As (i:=1) O O) O<|Ab O<|Ab O<|Bh<|Ac O<|Aa (Cs O O) O<|Ak<|Ca O true (rfl)<|Af<|C8 O<|Ac O<|Az (Bv (cs:=[.slice none 0 0, .slice none 0 0]) (k:=2) (by kernel_rfl) O O O O a O) ?_
  rintro w2 ⟨a,C,hz⟩
  have p:=s.grown C (by omega) (by rintro _ e;have:=Option.some.inj e;omega)
  refine Ab O<|Bu<|Bt O O O ‹_› underlying33 O O O ?_
  exact ⟨p,rfl⟩
 |some vs=>
  rw [eR] at A
  obtain ⟨q,ts,rfl,Z,V,S⟩:=A
  obtain ⟨⟨ss,B⟩, -, -,E⟩:=H2 (H.symm.trans eR)
  have lts:ts.length=x.length:=by rw [← E,← S,length_map]
  have hl1:=(JK B).2.2.1
  have K:=(JK B).2.2.2
  have j:ts.length - 1<ts.length:=by omega
  obtain ⟨c,I⟩:∃c,c=ts[ts.length - 1]:=⟨_,rfl⟩
  have D:c ∈ ts:=I ▸ getElem_mem j
  have o:=V c D
  have y:=BN j
  rw [← I] at y
  have c1:[c.x,c.y].all (·.oneCell')=true:=by rw [all_cons,all_cons,o.row.slT.one',o.col.slT.one'];rfl
  have z:=Z.1
  refine Ac O<|Aa (As (i:=0) O O) O<|Aa (As (i:=1) O O) O<|Ab O<|Ab O<|Bh<|Ac O<|Aa (Cs O O) O<|Ak<|Ca O false (rfl)<|Co<|Ac O<|Ac O<|Aa (Au AR O ‹_›) O ?_
  refine Aa (Ex.as (Du O O (by omega)) (cngA (Value.int .i64) (show (ts.length:Int) - 1=((ts.length - 1:Nat):Int) by omega))) O<|Aa (Ci AR O O z (ts.length - 1) O j) O<|Aa (Cq (cs:=[c.x,c.y]) (AT _) (AP _) O z O (by decide) y) O<|Az (Bv (cs:=[c.x,c.y]) (k:=2) (by kernel_rfl) O O O c1 a O) ?_
  rintro w2 ⟨N,C,hz⟩
  have p:=s.grown C (by omega) (by rintro _ e;have:=Option.some.inj e;omega)
  have G:=(o.ty C (fun b e=>by cases e;exact ⟨_,a⟩) (by decide) (by decide)).mono (W:=W) Q
  have hp:pv c=K6 vs:=by
   unfold K6
   rw [← S,length_map,getD_eq_getElem?_getD,getElem?_map,getElem?_eq_getElem j,← I];rfl
  refine Ab O<|Bc<|Bt O O O ‹_› underlying33 O O O ?_
  exact ⟨p,c,rfl,G,hp⟩
end Go.Proofs.YtmipoeanpnnjoaaGreatDoor

namespace Go.Proofs.YtmipoeanpnnjoaaGreatDoor
open Go Go.Dd Go.RowKit List
set_option maxRecDepth 100000
theorem Kx:∀k:BitVec 8,(IK k.toNat).isSome=true→(k=3#8∨k=4#8∨k=5#8∨k=6#8∨k=7#8∨k=8#8∨k=9#8∨k=10#8∨k=11#8∨k=12#8∨k=13#8):=by decide+kernel
theorem GG {S:List Int} {f:Nat→BitVec 32} (h:Shapes.ok S=true):tok S ((range (Shapes.size S).toNat).map f)=true:=by
 unfold tok
 rw [h,Bool.true_and,length_map,length_range,decide_eq_true_iff]
 have:=Shapes.size_ok h
 have:=(Shapes.ok_iff S).1 h
 have a:0<Shapes.size S:=AD h
 omega
structure RU (x:N5) (ts:List T4):Prop where
 toks:∀t ∈ ts,tok t.s t.l=true
 tok:tok (Gu x.k x ts) (G8 x.k x ts)=true
 sh:IJ x.k x.s x.n x.p (ts.map (·.s))=Gu x.k x ts
theorem GX {x:N5} {ts:List T4} {k:BitVec 8} (S:List Int) (L:List (BitVec 32)) (a:x.k=k) (c:∀t ∈ ts,Proofs.YtmipoeanpnnjoaaGreatDoor.tok t.s t.l=true) (b:Gu k x ts=S) (d:G8 k x ts=L) (e:IJ k x.s x.n x.p (ts.map (·.s))=S) (h:Proofs.YtmipoeanpnnjoaaGreatDoor.tok S L=true):RU x ts:=
 ⟨c,by rw [a,b,d];exact h,by rw [a,e,b]⟩
theorem RR {a:T4} (h:tok a.s a.l=true):∀t ∈ [a],tok t.s t.l=true:=fun t b=>by rw [List.mem_singleton.1 b];exact h
theorem VX {a b:T4} (h:tok a.s a.l=true) (g:tok b.s b.l=true):∀t ∈ [a,b],tok t.s t.l=true:=fun t c=>by
 rcases List.mem_cons.1 c with rfl|c
 ·exact h
 ·rw [List.mem_singleton.1 c];exact g
theorem YY {s t:List Int} {l m:List (BitVec 32)} (h:e2 s l t m=0):tok s l=true∧tok t m=true∧t=s:=by
 unfold e2 at h
 split at h
 ·rename_i a
  rw [Bool.and_eq_true] at a
  split at h
  ·exact ⟨a.1,a.2,by assumption⟩
  ·cases h
 ·cases h
theorem X5 {s:List Int} {l:List (BitVec 32)} (h:e1 s l=0):tok s l=true:=by
 unfold e1 at h
 split at h
 ·assumption
 ·cases h
theorem SU {x:N5} {a b:T4} (c:x.k=3#8∨x.k=4#8) (e:e2 a.s a.l b.s b.l=0):RU x [a,b]:=by
  obtain ⟨d,f,g⟩:=YY e
  rcases c with c|c
  · exact GX a.s (z2 (·+·) a.s a.l b.l) c (VX d f) rfl rfl (by show (if a.s=b.s then a.s else [])=a.s;rw [g,if_pos rfl]) (GG (BJ d).1)
  · exact GX a.s (z2 (·*·) a.s a.l b.l) c (VX d f) rfl rfl (by show (if a.s=b.s then a.s else [])=a.s;rw [g,if_pos rfl]) (GG (BJ d).1)
theorem UV {x:N5} {a:T4} (b:x.k=5#8) (e:e1 a.s a.l=0):RU x [a]:=
 GX a.s (z1 Ik a.s a.l) b (RR (X5 e)) rfl rfl rfl (GG (BJ (X5 e)).1)
theorem SV {x:N5} {a:T4} (b:x.k=6#8) (e:OZ a.s a.l x.n=0):RU x [a]:=by
 have h:tok a.s a.l=true:=by
  unfold OZ at e
  split at e
  ·cases e
  ·exact X5 e
 exact GX a.s (z1 (U9 x.n.toNat) a.s a.l) b (RR h) rfl rfl rfl (GG (BJ h).1)
theorem UW {x:N5} {a b:T4} (n:x.k=7#8) (e:Hw a b=0):RU x [a,b]:=by
 unfold Hw at e
 split at e
 ·rename_i k
  rw [Bool.and_eq_true] at k
  obtain ⟨g,d⟩:=k
  have f:=(BJ g).1
  have j:=(BJ d).1
  have m:=e
  unfold DV at e
  rw [f,j,Bool.and_self,if_pos rfl] at e
  split at e
  ·rename_i o
   have c:=EK f (i:=0) (by omega)
   have h:=EK j (i:=1) (by omega)
   have l:a.s.getD 0 default*b.s.getD 1 default≤4096:=by
    have:=Int.mul_le_mul c.2 h.2 (by omega) (by omega)
    omega
   have ok:=MY c h l
   refine GX [a.s.getD 0 default,b.s.getD 1 default] (L2 a b) n (VX g d) O O (by show (if DV a.s b.s=0 then _ else _)=_;rw [if_pos m];rfl) ?_
   unfold tok
   rw [ok,Bool.true_and,decide_eq_true_iff,Ih ok rfl]
   show ((L2 a b).length:Int)=a.s.getD 0 default*b.s.getD 1 default
   unfold L2
   rw [Ji]
   rw [Int.natCast_mul,Int.toNat_of_nonneg (by omega),Int.toNat_of_nonneg (by omega)]
  ·cases e
 ·cases e
theorem WJ {x:N5} {a b:T4} (d:x.k=8#8) (e:Ho a b x.n x.p=0):RU x [a,b]:=by
 unfold Ho at e
 split at e
 ·rename_i c
  rw [Bool.and_eq_true] at c
  have ok:Shapes.ok (FG a.s b.s x.n x.p)=true:=by
   have e:=e
   unfold BZ at e
   split at e
   ·cases e
   ·split at e
    ·rename_i h;rw [Bool.and_eq_true] at h;exact h.2
    ·cases e
  exact GX _ _ d (VX c.1 c.2) rfl rfl (by show (if BZ a.s b.s x.n x.p=0 then _ else _)=_;rw [if_pos e];rfl) (GG ok)
 ·cases e
theorem UX {x:N5} {a:T4} (c:x.k=9#8) (e:HZ a x.n=0):RU x [a]:=by
 unfold HZ at e
 split at e
 ·rename_i b
  exact GX _ _ c (RR b) rfl rfl (by show (if CE a.s x.n=0 then _ else _)=_;rw [if_pos e];rfl) (GG (KR b e).ok)
 ·cases e
theorem SW {x:N5} {a:T4} (c:x.k=10#8) (e:KV a x.s=0):RU x [a]:=by
 unfold KV at e
 split at e
 ·rename_i b
  rw [Bool.and_eq_true] at b
  split at e
  ·rename_i hs
   have d:=(BJ b.1).2
   have f:0<Shapes.size a.s:=AD (BJ b.1).1
   exact GX x.s a.l c (RR b.1) rfl rfl (by show (if Shapes.size a.s=Shapes.size x.s then _ else _)=_;rw [if_pos (by omega)]) (by unfold tok;rw [b.2,Bool.true_and,decide_eq_true_iff];exact hs.symm)
  ·cases e
 ·cases e
theorem UU {x:N5} {a:T4} (c:x.k=11#8) (e:K2 a x.s=0):RU x [a]:=by
 unfold K2 at e
 split at e
 ·rename_i b
  simp only [Bool.and_eq_true,decide_eq_true_eq] at b
  exact GX _ _ c (RR b.1.1) rfl rfl (by show Mn a.s x.s=_;unfold Mn;rw [if_pos b.1.2.symm];rfl) (GG (GE (BJ b.1.1).1 b.2 b.1.2))
 ·cases e
theorem WK {x:N5} {a:T4} (d:x.k=13#8) (e:KO a x.n=0):RU x [a]:=by
 unfold KO at e
 split at e
 ·rename_i c
  simp only [Bool.and_eq_true,decide_eq_true_eq] at c
  obtain ⟨⟨b,g⟩,h⟩:=c
  have f:x.n.toNat<a.s.length:=by omega
  refine GX (BK a.s x.n.toNat) (QC a.s a.l x.n.toNat) d (RR b) O O ?_ (GG (Gj (BJ b).1 f))
  show Rl a.s x.n=BK a.s x.n.toNat
  unfold Rl BK
  rw [if_neg (by omega)]
  split
  ·rfl
  ·rw [eraseIdx_eq_take_drop_succ]
 ·cases e
theorem XC {a b:List Int} {k:Nat} (h:HX a b k=true):a.length=b.length∧∀m,m≠k→a.getD m default=b.getD m default:=by
 simp only [HX,Bool.and_eq_true,decide_eq_true_eq] at h
 obtain ⟨⟨d,c⟩,f⟩:=h
 refine ⟨d,fun m g=> ?_⟩
 rw [getD_eq_getElem?_getD,getD_eq_getElem?_getD]
 by_cases e:m<k
 ·have:=cngA (fun l:List Int=>l[m]?) c
  simp only [getElem?_take,e,if_true] at this
  rw [this]
 ·have:=cngA (fun l:List Int=>l[m - (k+1)]?) f
  simp only [getElem?_drop,show k+1+(m - (k+1))=m by omega] at this
  rw [this]
theorem QS {k:Nat} {a:List Int} (b:k<a.length):∀(ts:List T4) (c:Int),(∀t ∈ ts,HX t.s a k=true)→IH k (a.set k c) (ts.map (·.s))=some (a.set k (c+CB k ts))
 |[],c,_=>by simp [IH,CB]
 |t::ts,c,h=>by
  obtain ⟨f,e⟩:=XC (h t (by simp))
  have e1:Ms k (a.set k c) t.s=some (a.set k (c+t.s.getD k default)):=by
   have i:t.s.length=(a.set k c).length∧k<(a.set k c).length∧∀m,m<(a.set k c).length→m≠k→(a.set k c).getD m default=t.s.getD m default:=
    ⟨by rw [length_set];exact f,by rw [length_set];exact b,fun m j d=>by rw [e m d,getD_eq_getElem?_getD,getElem?_set_ne (by omega),← getD_eq_getElem?_getD]⟩
   have e2:(a.set k c).getD k default=c:=by simp [b]
   unfold Ms
   rw [if_pos i,e2,set_set]
  rw [map_cons]
  unfold IH
  rw [e1]
  show IH k _ _=_
  rw [QS b ts _ fun t g=>h t (mem_cons_of_mem _ g)]
  simp only [CB]
  rw [Int.add_assoc]
theorem UY {x:N5} {ts:List T4} (a:x.k=12#8) (e:Lb ts x.n=0):RU x ts:=by
 unfold Lb at e
 split at e
 ·cases e
 ·rename_i b
  split at e
  ·rename_i f
   rw [Bool.and_eq_true,all_eq_true] at f
   obtain ⟨d,c⟩:=f
   have b:K8 ts x.n=false:=by simpa using b
   unfold K8 at b
   simp only [Bool.or_eq_false_iff,decide_eq_false_iff_not] at b
   obtain ⟨⟨⟨⟨h,n⟩,l⟩,m⟩,i⟩:=b
   refine GX (KZ ts x.n.toNat) (Mk ts x.n.toNat) a (fun t k=>IG l k) O O ?_ (GG c)
   show NP (ts.map (·.s)) x.n.toNat=KZ ts x.n.toNat
   match ts,h with
   |t::us,_=>
    have a:x.n.toNat<t.s.length:=by have:¬((t.s.length:Int)≤x.n):=i;omega
    have key:=QS a us (t.s.getD x.n.toNat default) fun u j=>d u (mem_cons_of_mem _ j)
    have g:t.s.set x.n.toNat (t.s.getD x.n.toNat default)=t.s:=by
     rw [getD_eq_getElem?_getD,getElem?_eq_getElem a]
     exact set_getElem_self a
    rw [g] at key
    unfold NP
    show (match IH x.n.toNat t.s (us.map (·.s)) with|some s=>if x.n.toNat<s.length then s else []|none=>[])=_
    rw [key]
    show (if x.n.toNat<(t.s.set x.n.toNat _).length then _ else _)=_
    rw [length_set,if_pos a]
    rfl
  ·cases e
theorem Y7 {x:N5} {ts:List T4} (h:GQ x ts=0):DK x ts=true∧HO x.k x ts=0:=by
 unfold GQ at h
 split at h
 ·exact ⟨by assumption,h⟩
 ·cases h
theorem JO {x:N5} {ts:List T4} (h:DK x ts=true):∃a b c d,IK x.k.toNat=some (a,b,c,d)∧ts.length=x.i.length∧a≤(ts.length:Int)∧(ts.length:Int)≤b∧c≤x.n∧x.n≤d∧HK x.k x.s x.p=true:=by
 unfold DK at h
 split at h
 ·rename_i a b c d e
  simp only [Bool.and_eq_true,decide_eq_true_eq] at h
  exact ⟨a,b,c,d,e,by omega,by omega,by omega,by omega,by omega,h.2⟩
 ·cases h
theorem Lp {ts:List T4} (h:ts.length=1):∃a,ts=[a]:=by
 match ts,h with
 |[a],_=>exact ⟨a,rfl⟩
theorem Od {ts:List T4} (h:ts.length=2):∃a b,ts=[a,b]:=by
 match ts,h with
 |[a,b],_=>exact ⟨a,b,rfl⟩
theorem Mc {x:N5} {ts:List T4} (h:GQ x ts=0):RU x ts:=by
 obtain ⟨j,f⟩:=Y7 h
 obtain ⟨a,b,c,d,i,l,m,o, -, -, -⟩:=JO j
 have e:=Kx x.k (by rw [i];rfl)
 rcases e with e|e|e|e|e|e|e|e|e|e|e<;>(rw [e] at i f;have g:=Option.some.inj i;simp only [Prod.mk.injEq] at g;obtain ⟨n,k, -, -⟩:=g)
 ·obtain ⟨p,q,rfl⟩:=Od (ts:=ts) (by omega)
  exact SU (.inl e) f
 ·obtain ⟨p,q,rfl⟩:=Od (ts:=ts) (by omega)
  exact SU (.inr e) f
 ·obtain ⟨p,rfl⟩:=Lp (ts:=ts) (by omega)
  exact UV e f
 ·obtain ⟨p,rfl⟩:=Lp (ts:=ts) (by omega)
  exact SV e f
 ·obtain ⟨p,q,rfl⟩:=Od (ts:=ts) (by omega)
  exact UW e f
 ·obtain ⟨p,q,rfl⟩:=Od (ts:=ts) (by omega)
  exact WJ e f
 ·obtain ⟨p,rfl⟩:=Lp (ts:=ts) (by omega)
  exact UX e f
 ·obtain ⟨p,rfl⟩:=Lp (ts:=ts) (by omega)
  exact SW e f
 ·obtain ⟨p,rfl⟩:=Lp (ts:=ts) (by omega)
  exact UU e f
 ·exact UY e f
 ·obtain ⟨p,rfl⟩:=Lp (ts:=ts) (by omega)
  exact WK e f
end Go.Proofs.YtmipoeanpnnjoaaGreatDoor
