/- Texts of this proof, one behind the other: RefMaths, ProductsCode, RefProducts, WinCode, WinOf, WinPool, RefWin, FindCode, TensList. -/
import Derived.Test.YtmipoeanpnnjoaaGreatDoorPk2
import Derived.Test.YtmipoeanpnnjoaaGreatDoorPk1

namespace Go.Proofs.YtmipoeanpnnjoaaGreatDoor
open Go Go.Dd Go.RowKit List Go.Proofs.Tryz
set_option maxRecDepth 100000
theorem YX {s t:List Int} {l m:List (BitVec 32)} (h:tok s l=false):e2 s l t m=1:=by unfold e2;rw [h];rfl
theorem YW {s t:List Int} {l m:List (BitVec 32)} (h:tok t m=false):e2 s l t m=1:=by unfold e2;rw [h,Bool.and_false];rfl
theorem Y6 {s t:List Int} {l m:List (BitVec 32)} (h:e2 s l t m=0):tok s l=true∧tok t m=true∧t=s:=by
 unfold e2 at h
 split at h
 ·rename_i a
  simp only [Bool.and_eq_true] at a
  split at h
  ·rename_i b;exact ⟨a.1,a.2,b⟩
  ·cases h
 ·cases h
theorem KU {W w:World} {r:Value} {s:List Int} (a:Shapes.ok s=true) (h:(Shapes.ok s=true∧∃x y,r= .tuple #[.agg #[x,y], .int .i64 0]∧DA W w x y s (replicate (Shapes.size s).toNat 0#32))∨(Shapes.ok s=false∧r= .tuple #[.agg #[.slice none 0 0, .slice none 0 0], .int .i64 1])):
  ∃x y,r= .tuple #[.agg #[x,y], .int .i64 0]∧DA W w x y s (replicate (Shapes.size s).toNat 0#32):=by
 rcases h with ⟨_,h⟩|⟨h,_⟩
 ·exact h
 ·rw [a] at h;cases h
theorem Qy (f:BitVec 32→BitVec 32→BitVec 32) (s:List Int) (l m:List (BitVec 32)):(z2 f s l m).length=(Shapes.size s).toNat:=by simp [z2]
theorem Wc {f:BitVec 32→BitVec 32→BitVec 32} {s:List Int} {l m:List (BitVec 32)} {i:Nat} (h:i<(Shapes.size s).toNat):(z2 f s l m).getD i default=f (l.getD i default) (m.getD i default):=by simp [z2,h]
theorem QI (a b:T4) (W:World) (d:a.at W) (c:b.at W):AM prog 139 [a.v,b.v] W (fun r z=>r= .int .i64 (e2 a.s a.l b.s b.l)∧Below W.heap.size W z):=by
 have j:=Below.refl W.heap.size W
 refine Bb (n:=19) func139 O<|Af<|B5 (cs:=[a.x,a.y]) O O O ?_
 rintro A w p i f -
 have j:=j.bs f
 have d:=d.bs f
 have c:=c.bs f
 refine B5 (cs:=[b.x,b.y]) O O O ?_
 rintro v w u k f -
 have j:=j.bs f
 have d:=d.bs f
 have c:=c.bs f
 have i:=i.bs f
 refine Ab O<|Bh<|Aa (B9 (AT _) (AP _) O O ‹_›) O ?_
 refine Aj O O (CY a.x a.y a.s a.l _ d.1 d.2) ?_
 rintro _ w ⟨rfl,f⟩
 have j:=j.bs f
 have d:=d.bs f
 have c:=c.bs f
 have i:=i.bs f
 have k:=k.bs f
 refine Aa (Ck O) O<|Ac O ?_
 refine Cc 8 O ?_ ?_
 ·intro g
  have e:e2 a.s a.l b.s b.l=1:=YX (by simpa using g)
  exact Ae (dj:=8) rfl rfl rfl rfl<|Ae (dj:=8) rfl rfl rfl rfl<|Ae (dj:=8) rfl rfl rfl rfl<|B4 rfl<|Ak<|Bz rfl<|Af<|Ab rfl<|Bu<|Ax rfl rfl<|⟨by rw [e],j⟩
 intro g
 have o:tok a.s a.l=true:=by simpa using g
 refine Ag (dj:=8) O O<|Aa (B9 (AT _) (AP _) O O ‹_›) O ?_
 refine Ag (dj:=8) O O<|Aj O O (CY b.x b.y b.s b.l _ c.1 c.2) ?_
 rintro _ w ⟨rfl,f⟩
 have j:=j.bs f
 have d:=d.bs f
 have c:=c.bs f
 have i:=i.bs f
 have k:=k.bs f
 refine Ag (dj:=8) O O<|Aa (Ck O) O<|Cn O<|Ak<|Aq O ?_ ?_
 ·intro g
  have e:e2 a.s a.l b.s b.l=1:=YW (by simpa using g)
  exact Af<|Ab rfl<|Bu<|Ax rfl rfl<|⟨by rw [e],j⟩
 intro g
 have l:tok b.s b.l=true:=by simpa using g
 refine B0<|An<|Af<|Be underlying33 O (AN _)<|Aa (Ah (AF _) O ‹_› rfl) O ?_
 refine Be underlying33 O (AN _)<|Aa (Ah (AF _) O ‹_› rfl) O ?_
 refine Aj O O (J8 a.x b.x a.s b.s _ d.1 c.1) ?_
 rintro _ w ⟨rfl,f⟩
 have j:=j.bs f
 have d:=d.bs f
 have c:=c.bs f
 have i:=i.bs f
 have k:=k.bs f
 refine Aa (Ck O) O<|Ak<|Aq O ?_ ?_
 ·intro g
  have e:e2 a.s a.l b.s b.l=10:=by
   have:¬b.s=a.s:=fun h=>by rw [h] at g;simp at g
   unfold e2
   rw [o,l,if_neg this]
   rfl
  exact Af<|Ab rfl<|Bu<|Ax rfl rfl<|⟨by rw [e],j⟩
 intro g
 have e:e2 a.s a.l b.s b.l=0:=by
  have:b.s=a.s:=by simp at g;exact g.symm
  unfold e2
  rw [o,l,if_pos this]
  rfl
 exact Co<|Ab rfl<|Bc<|Ax rfl rfl<|⟨by rw [e],j⟩
theorem WU (a b:T4) (W:World) (d:a.at W) (e:b.at W):AM prog 35 [a.v,b.v] W (fun r Q=>Below W.heap.size W Q∧Ri W Q r (e2 a.s a.l b.s b.l) a.s (z2 (·+·) a.s a.l b.l)):=by
 have j:=Below.refl W.heap.size W
 refine Bb (n:=46) func35 O<|Af<|B5 (cs:=[a.x,a.y]) O O O ?_
 rintro A_a w eA_a l f -
 have j:=j.bs f
 have d:=d.bs f
 have e:=e.bs f
 refine B5 (cs:=[b.x,b.y]) O O O ?_
 rintro A_b w eA_b v f -
 have j:=j.bs f
 have d:=d.bs f
 have e:=e.bs f
 have l:=l.bs f
 have zr:=AA j
 refine Cx AY O ?_
 rintro L w eA_r k f -
 have j:=j.bs f
 have d:=d.bs f
 have e:=e.bs f
 have l:=l.bs f
 have v:=v.bs f
 refine Ab O<|Bl<|Aa (B9 (AT _) (AP _) O O ‹_›) O ?_
 refine Aa (B9 (AT _) (AP _) O O ‹_›) O ?_
 have z_r:=AH k
 have zr:W.heap.size≤L:=by omega
 refine Aj O O (QI a b _ d e) ?_
 rintro _ w ⟨rfl,f⟩
 have j:=j.bs f
 have d:=d.bs f
 have e:=e.bs f
 have l:=l.bs f
 have v:=v.bs f
 have k:=k.bs f
 refine Ab O<|Bh<|Ac O<|Aa (Cs O O) O<|Ak<|Aq O ?_ ?_
 ·intro g
  have g' :e2 a.s a.l b.s b.l≠0:=by simpa using g
  refine Af<|C8 O<|Ac O<|Az (Bv (cs:=[.slice none 0 0, .slice none 0 0]) O O O O O k O) ?_
  rintro w9 ⟨k,hg, -⟩
  have j:=j.grown hg (AA j) (by rintro _ ⟨⟩;omega)
  refine Ab O<|Bu<|Bt O O O ‹_› underlying33 O O O ?_
  exact ⟨j,_,_,rfl,fun _=>⟨rfl,rfl⟩,fun h=>absurd h g'⟩
 intro g
 have e0:e2 a.s a.l b.s b.l=0:=by simpa using g
 obtain ⟨T,t_b,hs⟩:=Y6 e0
 have ka:=(BJ T).1
 have hsz:=Shapes.size_le a.s
 have la:=(BJ T).2
 have lb:=(BJ t_b).2
 rw [hs] at lb
 rw [e0]
 refine Co<|Be underlying33 O (AN _)<|Aa (Ah (AF _) O ‹_› rfl) O ?_
 refine Aj O O (Ii a.x a.s w d.1) ?_
 rintro r w3 ⟨I,o⟩
 obtain ⟨Z,Y,rfl,hz⟩:=KU ka o
 refine Ac O<|Aa (As (i:=0) O O) O<|Aa (As (i:=1) O O) O<|C1 (cs:=[Z,Y]) AY O O O O (fun _=>rfl) (hz.one) ?_
 rintro X w4 z D C B
 have M:=ES hz z D C B I.size
 have R:=bt I C
 clear hz D o z I C B
 obtain ⟨N,hN⟩:∃N,N=(Shapes.size a.s).toNat:=⟨_,rfl⟩
 rw [← hN] at M la lb
 have u:(replicate N 0#32).length=N:=length_replicate
 obtain ⟨pl,F⟩:∃pl,pl=z2 (·+·) a.s a.l b.l:=⟨_,rfl⟩
 have J:pl.length=(replicate N 0#32).length:=by rw [F,Qy,u,hN]
 refine Ab O<|Bh<|Ab O<|Ak<|Ao ?_
 refine Bq (S:=Nat) (fun i=>[(2, .pointer (some ⟨A_a,0,none⟩)),(3, .pointer (some ⟨A_b,0,none⟩)),(4, .pointer (some ⟨L,0,none⟩)),(5, .int .i64 0),(7, .pointer (some ⟨X,0,none⟩)),(9, .int .i64 (i:Int))]) (fun i Q=>i≤N∧Below w.heap.size w Q∧FP Q w.heap.size w4.heap.size X Z Y a.s (pl.take i++(replicate N 0#32).drop i)) (fun i=>N - i) (0) ⟨rfl,rfl,rfl,rfl,rfl,rfl,trivial⟩ ?_ ?_
 ·exact ⟨by omega,R,by rw [GH];exact M⟩
 clear M R
 have zrw:=AH k
 rintro i w5 ⟨hi,A,M⟩
 have D:=M.box
 have y_t:=M.sly
 have b_a5:=l.bs A
 have b_b5:=v.bs A
 have y_a:=(d.bs A).2
 have y_b:=(e.bs A).2
 have lt:(pl.take i++(replicate N 0#32).drop i).length=N:=by rw [HD J,u]
 refine An<|Af<|Ac O<|Be underlying33 O (BC _)<|Aa (Ah (BG _) O ‹_› rfl) O ?_
 refine Aa (Au AU O ‹_›) O ?_
 refine B3 O<|Ak<|Aq O ?_ ?_
 ·intro h
  have H:i<N:=by rw [lt] at h;simp at h;omega
  have hir:i<(replicate N 0#32).length:=by omega
  have K:pl.getD i default=a.l.getD i default+b.l.getD i default:=by rw [F];exact Wc (by omega)
  have G:(pl.take i++(replicate N 0#32).drop i).set i (a.l.getD i default+b.l.getD i default)=pl.take (i+1)++(replicate N 0#32).drop (i+1):=by rw [← K];exact HC J hir
  refine B0<|An<|Ao<|Cw.tail 15 AS (by kernel_rfl)<|Ad (fun p c=>Cd underlying33 O (BC _)) O<|Ad (fun p c=>Ah (BG _) O (AO.bs ‹_› c) O) O ?_
  refine Bg O<|Ad (fun p c=>Cd underlying33 O (BC _)) O<|Ad (fun p c=>Ah (BG _) O (AO.bs ‹_› c) O) O ?_
  refine Bg O<|Ad (fun p c=>Ay AU O O (Sl.bs ‹_› c) _ O (by omega)) O ?_
  refine Ad (fun p c=>Bj (CF _) O (Sl.bs ‹_› c) (by omega)) O ?_
  refine Ad (fun p c=>Cd underlying33 O (BC _)) O<|Ad (fun p c=>Ah (BG _) O (AO.bs ‹_› c) O) O ?_
  refine Bg O<|Ad (fun p c=>Ay AU O O (Sl.bs ‹_› c) _ O (by omega)) O ?_
  refine Ad (fun p c=>Bj (CF _) O (Sl.bs ‹_› c) (by omega)) O ?_
  refine Ad (fun p c=>D7 O O) O<|Ad (fun p c=>Ay AU O O (Sl.bs ‹_› c) _ O (by omega)) O ?_
  refine Dc (fun w6 c=> ?_)
  refine Az ((M.bs c).st (ER _) O O (by omega)) ?_
  rintro w7 ⟨M7,hg7, -⟩
  rw [G] at M7
  refine Bf<|Bn<|Ch<|Ac O<|B7 O (by omega)<|Ab O<|Bf ?_
  exact Ap (Pw.next (i+1) ⟨rfl,rfl,rfl,rfl,rfl,rfl,trivial⟩ (⟨H,(M.bs c).below (bt A c) (AX _) hg7,M7⟩) (by omega))
 intro h
 have H:i=N:=by rw [lt] at h;simp at h;omega
 subst H
 have hall:pl.take i++(replicate i 0#32).drop i=pl:=by
  have:=HE J
  rwa [u] at this
 rw [hall] at M
 have b_t6:=M.box
 have V:=k.bs A
 refine Bp<|Al<|Al<|Bd<|Cm<|Aa (B9 (AT _) (AP _) O O ‹_›) O ?_
 refine Az (Bv (cs:=[Z,Y]) O O O O (by simp [M.sh.one',M.sly.one']) V O) ?_
 rintro w9 ⟨b_r9,U, -⟩
 have M9:=M.keep U (by rintro _ ⟨⟩;omega)
 have zW:=AA j
 have hB9:=(bt j A).grown U (AA (bt j A)) (by rintro _ ⟨⟩;omega)
 refine Ab O<|Bc<|Bt O O O ‹_› underlying33 O O O ?_
 rw [← F]
 exact ⟨hB9,Z,Y,rfl,fun h=>absurd rfl h,fun _=>⟨M9.row.mono zW,BH M9.lst.own zW,M9.yx⟩⟩
theorem WQ (a b:T4) (W:World) (d:a.at W) (e:b.at W):AM prog 36 [a.v,b.v] W (fun r Q=>Below W.heap.size W Q∧Ri W Q r (e2 a.s a.l b.s b.l) a.s (z2 (·*·) a.s a.l b.l)):=by
 have j:=Below.refl W.heap.size W
 refine Bb (n:=46) func36 O<|Af<|B5 (cs:=[a.x,a.y]) O O O ?_
 rintro A_a w eA_a l f -
 have j:=j.bs f
 have d:=d.bs f
 have e:=e.bs f
 refine B5 (cs:=[b.x,b.y]) O O O ?_
 rintro A_b w eA_b v f -
 have j:=j.bs f
 have d:=d.bs f
 have e:=e.bs f
 have l:=l.bs f
 have zr:=AA j
 refine Cx AY O ?_
 rintro L w eA_r k f -
 have j:=j.bs f
 have d:=d.bs f
 have e:=e.bs f
 have l:=l.bs f
 have v:=v.bs f
 refine Ab O<|Bl<|Aa (B9 (AT _) (AP _) O O ‹_›) O ?_
 refine Aa (B9 (AT _) (AP _) O O ‹_›) O ?_
 have z_r:=AH k
 have zr:W.heap.size≤L:=by omega
 refine Aj O O (QI a b _ d e) ?_
 rintro _ w ⟨rfl,f⟩
 have j:=j.bs f
 have d:=d.bs f
 have e:=e.bs f
 have l:=l.bs f
 have v:=v.bs f
 have k:=k.bs f
 refine Ab O<|Bh<|Ac O<|Aa (Cs O O) O<|Ak<|Aq O ?_ ?_
 ·intro g
  have g' :e2 a.s a.l b.s b.l≠0:=by simpa using g
  refine Af<|C8 O<|Ac O<|Az (Bv (cs:=[.slice none 0 0, .slice none 0 0]) O O O O O k O) ?_
  rintro w9 ⟨k,hg, -⟩
  have j:=j.grown hg (AA j) (by rintro _ ⟨⟩;omega)
  refine Ab O<|Bu<|Bt O O O ‹_› underlying33 O O O ?_
  exact ⟨j,_,_,rfl,fun _=>⟨rfl,rfl⟩,fun h=>absurd h g'⟩
 intro g
 have e0:e2 a.s a.l b.s b.l=0:=by simpa using g
 obtain ⟨T,t_b,hs⟩:=Y6 e0
 have ka:=(BJ T).1
 have hsz:=Shapes.size_le a.s
 have la:=(BJ T).2
 have lb:=(BJ t_b).2
 rw [hs] at lb
 rw [e0]
 refine Co<|Be underlying33 O (AN _)<|Aa (Ah (AF _) O ‹_› rfl) O ?_
 refine Aj O O (Ii a.x a.s w d.1) ?_
 rintro r w3 ⟨I,o⟩
 obtain ⟨Z,Y,rfl,hz⟩:=KU ka o
 refine Ac O<|Aa (As (i:=0) O O) O<|Aa (As (i:=1) O O) O<|C1 (cs:=[Z,Y]) AY O O O O (fun _=>rfl) (hz.one) ?_
 rintro X w4 z D C B
 have M:=ES hz z D C B I.size
 have R:=bt I C
 clear hz D o z I C B
 obtain ⟨N,hN⟩:∃N,N=(Shapes.size a.s).toNat:=⟨_,rfl⟩
 rw [← hN] at M la lb
 have u:(replicate N 0#32).length=N:=length_replicate
 obtain ⟨pl,F⟩:∃pl,pl=z2 (·*·) a.s a.l b.l:=⟨_,rfl⟩
 have J:pl.length=(replicate N 0#32).length:=by rw [F,Qy,u,hN]
 refine Ab O<|Bh<|Ab O<|Ak<|Ao ?_
 refine Bq (S:=Nat) (fun i=>[(2, .pointer (some ⟨A_a,0,none⟩)),(3, .pointer (some ⟨A_b,0,none⟩)),(4, .pointer (some ⟨L,0,none⟩)),(5, .int .i64 0),(7, .pointer (some ⟨X,0,none⟩)),(9, .int .i64 (i:Int))]) (fun i Q=>i≤N∧Below w.heap.size w Q∧FP Q w.heap.size w4.heap.size X Z Y a.s (pl.take i++(replicate N 0#32).drop i)) (fun i=>N - i) (0) ⟨rfl,rfl,rfl,rfl,rfl,rfl,trivial⟩ ?_ ?_
 ·exact ⟨by omega,R,by rw [GH];exact M⟩
 clear M R
 have zrw:=AH k
 rintro i w5 ⟨hi,A,M⟩
 have D:=M.box
 have y_t:=M.sly
 have b_a5:=l.bs A
 have b_b5:=v.bs A
 have y_a:=(d.bs A).2
 have y_b:=(e.bs A).2
 have lt:(pl.take i++(replicate N 0#32).drop i).length=N:=by rw [HD J,u]
 refine An<|Af<|Ac O<|Be underlying33 O (BC _)<|Aa (Ah (BG _) O ‹_› rfl) O ?_
 refine Aa (Au AU O ‹_›) O ?_
 refine B3 O<|Ak<|Aq O ?_ ?_
 ·intro h
  have H:i<N:=by rw [lt] at h;simp at h;omega
  have hir:i<(replicate N 0#32).length:=by omega
  have K:pl.getD i default=a.l.getD i default*b.l.getD i default:=by rw [F];exact Wc (by omega)
  have G:(pl.take i++(replicate N 0#32).drop i).set i (a.l.getD i default*b.l.getD i default)=pl.take (i+1)++(replicate N 0#32).drop (i+1):=by rw [← K];exact HC J hir
  refine B0<|An<|Ao<|Cw.tail 15 AS (by kernel_rfl)<|Ad (fun p c=>Cd underlying33 O (BC _)) O<|Ad (fun p c=>Ah (BG _) O (AO.bs ‹_› c) O) O ?_
  refine Bg O<|Ad (fun p c=>Cd underlying33 O (BC _)) O<|Ad (fun p c=>Ah (BG _) O (AO.bs ‹_› c) O) O ?_
  refine Bg O<|Ad (fun p c=>Ay AU O O (Sl.bs ‹_› c) _ O (by omega)) O ?_
  refine Ad (fun p c=>Bj (CF _) O (Sl.bs ‹_› c) (by omega)) O ?_
  refine Ad (fun p c=>Cd underlying33 O (BC _)) O<|Ad (fun p c=>Ah (BG _) O (AO.bs ‹_› c) O) O ?_
  refine Bg O<|Ad (fun p c=>Ay AU O O (Sl.bs ‹_› c) _ O (by omega)) O ?_
  refine Ad (fun p c=>Bj (CF _) O (Sl.bs ‹_› c) (by omega)) O ?_
  refine Ad (fun p c=>En O O) O<|Ad (fun p c=>Ay AU O O (Sl.bs ‹_› c) _ O (by omega)) O ?_
  refine Dc (fun w6 c=> ?_)
  refine Az ((M.bs c).st (ER _) O O (by omega)) ?_
  rintro w7 ⟨M7,hg7, -⟩
  rw [G] at M7
  refine Bf<|Bn<|Ch<|Ac O<|B7 O (by omega)<|Ab O<|Bf ?_
  exact Ap (Pw.next (i+1) ⟨rfl,rfl,rfl,rfl,rfl,rfl,trivial⟩ (⟨H,(M.bs c).below (bt A c) (AX _) hg7,M7⟩) (by omega))
 intro h
 have H:i=N:=by rw [lt] at h;simp at h;omega
 subst H
 have hall:pl.take i++(replicate i 0#32).drop i=pl:=by
  have:=HE J
  rwa [u] at this
 rw [hall] at M
 have b_t6:=M.box
 have V:=k.bs A
 refine Bp<|Al<|Al<|Bd<|Cm<|Aa (B9 (AT _) (AP _) O O ‹_›) O ?_
 refine Az (Bv (cs:=[Z,Y]) O O O O (by simp [M.sh.one',M.sly.one']) V O) ?_
 rintro w9 ⟨b_r9,U, -⟩
 have M9:=M.keep U (by rintro _ ⟨⟩;omega)
 have zW:=AA j
 have hB9:=(bt j A).grown U (AA (bt j A)) (by rintro _ ⟨⟩;omega)
 refine Ab O<|Bc<|Bt O O O ‹_› underlying33 O O O ?_
 rw [← F]
 exact ⟨hB9,Z,Y,rfl,fun h=>absurd rfl h,fun _=>⟨M9.row.mono zW,BH M9.lst.own zW,M9.yx⟩⟩
theorem Sr (x:BitVec 32): -2147483648≤x.toInt∧x.toInt<2147483648:=by
 have b:=BitVec.toInt_lt (x:=x)
 have a:=BitVec.le_toInt x
 simp at b a
 omega
theorem Qz (f:BitVec 32→BitVec 32) (s:List Int) (l:List (BitVec 32)):(z1 f s l).length=(Shapes.size s).toNat:=by simp [z1]
theorem Wd {f:BitVec 32→BitVec 32} {s:List Int} {l:List (BitVec 32)} {i:Nat} (h:i<(Shapes.size s).toNat):(z1 f s l).getD i default=f (l.getD i default):=by simp [z1,h]
theorem Ra (x b:Int) (h:1≤b):(if x.tmod b<0 then x.tdiv b - 1 else x.tdiv b)=x / b:=by
 rw [Int.tdiv_eq_ediv,Int.tmod_eq_emod]
 have a:=Int.emod_nonneg x (show b≠0 by omega)
 have c:=Int.emod_lt_of_pos x (show 0<b by omega)
 have hs:b.sign=1:=Int.sign_eq_one_of_pos (by omega)
 by_cases hc:0≤x∨b ∣ x
 ·rw [if_pos hc,if_pos hc];simp;omega
 ·rw [if_neg hc,if_neg hc,hs]
  have:x % b - b.natAbs<0:=by omega
  rw [if_pos (by omega)];omega
theorem QA (x b:Int): -(x.natAbs:Int)≤x.tdiv b∧x.tdiv b≤x.natAbs:=by
 have:=Int.natAbs_tdiv_le_natAbs x b
 omega
section
variable {P : Program} {n : Nat} {E : CS} {w : World} {x y : Operand} {t s ty : TypeId} {m q : Int}
theorem Ex.quoT (b:ev E x=some (.int .i64 m)) (a:ev E y=some (.int .i64 q)) (d: -9223372036854775807≤m∧m≤9223372036854775807) (c:1≤q):Ex P n E (.binOp .quo t x y s) ty w (.int .i64 (m.tdiv q)):=Ej b a (by
 have:¬q=0:=by omega
 have e:=QA m q
 simp [go_sem,Op.intDiv,this,IntWalk.i64_in (m.tdiv q) (by omega)])
theorem Ex.remT (b:ev E x=some (.int .i64 m)) (a:ev E y=some (.int .i64 q)) (c:1≤q):Ex P n E (.binOp .rem t x y s) ty w (.int .i64 (m.tmod q)):=Ej b a (by
 have:¬q=0:=by omega
 simp [go_sem,Op.intDiv,this])
end
theorem Ve (a:T4) (W:World) (b:a.at W):AM prog 37 [a.v] W (fun r L=>Below W.heap.size W L∧Ri W L r (e1 a.s a.l) a.s (z1 Ik a.s a.l)):=by
 have f:=Below.refl W.heap.size W
 refine Bb (n:=35) func37 O<|Af<|B5 (cs:=[a.x,a.y]) O O O ?_
 rintro A_a w eA_a l o -
 have f:=f.bs o
 have b:=b.bs o
 have zr:=AA f
 refine Cx AY O ?_
 rintro K w eA_r d o -
 have f:=f.bs o
 have b:=b.bs o
 have l:=l.bs o
 refine Ab O<|Bh<|Aa (B9 (AT _) (AP _) O O ‹_›) O ?_
 have z_r:=AH d
 have zr:W.heap.size≤K:=by omega
 refine Aj O O (CY a.x a.y a.s a.l _ b.1 b.2) ?_
 rintro _ w ⟨rfl,o⟩
 have f:=f.bs o
 have b:=b.bs o
 have l:=l.bs o
 have d:=d.bs o
 refine Aa (Ck O) O<|Ak<|Aq O ?_ ?_
 ·intro g
  have e:e1 a.s a.l=1:=by unfold e1;rw [if_neg];simp at g;simp [g]
  refine Af<|C8 O<|Az (Bv (cs:=[.slice none 0 0, .slice none 0 0]) O O O O O d O) ?_
  rintro w9 ⟨d,hg, -⟩
  have f:=f.grown hg (AA f) (by rintro _ ⟨⟩;omega)
  refine Ab O<|Bu<|Bt O O O ‹_› underlying33 O O O ?_
  exact ⟨f,_,_,by rw [e],fun _=>⟨rfl,rfl⟩,fun h=>by rw [e] at h;cases h⟩
 intro g
 have G:tok a.s a.l=true:=by simpa using g
 have e0:e1 a.s a.l=0:=by unfold e1;rw [if_pos G]
 rw [e0]
 refine Co<|Be underlying33 O (AN _)<|Aa (Ah (AF _) O ‹_› rfl) O ?_
 have ka:=(BJ G).1
 have hsz:=Shapes.size_le a.s
 have la:=(BJ G).2
 have zr:=AA f
 refine Aj O O (Ii a.x a.s w b.1) ?_
 rintro r w3 ⟨F,j⟩
 obtain ⟨X,V,rfl,Z⟩:=KU ka j
 refine Ac O<|Aa (As (i:=0) O O) O<|Aa (As (i:=1) O O) O<|C1 (cs:=[X,V]) AY O O O O (fun _=>rfl) (Z.one) ?_
 rintro U w4 p z v u
 have M:=ES Z p z v u F.size
 have Q:=bt F v
 clear Z z j p F v u
 obtain ⟨N,hN⟩:∃N,N=(Shapes.size a.s).toNat:=⟨_,rfl⟩
 rw [← hN] at M la
 have k:(replicate N 0#32).length=N:=length_replicate
 obtain ⟨pl,B⟩:∃pl,pl=z1 Ik a.s a.l:=⟨_,rfl⟩
 have H:pl.length=(replicate N 0#32).length:=by rw [B,Qz,k,hN]
 refine Ab O<|Bh<|Ab O<|Ak<|Ao ?_
 refine Bq (S:=Nat) (fun i=>[(1, .pointer (some ⟨A_a,0,none⟩)),(2, .pointer (some ⟨K,0,none⟩)),(3, .int .i64 0),(4, .pointer (some ⟨U,0,none⟩)),(6, .int .i64 (i:Int))]) (fun i L=>i≤N∧Below w.heap.size w L∧FP L w.heap.size w4.heap.size U X V a.s (pl.take i++(replicate N 0#32).drop i)) (fun i=>N - i) (0) ⟨rfl,rfl,rfl,rfl,rfl,trivial⟩ ?_ ?_
 ·exact ⟨by omega,Q,by rw [GH];exact M⟩
 clear M Q
 have zrw:=AH d
 rintro i w5 ⟨hi,J,M⟩
 have z:=M.box
 have y_t:=M.sly
 have b_a5:=l.bs J
 have y_a:=(b.bs J).2
 have lt:(pl.take i++(replicate N 0#32).drop i).length=N:=by rw [HD H,k]
 refine An<|Af<|Ac O<|Be underlying33 O (BC _)<|Aa (Ah (BG _) O ‹_› rfl) O ?_
 refine Aa (Au AU O ‹_›) O ?_
 refine B3 O<|Ak<|Aq O ?_ ?_
 ·intro h
  have D:i<N:=by rw [lt] at h;simp at h;omega
  have hir:i<(replicate N 0#32).length:=by omega
  have I:pl.getD i default=Ik (a.l.getD i default):=by rw [B];exact Wd (by omega)
  have C:(pl.take i++(replicate N 0#32).drop i).set i (Ik (a.l.getD i default))=pl.take (i+1)++(replicate N 0#32).drop (i+1):=by rw [← I];exact HC H hir
  refine B0<|An<|Ao<|Cw.tail 10 AS (by kernel_rfl)<|Ad (fun A c=>Cd underlying33 O (BC _)) O<|Ad (fun A c=>Ah (BG _) O (AO.bs ‹_› c) O) O ?_
  refine Bg O<|Ad (fun A c=>Cd underlying33 O (BC _)) O<|Ad (fun A c=>Ah (BG _) O (AO.bs ‹_› c) O) O ?_
  refine Bg O<|Ad (fun A c=>Ay AU O O (Sl.bs ‹_› c) _ O (by omega)) O ?_
  refine Ad (fun A c=>Bj (CF _) O (Sl.bs ‹_› c) (by omega)) O ?_
  refine Ad (fun A c=>Ex.as (E5 (m:=0) (q:=(a.l.getD i default).toInt) O O) (QH _)) O<|Ad (fun A c=>Ay AU O O (Sl.bs ‹_› c) _ O (by omega)) O ?_
  refine Dc (fun w6 c=> ?_)
  refine Az ((M.bs c).st (ER _) O O (by omega)) ?_
  rintro w7 ⟨M7,Y, -⟩
  rw [C] at M7
  refine Bf<|Bn<|Ch<|Ac O<|B7 O (by omega)<|Ab O<|Bf ?_
  exact Ap (Pw.next (i+1) ⟨rfl,rfl,rfl,rfl,rfl,trivial⟩ (⟨D,(M.bs c).below (bt J c) (AX _) Y,M7⟩) (by omega))
 intro h
 have D:i=N:=by rw [lt] at h;simp at h;omega
 subst D
 have hall:pl.take i++(replicate i 0#32).drop i=pl:=by
  have:=HE H
  rwa [k] at this
 rw [hall] at M
 have b_t6:=M.box
 have T:=d.bs J
 refine Bp<|Al<|Al<|Bd<|Cm<|Aa (B9 (AT _) (AP _) O O ‹_›) O ?_
 refine Az (Bv (cs:=[X,V]) O O O O (by simp [M.sh.one',M.sly.one']) T O) ?_
 rintro w9 ⟨b_r9,R, -⟩
 have M9:=M.keep R (by rintro _ ⟨⟩;omega)
 have zW:=AA f
 have hB9:=(bt f J).grown R (AA (bt f J)) (by rintro _ ⟨⟩;omega)
 refine Ab O<|Bc<|Bt O O O ‹_› underlying33 O O O ?_
 rw [← B]
 exact ⟨hB9,X,V,rfl,fun h=>absurd rfl h,fun _=>⟨M9.row.mono zW,BH M9.lst.own zW,M9.yx⟩⟩
theorem Vl (x b:Int) (w:World) (f: -9223372036854775806≤x∧x≤9223372036854775806) (a:1≤b):AM prog 142 [.int .i64 x, .int .i64 b] w (fun r d=>r= .int .i64 (x / b)∧Below w.heap.size w d):=by
 have e:=QA x b
 refine Bb (n:=16) func142 O<|Af<|Ab O<|Bl<|Ac O<|Ac O<|Aa (Ex.quoT O O (by omega) a) O<|Ab O<|Bh<|Ac O<|Ac O<|Aa (Ex.remT O O a) O<|B3 O<|Ak<|Aq O ?_ ?_
 ·intro g
  have c:=AD g
  refine Bw<|Ac O<|Aa (Du O O (by omega)) O<|Ab O<|Bl<|Ac O<|Ab O<|Bc<|Ax O O ?_
  exact ⟨by rw [← Ra x b a,if_pos c],Below.refl _ _⟩
 ·intro g
  have c:=AB g
  exact Co<|Ac rfl<|Ab rfl<|Bc<|Ax rfl rfl<|⟨by rw [← Ra x b a,if_neg c],Below.refl _ _⟩
theorem WL (j:Nat) (x:BitVec 32) (v:Int) (a:v=(x.toInt+2 ^ j / 2) / 2 ^ j):i32 (BitVec.ofInt 32 (if (if (-128:Int)<v then v else -128)<127 then (if (-128:Int)<v then v else -128) else 127))=i32 (U9 j x):=by
 unfold U9 YT Qj
 subst a
 congr 2
 rw [Int.one_mul,Int.pow_one]
 generalize (x.toInt+2 ^ j / 2) / 2 ^ j=z
 split<;>split<;>split<;>omega
theorem Ta (a:T4) (n:Int) (W:World) (f:a.at W):AM prog 38 [a.v, .int .i64 n] W (fun r F=>Below W.heap.size W F∧Ri W F r (OZ a.s a.l n) a.s (z1 (U9 n.toNat) a.s a.l)):=by
 have d:=Below.refl W.heap.size W
 refine Bb (n:=62) func38 O<|Af<|B5 (cs:=[a.x,a.y]) O O O ?_
 rintro U w eA_a u v -
 have d:=d.bs v
 have f:=f.bs v
 have zr:=AA d
 refine Cx AY O ?_
 rintro C w eA_r b v -
 have d:=d.bs v
 have f:=f.bs v
 have u:=u.bs v
 refine Ab O<|Bh<|Aa (B9 (AT _) (AP _) O O ‹_›) O ?_
 have z_r:=AH b
 have zr:W.heap.size≤C:=by omega
 refine Aj O O (CY a.x a.y a.s a.l _ f.1 f.2) ?_
 rintro _ w ⟨rfl,v⟩
 have d:=d.bs v
 have f:=f.bs v
 have u:=u.bs v
 have b:=b.bs v
 refine Aa (Ck O) O<|Ac O ?_
 refine Cc 14 O ?_ ?_
 ·intro g
  have e:OZ a.s a.l n=1:=by unfold OZ e1;split;rfl;rw [if_neg];simp at g;simp [g]
  refine Ae (dj:=14) O O O O<|Ae (dj:=14) O O O O<|B4 O<|Ac O<|Ae (dj:=18) O O O O<|Ae (dj:=18) O O O O<|B4 O<|Ak<|Bz O<|Af<|C8 O<|Az (Bv (cs:=[.slice none 0 0, .slice none 0 0]) O O O O O b O) ?_
  rintro w9 ⟨b,T, -⟩
  have d:=d.grown T (AA d) (by rintro _ ⟨⟩;omega)
  refine Ab O<|Bu<|Bt O O O ‹_› underlying33 O O O ?_
  exact ⟨d,_,_,by rw [e],fun _=>⟨rfl,rfl⟩,fun h=>by rw [e] at h;cases h⟩
 intro g
 have J:tok a.s a.l=true:=by simpa using g
 refine Ag (dj:=14) O O<|Ac O<|Ag (dj:=14) O O<|B3 O<|Cn O<|Ac O ?_
 refine Cc 18 O ?_ ?_
 ·intro g
  have g' :=AD g
  have e:OZ a.s a.l n=1:=by unfold OZ;rw [if_pos (.inl g')]
  refine Ae (dj:=18) O O O O<|Ae (dj:=18) O O O O<|B4 O<|Ak<|Bz O<|Af<|C8 O<|Az (Bv (cs:=[.slice none 0 0, .slice none 0 0]) O O O O O b O) ?_
  rintro w9 ⟨b,T, -⟩
  have d:=d.grown T (AA d) (by rintro _ ⟨⟩;omega)
  refine Ab O<|Bu<|Bt O O O ‹_› underlying33 O O O ?_
  exact ⟨d,_,_,by rw [e],fun _=>⟨rfl,rfl⟩,fun h=>by rw [e] at h;cases h⟩
 intro g
 have g1:=AB g
 refine Ag (dj:=18) O O<|Ac O<|Ag (dj:=18) O O<|Aa (Dr O O) O<|Cn O<|Ak<|Aq O ?_ ?_
 ·intro g
  have g' :=AD g
  have e:OZ a.s a.l n=1:=by unfold OZ;rw [if_pos (.inr (by omega))]
  refine Af<|C8 O<|Az (Bv (cs:=[.slice none 0 0, .slice none 0 0]) O O O O O b O) ?_
  rintro w9 ⟨b,T, -⟩
  have d:=d.grown T (AA d) (by rintro _ ⟨⟩;omega)
  refine Ab O<|Bu<|Bt O O O ‹_› underlying33 O O O ?_
  exact ⟨d,_,_,by rw [e],fun _=>⟨rfl,rfl⟩,fun h=>by rw [e] at h;cases h⟩
 intro g
 have g2:=AB g
 have e0:OZ a.s a.l n=0:=by unfold OZ e1;rw [if_neg (by omega),if_pos J]
 rw [e0]
 obtain ⟨j,rfl⟩:=Int.eq_ofNat_of_zero_le (show 0≤n by omega)
 have hj:j≤31:=by omega
 have hp:=Nm j hj
 rw [Int.toNat_natCast]
 refine Co<|Ab O<|Bh<|Ab O<|Ak<|Ao ?_
 refine Bq (S:=Nat) (fun i=>[(1, .int .i64 (j:Int)),(2, .pointer (some ⟨U,0,none⟩)),(4, .pointer (some ⟨C,0,none⟩)),(5, .int .i64 0),(6, .int .i64 (2 ^ i)),(7, .int .i64 (i:Int))]) (fun i F=>i≤j∧w=F) (fun i=>j - i) (0) ⟨rfl,rfl,rfl,rfl,rfl,rfl,trivial⟩ ?_ ?_
 ·exact ⟨by omega,rfl⟩
 rintro i w2 ⟨hi,rfl⟩
 refine An<|Af<|Ac O<|Ac O<|B3 O<|Ak<|Aq O ?_ ?_
 ·intro h
  have k:i<j:=by simp at h;omega
  have hpi:=Nm i (by omega)
  refine B0<|An<|Ao<|Bw<|Ac O<|Aa (C6 O O (by omega)) O<|Ab O<|Bf<|Bn<|Ch<|Ac O<|B7 O (by omega)<|Ab O<|Bf ?_
  exact Ap (Pw.next (i+1) ⟨rfl,rfl,rfl,rfl,(by rw [Int.pow_succ,Int.mul_comm];rfl),rfl,trivial⟩ (⟨k,rfl⟩) (by omega))
 intro h
 have k:j=i:=by simp at h;omega
 subst k
 clear hi h
 refine Bp<|Al<|Al<|Bd<|Cm<|Be underlying33 O (AN _)<|Aa (Ah (AF _) O ‹_› rfl) O ?_
 have ka:=(BJ J).1
 have hsz:=Shapes.size_le a.s
 have la:=(BJ J).2
 have zr:=AA d
 refine Aj O O (Ii a.x a.s w f.1) ?_
 rintro r w3 ⟨I,o⟩
 obtain ⟨zx,Z,rfl,hz⟩:=KU ka o
 refine Ac O<|Aa (As (i:=0) O O) O<|Aa (As (i:=1) O O) O<|C1 (cs:=[zx,Z]) AY O O O O (fun _=>rfl) (hz.one) ?_
 rintro Y w4 z D B A
 have M:=ES hz z D B A I.size
 have R:=bt I B
 clear hz D o z I B A
 obtain ⟨N,hN⟩:∃N,N=(Shapes.size a.s).toNat:=⟨_,rfl⟩
 rw [← hN] at M la
 have p:(replicate N 0#32).length=N:=length_replicate
 obtain ⟨pl,G⟩:∃pl,pl=z1 (U9 j) a.s a.l:=⟨_,rfl⟩
 have K:pl.length=(replicate N 0#32).length:=by rw [G,Qz,p,hN]
 refine Ab O<|Bh<|Ab O<|Ak<|Ao ?_
 refine Bq (S:=Nat) (fun i=>[(1, .int .i64 (j:Int)),(2, .pointer (some ⟨U,0,none⟩)),(4, .pointer (some ⟨C,0,none⟩)),(5, .int .i64 0),(6, .int .i64 (2 ^ j)),(8, .pointer (some ⟨Y,0,none⟩)),(10, .int .i64 (i:Int))]) (fun i F=>i≤N∧Below w.heap.size w F∧FP F w.heap.size w4.heap.size Y zx Z a.s (pl.take i++(replicate N 0#32).drop i)) (fun i=>N - i) (0) ⟨rfl,rfl,rfl,rfl,rfl,rfl,rfl,trivial⟩ ?_ ?_
 ·exact ⟨by omega,R,by rw [GH];exact M⟩
 clear M R
 have zrw:=AH b
 rintro i w5 ⟨hi,Q,M⟩
 have D:=M.box
 have y_t:=M.sly
 have b_a5:=u.bs Q
 have y_a:=(f.bs Q).2
 have lt:(pl.take i++(replicate N 0#32).drop i).length=N:=by rw [HD K,p]
 refine An<|Af<|Ac O<|Be underlying33 O (BC _)<|Aa (Ah (BG _) O ‹_› rfl) O ?_
 refine Aa (Au AU O ‹_›) O ?_
 refine B3 O<|Ak<|Aq O ?_ ?_
 ·intro h
  have k:i<N:=by rw [lt] at h;simp at h;omega
  have hir:i<(replicate N 0#32).length:=by omega
  have L:pl.getD i default=U9 j (a.l.getD i default):=by rw [G];exact Wd (by omega)
  have H:(pl.take i++(replicate N 0#32).drop i).set i (U9 j (a.l.getD i default))=pl.take (i+1)++(replicate N 0#32).drop (i+1):=by rw [← L];exact HC K hir
  have x3:0≤(2:Int) ^ j / 2∧(2:Int) ^ j / 2≤2147483648:=by omega
  have x4:=Sr (a.l.getD i default)
  refine B0<|An<|Ao<|Cw.tail 18 AS (by kernel_rfl)<|Ad (fun l c=>Cd underlying33 O (BC _)) O<|Ad (fun l c=>Ah (BG _) O (AO.bs ‹_› c) O) O ?_
  refine Bg O<|Ad (fun l c=>Cd underlying33 O (BC _)) O<|Ad (fun l c=>Ah (BG _) O (AO.bs ‹_› c) O) O ?_
  refine Bg O<|Ad (fun l c=>Ay AU O O (Sl.bs ‹_› c) _ O (by omega)) O ?_
  refine Ad (fun l c=>Bj (CF _) O (Sl.bs ‹_› c) (by omega)) O ?_
  refine Ad (fun l c=>Ff Wf W7 O) O<|Bg O<|Ad (fun l c=>Dz O O (by omega) (by decide)) O<|Ad (fun l c=>De O O (by omega)) O<|Bg O<|C3 O O (fun l c=>(Vl _ _ l (by omega) (by omega)).q c)<|Ad (fun l c=>E5 O O) O<|Ad (fun l c=>F3 O O) O<|Ad (fun l c=>(Ez XV M1 O).as (WL j _ _ O)) O<|Ad (fun l c=>Ay AU O O (Sl.bs ‹_› c) _ O (by omega)) O ?_
  refine Dc (fun w6 c=> ?_)
  refine Az ((M.bs c).st (ER _) O O (by omega)) ?_
  rintro w7 ⟨M7,hg7, -⟩
  rw [H] at M7
  refine Bf<|Bn<|Ch<|Ac O<|B7 O (by omega)<|Ab O<|Bf ?_
  exact Ap (Pw.next (i+1) ⟨rfl,rfl,rfl,rfl,rfl,rfl,rfl,trivial⟩ (⟨k,(M.bs c).below (bt Q c) (AX _) hg7,M7⟩) (by omega))
 intro h
 have k:i=N:=by rw [lt] at h;simp at h;omega
 subst k
 have hall:pl.take i++(replicate i 0#32).drop i=pl:=by
  have:=HE K
  rwa [p] at this
 rw [hall] at M
 have b_t6:=M.box
 have X:=b.bs Q
 refine Bp<|Al<|Al<|Bd<|Cm<|Aa (B9 (AT _) (AP _) O O ‹_›) O ?_
 refine Az (Bv (cs:=[zx,Z]) O O O O (by simp [M.sh.one',M.sly.one']) X O) ?_
 rintro w9 ⟨b_r9,V, -⟩
 have M9:=M.keep V (by rintro _ ⟨⟩;omega)
 have zW:=AA d
 have hB9:=(bt d Q).grown V (AA (bt d Q)) (by rintro _ ⟨⟩;omega)
 refine Ab O<|Bc<|Bt O O O ‹_› underlying33 O O O ?_
 rw [← G]
 exact ⟨hB9,zx,Z,rfl,fun h=>absurd rfl h,fun _=>⟨M9.row.mono zW,BH M9.lst.own zW,M9.yx⟩⟩

def DV (a b:List Int):Int:=if Shapes.ok a && Shapes.ok b then (if a.length=2∧b.length=2∧a.getD 1 default=b.getD 0 default then 0 else 10) else 1
theorem KQ {a b:List Int} (h:Shapes.ok a=false∨Shapes.ok b=false):DV a b=1:=by
 unfold DV
 rw [if_neg]
 rcases h with h|h<;>simp [h]
theorem Ht {a b:List Int} (c:Shapes.ok a=true) (d:Shapes.ok b=true) (h:¬(a.length=2∧b.length=2∧a.getD 1 default=b.getD 0 default)):DV a b=10:=by
 unfold DV
 rw [c,d,if_neg h];rfl
theorem Ol {a b:List Int} (c:Shapes.ok a=true) (d:Shapes.ok b=true) (h:a.length=2∧b.length=2∧a.getD 1 default=b.getD 0 default):DV a b=0:=by
 unfold DV
 rw [c,d,if_pos h];rfl
def YK (W w:World) (r:Value) (a b:List Int):Prop:=
 ∃x,r= .tuple #[x, .int .i64 (DV a b)]∧(DV a b≠0→x= .slice none 0 0)∧(DV a b=0→w.ownsRow W.heap.size 3 1 x 2 ([a.getD 0 default,b.getD 1 default].map (Value.int .i64)))
theorem Oj (u v:Value) (a b:List Int) (W:World) (j:BS (Value.int .i64) W u a) (i:BS (Value.int .i64) W v b):
  AM prog 203 [u,v] W (fun r o=>Below W.heap.size W o∧YK W o r a b):=by
 have f:=Below.refl W.heap.size W
 refine Bb (n:=40) func203 O<|Af<|Ab O<|Ab O<|Ak<|An<|Ao<|Af<|Ac O<|Aj O O (EL u a _ j) ?_
 rintro _ w ⟨rfl,k⟩
 have f:=f.bs k
 have j:=j.bs k
 have i:=i.bs k
 refine Aa (Ck O) O<|Ac O ?_
 refine Cc 10 O ?_ ?_
 ·intro g
  have e:=KQ (a:=a) (b:=b) (.inl (by simpa using g))
  refine Ae (dj:=10) O O O O<|Ae (dj:=10) O O O O<|Ae (dj:=10) O O O O<|B4 O<|Ab O<|Ak<|Bz O<|Af<|Ab O<|Ab O<|Bc<|Bi<|Av<|Bx O O O ?_
  exact ⟨f,_,by rw [e],fun _=>rfl,fun h=>by rw [e] at h;cases h⟩
 intro g
 have l:Shapes.ok a=true:=by simpa using g
 refine Ag (dj:=10) O O<|Ac O<|Ag (dj:=10) O O<|Aj O O (EL v b _ i) ?_
 rintro _ w ⟨rfl,k⟩
 have f:=f.bs k
 have j:=j.bs k
 have i:=i.bs k
 refine Ag (dj:=10) O O<|Aa (Ck O) O<|Cn O<|Ab O<|Ak<|Aq O ?_ ?_
 ·intro g
  have e:=KQ (a:=a) (b:=b) (.inr (by simpa using g))
  refine Af<|Ab O<|Ab O<|Bc<|Bi<|Av<|Bx O O O ?_
  exact ⟨f,_,by rw [e],fun _=>rfl,fun h=>by rw [e] at h;cases h⟩
 intro g
 have m:Shapes.ok b=true:=by simpa using g
 refine An<|Cv AS (by kernel_rfl)<|Bg O<|Ad (fun d c=>Au AC O (Sl.bs ‹_› c)) O ?_
 refine Ad (fun d c=>Cs O O) O<|Bg O ?_
 refine Dm 19 O ?_ ?_
 ·intro g
  have e:DV a b=10:=Ht l m fun h=>by simp [h.1] at g
  refine Ar (dj:=19) O O O O<|Ar (dj:=19) O O O O<|Ar (dj:=19) O O O O<|Ad (fun d c=>Ct O O) O<|Bg O<|Ar (dj:=24) O O O O<|Ar (dj:=24) O O O O<|Ar (dj:=24) O O O O<|Ar (dj:=24) O O O O<|Ar (dj:=24) O O O O<|Ar (dj:=24) O O O O<|Ar (dj:=24) O O O O<|Ad (fun d c=>Ct O O) O<|Dk O ?_
  refine Cr (fun p c=> ?_)
  refine Ap<|B8<|Bz O<|Af<|Ab O<|Ab O<|Bc<|Bi<|Av<|Bx O O O ?_
  exact ⟨bt f c,_,by rw [e],fun _=>rfl,fun h=>by rw [e] at h;cases h⟩
 intro g
 have s:a.length=2:=by simp at g;omega
 refine Ba (dj:=19) O O<|Bg O<|Ba (dj:=19) O O<|Ad (fun d c=>Au AC O (Sl.bs ‹_› c)) O ?_
 refine Ba (dj:=19) O O<|Ad (fun d c=>Cs O O) O<|Ad (fun d c=>Cz O O) O<|Bg O ?_
 refine Dm 24 O ?_ ?_
 ·intro g
  have e:DV a b=10:=Ht l m fun h=>by simp [h.2.1] at g
  refine Ar (dj:=24) O O O O<|Ar (dj:=24) O O O O<|Ar (dj:=24) O O O O<|Ar (dj:=24) O O O O<|Ar (dj:=24) O O O O<|Ar (dj:=24) O O O O<|Ar (dj:=24) O O O O<|Ad (fun d c=>Ct O O) O<|Dk O ?_
  refine Cr (fun p c=> ?_)
  refine Ap<|B8<|Bz O<|Af<|Ab O<|Ab O<|Bc<|Bi<|Av<|Bx O O O ?_
  exact ⟨bt f c,_,by rw [e],fun _=>rfl,fun h=>by rw [e] at h;cases h⟩
 intro g
 have lb:b.length=2:=by simp at g;omega
 refine Ba (dj:=24) O O<|Bg O<|Ba (dj:=24) O O<|Ad (fun d c=>Ay AC O O (Sl.bs ‹_› c) 1 O (by omega)) O ?_
 refine Ba (dj:=24) O O<|Ad (fun d c=>Bj (AK _) O (Sl.bs ‹_› c) (by omega)) O ?_
 refine Ba (dj:=24) O O<|Bg O<|Ba (dj:=24) O O<|Ad (fun d c=>Ay AC O O (Sl.bs ‹_› c) 0 O (by omega)) O ?_
 refine Ba (dj:=24) O O<|Ad (fun d c=>Bj (AK _) O (Sl.bs ‹_› c) (by omega)) O ?_
 refine Ba (dj:=24) O O<|Ad (fun d c=>Cs O O) O<|Ad (fun d c=>Cz O O) O<|Dk O ?_
 refine Cr (fun p c=> ?_)
 refine Ap<|B8<|Aq O ?_ ?_
 ·intro g
  have e:DV a b=10:=Ht l m fun h=>by simp at g;exact g (by simpa using h.2.2)
  refine Af<|Ab O<|Ab O<|Bc<|Bi<|Av<|Bx O O O ?_
  exact ⟨bt f c,_,by rw [e],fun _=>rfl,fun h=>by rw [e] at h;cases h⟩
 intro g
 have e:DV a b=0:=Ol l m ⟨s,lb,by simpa using g⟩
 have f:=f.bs c
 have j:=j.bs c
 have i:=i.bs c
 clear c
 refine Cp<|Bn<|Ap<|B8<|An<|Cw.tail 6 AS (by kernel_rfl)<|Bg O<|Ad (fun d c=>Ay AC O O (Sl.bs ‹_› c) 0 O (by omega)) O ?_
 refine Ad (fun d c=>Bj (AK _) O (Sl.bs ‹_› c) (by omega)) O ?_
 refine Bg O<|Ad (fun d c=>Ay AC O O (Sl.bs ‹_› c) 1 O (by omega)) O ?_
 refine Ad (fun d c=>Bj (AK _) O (Sl.bs ‹_› c) (by omega)) O ?_
 refine Dc (fun y c=> ?_)
 have f:=f.bs c
 have j:=j.bs c
 have i:=i.bs c
 refine Bk (Dl (vs:=[a.getD 0 default,b.getD 1 default].map (Value.int .i64)) AC DI O O O O O) O ?_
 rintro x t ⟨q, -,k, -⟩
 have z:=f.size
 have f:=f.bs k
 have j:=j.bs k
 have i:=i.bs k
 exact Ab rfl<|Ab rfl<|Bc<|Bx rfl rfl rfl<|⟨f,x,by rw [e],fun h=>absurd e h,fun _=>BH q z⟩
theorem RI (w:World):AM prog 205 [] w (fun r b=>r= .func (.func 239) #[] #[.pointer (some ⟨w.heap.size,0,none⟩)]∧AO b w.heap.size 21 [i32 0#32]∧Below w.heap.size w b∧b.heap.size=w.heap.size+1):=by
 refine Bb (n:=3) func205 O<|Af<|Ab O<|Bl<|Lw.boxed1 (u:=i32 0#32) DY ER O (fun _=>rfl) (rfl) ?_
 rintro e g a c f d
 subst a
 exact Bl<|Aa (Ef (vs:=[]) (us:=[.pointer (some ⟨w.heap.size,0,none⟩)]) rfl rfl) rfl<|Ab rfl<|Bc<|Ax rfl rfl<|⟨rfl,c,f,d⟩
theorem TN (A:Nat) (s x y:BitVec 32) (w:World) (c:AO w A 21 [i32 s]):AM prog 239 [i32 x,i32 y, .pointer (some ⟨A,0,none⟩)] w (fun r a=>r=i32 (s+x*y)∧AO a A 21 [i32 (s+x*y)]∧w.grownBy a (some A)):=by
 refine Bb (n:=12) func239 O<|Af<|Aa (Cf (show _=some (i32 (0#32)) from rfl)) O<|Bl<|Aa (Ah (CF _) O ‹_› rfl) O ?_
 refine Ac O<|Ac O<|Aa (En O O) O<|Aa (D7 O O) O<|Az (Dj (u:=i32 (s+x*y)) (ER _) O O O c (by simp)) ?_
 rintro e ⟨b,d, -⟩
 refine Bl<|Aa (Ah (CF _) O ‹_› rfl) O ?_
 exact Ab rfl<|Bc<|Ax rfl rfl<|⟨rfl,b,d⟩
def Hw (a b:T4):Int:=if tok a.s a.l && tok b.s b.l then DV a.s b.s else 1
def L2 (a b:T4):List (BitVec 32):=Vn (a.s.getD 0 default).toNat (b.s.getD 0 default).toNat (b.s.getD 1 default).toNat a.l b.l
theorem EK {s:List Int} (h:Shapes.ok s=true) {i:Nat} (a:i<s.length):1≤s.getD i default∧s.getD i default≤64:=by
 have:=((Shapes.ok_iff s).1 h).2.1 s[i] (getElem_mem a)
 simpa [a] using this
theorem MY {m n:Int} (b:1≤m∧m≤64) (c:1≤n∧n≤64) (h:m*n≤4096):Shapes.ok [m,n]=true:=by
 rw [Shapes.ok_iff]
 refine ⟨by simp,fun x a=> ?_,by simp [Shapes.prod];omega⟩
 simp at a
 rcases a with rfl|rfl<;>assumption
theorem Wo {m n:Int} (a:1≤m∧m≤64) (b:1≤n∧n≤64):1≤m*n∧m*n≤4096:=by
 have e1:=Int.mul_le_mul a.1 b.1 (by omega) (by omega)
 have e2:=Int.mul_le_mul a.2 b.2 (by omega) (by omega)
 omega
theorem Vt {α:Type} [Inhabited α] {l:List α} (h:l.length=2):l=[l.getD 0 default,l.getD 1 default]:=by
 match l,h with
 |[a,b],_=>rfl
theorem Ih {s:List Int} (h:Shapes.ok s=true) (a:s.length=2):Shapes.size s=s.getD 0 default*s.getD 1 default:=by
 rw [Shapes.size_ok h]
 conv=>lhs;rw [Vt a]
 simp [Shapes.prod]
def Wb (W w:World) (r:Value) (e:Int) (s:List Int) (l:List (BitVec 32)):Prop:=
 ∃x y,r= .tuple #[.agg #[x,y], .int .i64 e]∧(e≠0→x= .slice none 0 0∧y= .slice none 0 0)∧(e=0→DA W w x y s l)
theorem Wb.gets {W w:World} {r:Value} {e:Int} {s:List Int} {l:List (BitVec 32)} (h:Wb W w r e s l):IM W w r e s l:=by
 obtain ⟨x,y,rfl,b,a⟩:=h
 by_cases he:e=0
 ·exact ⟨⟨x,y,s,l⟩,rfl,(a he).at,fun h=>absurd he h,fun _=>⟨rfl,rfl,a he⟩⟩
 ·obtain ⟨rfl,rfl⟩:=b he
  exact ⟨⟨_,_,[],[]⟩,rfl,Xf w,fun _=>⟨rfl,rfl,rfl,rfl⟩,fun h=>absurd h he⟩
theorem Vm (a b:T4) (W:World) (q:a.at W) (l:b.at W):
  AM prog 115 [a.v,b.v] W (fun r D=>Below W.heap.size W D∧Wb W D r (Hw a b) [a.s.getD 0 default,b.s.getD 1 default] (L2 a b)):=by
 have t:=Below.refl W.heap.size W
 refine Bb (n:=94) func115 O<|Af<|B5 (cs:=[a.x,a.y]) O O O ?_
 rintro A_a w eA_a v o -
 have t:=t.bs o
 have q:=q.bs o
 have l:=l.bs o
 refine B5 (cs:=[b.x,b.y]) O O O ?_
 rintro A_b w eA_b z o -
 have t:=t.bs o
 have q:=q.bs o
 have l:=l.bs o
 have v:=v.bs o
 have z0:=AA t
 refine Cx AY O ?_
 rintro A_r w eA_r d o -
 have t:=t.bs o
 have q:=q.bs o
 have l:=l.bs o
 have v:=v.bs o
 have z:=z.bs o
 refine Ab O<|Bh<|Aa (B9 (AT _) (AP _) O O ‹_›) O ?_
 have z_r:=AH d
 have zr:W.heap.size≤A_r:=by omega
 refine Aj O O (DS a.x a.y a.s a.l _ q.1 q.2) ?_
 rintro _ w ⟨rfl,o⟩
 have t:=t.bs o
 have q:=q.bs o
 have l:=l.bs o
 have v:=v.bs o
 have z:=z.bs o
 have d:=d.bs o
 refine Aa (Ck O) O<|Ac O ?_
 refine Cc 20 O ?_ ?_
 ·intro g
  have e:Hw a b=1:=by unfold Hw;rw [if_neg];simp at g;simp [g]
  refine Ae (dj:=20) O O O O<|Ae (dj:=20) O O O O<|Ae (dj:=20) O O O O<|B4 O<|Ak<|Bz O<|Af<|C8 O ?_
  have b_r1:=d
  refine Az (Bv (cs:=[.slice none 0 0, .slice none 0 0]) O O O O O d O) ?_
  rintro w9 ⟨d,hg, -⟩
  have t:=t.grown hg (AA t) (by rintro _ ⟨⟩;omega)
  refine Ab O<|Bu<|Bt O O O ‹_› underlying33 O O O ?_
  exact ⟨t,_,_,by rw [e],fun _=>⟨rfl,rfl⟩,fun h=>by rw [e] at h;cases h⟩
 intro g
 have Z:tok a.s a.l=true:=by simpa using g
 refine Ag (dj:=20) O O<|Aa (B9 (AT _) (AP _) O O ‹_›) O ?_
 refine Ag (dj:=20) O O<|Aj O O (DS b.x b.y b.s b.l _ l.1 l.2) ?_
 rintro _ w ⟨rfl,o⟩
 have t:=t.bs o
 have q:=q.bs o
 have l:=l.bs o
 have v:=v.bs o
 have z:=z.bs o
 have d:=d.bs o
 refine Ag (dj:=20) O O<|Aa (Ck O) O<|Cn O<|Ak<|Aq O ?_ ?_
 ·intro g
  have e:Hw a b=1:=by unfold Hw;rw [if_neg];simp at g;simp [g]
  refine Af<|C8 O ?_
  have b_r1:=d
  refine Az (Bv (cs:=[.slice none 0 0, .slice none 0 0]) O O O O O d O) ?_
  rintro w9 ⟨d,hg, -⟩
  have t:=t.grown hg (AA t) (by rintro _ ⟨⟩;omega)
  refine Ab O<|Bu<|Bt O O O ‹_› underlying33 O O O ?_
  exact ⟨t,_,_,by rw [e],fun _=>⟨rfl,rfl⟩,fun h=>by rw [e] at h;cases h⟩
 intro g
 have V:tok b.s b.l=true:=by simpa using g
 have ee:Hw a b=DV a.s b.s:=by unfold Hw;rw [Z,V];rfl
 refine Co<|Be underlying33 O (AN _)<|Aa (Ah (AF _) O ‹_› rfl) O ?_
 refine Be underlying33 O (AN _)<|Aa (Ah (AF _) O ‹_› rfl) O ?_
 refine Aj O O (Oj a.x b.x a.s b.s w q.1 l.1) ?_
 rintro _ w ⟨o,sv,rfl,hs1,hs2⟩
 have z2:=AA t
 have t:=t.bs o
 have q:=q.bs o
 have l:=l.bs o
 have v:=v.bs o
 have z:=z.bs o
 have d:=d.bs o
 refine Ac O<|Aa (As (i:=0) O O) O<|Aa (As (i:=1) O O) O<|Ab O<|Ab O<|Bh<|Ac O<|Aa (Cs O O) O<|Ak<|Aq O ?_ ?_
 ·intro g
  have hne:DV a.s b.s≠0:=by simpa using g
  refine Af<|C8 O<|Ac O<|Az (Bv (cs:=[.slice none 0 0, .slice none 0 0]) O O O O O d O) ?_
  rintro w9 ⟨d,hg, -⟩
  have t:=t.grown hg (AA t) (by rintro _ ⟨⟩;omega)
  refine Ab O<|Bu<|Bt O O O ‹_› underlying33 O O O ?_
  exact ⟨t,_,_,by rw [ee],fun _=>⟨rfl,rfl⟩,fun h=>absurd (ee ▸ h) hne⟩
 intro g
 have e0:DV a.s b.s=0:=by simpa using g
 have hsv:=hs2 e0
 have e0' :=ee.trans e0
 obtain ⟨la,lb,hmid⟩:a.s.length=2∧b.s.length=2∧a.s.getD 1 default=b.s.getD 0 default:=by
  have:=e0
  unfold DV at this
  rw [(BJ Z).1,(BJ V).1] at this
  simp only [Bool.and_self,if_true] at this
  split at this
  ·assumption
  ·cases this
 have ka:=(BJ Z).1
 have kb:=(BJ V).1
 have d0:=EK ka (i:=0) (by omega)
 have d1:=EK kb (i:=1) (by omega)
 have d2:=EK kb (i:=0) (by omega)
 obtain ⟨m,hm⟩:∃m:Nat,(m:Int)=a.s.getD 0 default:=⟨(a.s.getD 0 default).toNat,by omega⟩
 obtain ⟨n,C⟩:∃n:Nat,(n:Int)=b.s.getD 1 default:=⟨(b.s.getD 1 default).toNat,by omega⟩
 obtain ⟨k,hk⟩:∃k:Nat,(k:Int)=b.s.getD 0 default:=⟨(b.s.getD 0 default).toNat,by omega⟩
 have hL:L2 a b=Vn m k n a.l b.l:=by unfold L2;rw [← hm,← C,← hk];rfl
 have hmn:=Wo d0 d1
 rw [← hm,← C] at hmn
 have hok:Shapes.ok [(m:Int),(n:Int)]=true:=by rw [hm,C];exact MY d0 d1 (by rw [← hm,← C];exact hmn.2)
 have hsz:(Shapes.size [(m:Int),(n:Int)]).toNat=m*n:=by
  rw [Shapes.size_ok hok]
  simp [Shapes.prod]
  exact_mod_cast Int.toNat_natCast (m*n)
 have la2:a.l.length=m*k:=by
  have h1:=(BJ Z).2
  rw [Ih ka la,hmid,← hm,← hk] at h1
  rw [h1];exact_mod_cast Int.toNat_natCast (m*k)
 have lb2:b.l.length=k*n:=by
  have h1:=(BJ V).2
  rw [Ih kb lb,← C,← hk] at h1
  rw [h1];exact_mod_cast Int.toNat_natCast (k*n)
 rw [← hm,← C] at hsv
 rw [e0']
 have sl_s:=AQ hsv
 refine Co<|Ac O<|Aj O O (Ot sv [(m:Int),(n:Int)] w sl_s) ?_
 rintro r w3 ⟨hn3,B⟩
 obtain ⟨zx,zy,rfl,hz⟩:∃x y,r= .tuple #[.agg #[x,y], .int .i64 0]∧DA w w3 x y [(m:Int),(n:Int)] (replicate (m*n) 0#32):=by
  rw [hsz] at B
  rcases B with ⟨_,h⟩|⟨h,_⟩
  ·exact h
  ·rw [hok] at h;cases h
 refine Ac O<|Aa (As (i:=0) O O) O<|Aa (As (i:=1) O O) O<|C1 (cs:=[zx,zy]) AY O O O O (fun _=>rfl) (hz.one) ?_
 rintro T w4 eA_t b_t hn4 zhn4
 have M:=ES hz eA_t b_t hn4 zhn4 hn3.size
 have E:=bt hn3 hn4
 clear hz b_t B eA_t
 have b_a4:=v.bs E
 have b_b4:=z.bs E
 have s4:=sl_s.bs E
 have x4:=(l.bs E).1
 have hz4:=E.size
 refine Ab O<|Ak<|An<|Cv AS (by kernel_rfl)<|Ad (fun u H=>Cd underlying33 O (AN _)) O<|Ad (fun u H=>Ah (AF _) O (AO.bs ‹_› H) O) O ?_
 refine Ad (fun u H=>Dn AC O O x4.shp 0 O (by omega)) O<|Ad (fun u H=>(Bj (AK _) O (x4.bs H) (by omega)).as (cngA (Value.int .i64) hk.symm)) O<|Bg O<|Ad (fun u H=>Dn AC O O s4.shp 1 O (by simp)) O<|Ad (fun u H=>Bj (AK _) O (s4.bs H) (by simp)) O<|Dk O<|Dk O ?_
 refine Cr (fun w5 H=> ?_)
 refine Ap<|B8<|An<|An ?_
 have hw5:=bt E H
 have hs5:=H.size
 have M:=M.bs H
 have b_t5:=M.box
 have l5:=M.sly
 clear H b_a4 b_b4 s4 x4 hn3 hn4 zhn4
 have A:(replicate (m*n) 0#32).length=m*n:=by rw [length_replicate]
 refine Bw<|Be underlying33 O (BC _)<|Aa (Ah (BG _) O ‹_› rfl) O ?_
 refine Aa ((Au (sz:=1) AU O l5).as (cngA (fun j:Nat=>Value.int .i64 (j:Int)) A)) O<|Ac O<|Ak<|Ao ?_
 obtain ⟨pl,hpl⟩:∃pl,pl=Vn m k n a.l b.l:=⟨_,rfl⟩
 have npl:pl.length=(replicate (m*n) 0#32).length:=by rw [hpl,Ji,A]
 refine Bq (S:=Nat) (fun i=>[(2, .pointer (some ⟨A_a,0,none⟩)),(3, .pointer (some ⟨A_b,0,none⟩)),(4, .pointer (some ⟨A_r,0,none⟩)),(5, .int .i64 0),(8, .pointer (some ⟨T,0,none⟩)),(10, .int .i64 (k:Int)),(11, .int .i64 (n:Int)),(52, .int .i64 ((m*n:Nat):Int)),(53, .int .i64 (i:Int))]) (fun i D=>i≤m*n∧w4.heap.size≤D.heap.size∧Below w.heap.size w D∧FP D w.heap.size w4.heap.size T zx zy [(m:Int),(n:Int)] (pl.take i++(replicate (m*n) 0#32).drop i)) (fun i=>m*n - i) (0) ⟨rfl,rfl,rfl,rfl,rfl,rfl,rfl,rfl,rfl,trivial⟩ ?_ ?_
 ·exact ⟨by omega,hs5,hw5,by rw [GH];exact M⟩
 clear M l5 b_t5 hw5
 have y_a:=q.2
 have y_b:=l.2
 have zrw:=AH d
 rintro i w6 ⟨hi,hs6,I,M⟩
 refine Af<|B3 O<|Ak<|An<|Aq O ?_ ?_
 ·intro h
  have F:i<m*n:=by simp at h;omega
  obtain ⟨r1,r2,r3⟩:=Wx F
  have hir:i<(replicate (m*n) 0#32).length:=by rw [A];exact F
  refine B0<|An<|Ao<|Af<|Ac O<|Ab O<|Ak<|An ?_
  refine Cw.any AS (fun w7 hd _=> ?_)
  have hw7:=bt I hd
  have M7:=M.bs hd
  refine Aw.take (i:=1) (Am (Bs (Am (Am (Bs (Am Bo)))))) O (by kernel_rfl) (by kernel_rfl) (by kernel_rfl) (fun _=>B6 O) O<|Aw.take (i:=2) (Am (Bs (Am (Am (Bs (Am Bo)))))) O (by kernel_rfl) (by kernel_rfl) (by kernel_rfl) (fun _=>B6 O) O<|Aw.take (i:=3) (Am (Bs (Am (Am (Bs (Am Bo)))))) O (by kernel_rfl) (by kernel_rfl) (by kernel_rfl) (fun _=>Ex.quoN O O (by omega) (by omega)) O<|Aw.take (i:=4) (Am (Bs (Am (Am (Bs (Am Bo)))))) O (by kernel_rfl) (by kernel_rfl) (by kernel_rfl) (fun _=>B6 O) O<|Aw.take (i:=5) (Am (Bs (Am (Am (Bs (Am Bo)))))) O (by kernel_rfl) (by kernel_rfl) (by kernel_rfl) (fun _=>B6 O) O<|Aw.take (i:=6) (Am (Bs (Am (Am (Bs (Am Bo)))))) O (by kernel_rfl) (by kernel_rfl) (by kernel_rfl) (fun _=>Ex.remN O O (by omega)) O<|Aw.only (i:=0) (by kernel_rfl) O<|Aj O O (RI w7) ?_
  rintro _ w8 ⟨rfl,R,Y,zhn8⟩
  have hw8:=bt hw7 Y
  have M8:=M7.bs Y
  have z7:=hd.size
  have z8:=Y.size
  obtain ⟨G,hG⟩:∃G,G=w7.heap.size:=⟨_,rfl⟩
  rw [← hG] at R
  rw [← hG]
  obtain ⟨f,hf⟩:∃f:Nat→BitVec 32,f=fun p=>a.l.getD (i / n*k+p) default*b.l.getD (p*n+i % n) default:=⟨_,rfl⟩
  obtain ⟨c,X⟩:∃c,c=pl.take i++(replicate (m*n) 0#32).drop i:=⟨_,rfl⟩
  have lc:c.length=m*n:=by rw [X,HD npl,A]
  have hfull:pl.getD i default=sm k f:=by
   have:=Ti (k:=k) a.l b.l r1 r2
   rw [r3] at this
   rw [hpl,hf]
   exact this
  have hzero:c.set i (sm 0 f)=c:=by
   have h1:c.getD i default=0#32:=by rw [X,Sv npl hir,OF F]
   refine SX ?_ ?_
   ·omega
   ·rw [h1];rfl
  have hlast:c.set i (sm k f)=pl.take (i+1)++(replicate (m*n) 0#32).drop (i+1):=by rw [← hfull,X];exact HC npl hir
  rw [← X] at M8
  refine Aw.back<|Aw.take (i:=7) (Am (Bs (Am (Am (Bs (Am Bo)))))) O (by kernel_rfl) (by kernel_rfl) (by kernel_rfl) (fun _=>Cf O) O<|Aw.take (i:=8) (Am (Bs (Am (Am (Bs (Am Bo)))))) O (by kernel_rfl) (by kernel_rfl) (by kernel_rfl) (fun _=>Cf O) O<|Aw.take (i:=9) (Am (Bs (Am (Am (Bs (Am Bo)))))) O (by kernel_rfl) (by kernel_rfl) (by kernel_rfl) (fun _=>Cf O) O<|Ea (by kernel_rfl)<|Cm<|Ac O<|Ac O<|Ak<|Ao ?_
  refine Bq (S:=Nat) (fun p=>[(2, .pointer (some ⟨A_a,0,none⟩)),(3, .pointer (some ⟨A_b,0,none⟩)),(4, .pointer (some ⟨A_r,0,none⟩)),(5, .int .i64 0),(8, .pointer (some ⟨T,0,none⟩)),(10, .int .i64 (k:Int)),(11, .int .i64 (n:Int)),(12, .int .i64 (i:Int)),(13, .func (.func 239) #[] #[.pointer (some ⟨G,0,none⟩)]),(14, .int .i64 ((i / n:Nat):Int)),(15, .int .i64 ((i % n:Nat):Int)),(52, .int .i64 ((m*n:Nat):Int)),(53, .int .i64 (i:Int)),(63, .int .i64 (k:Int)),(64, .int .i64 (p:Int))]) (fun p D=>p≤k∧w4.heap.size≤D.heap.size∧Below w.heap.size w D∧FP D w.heap.size w4.heap.size T zx zy [(m:Int),(n:Int)] (c.set i (sm p f))∧AO D G 21 [i32 (sm p f)]) (fun p=>k - p) (0) ⟨rfl,rfl,rfl,rfl,rfl,rfl,rfl,rfl,rfl,rfl,rfl,rfl,rfl,rfl,rfl,trivial⟩ ?_ ?_
  ·exact ⟨by omega,by omega,hw8,by rw [hzero];exact M8,R⟩
  clear M M7 M8 R hw7 hw8 hd Y
  rintro p w9 ⟨hp,hs9,hw9,M,R⟩
  refine Af<|B3 O<|Ak<|An<|Aq O ?_ ?_
  ·intro h
   have J:p<k:=by simp at h;omega
   have hab:i / n*k+p<a.l.length:=by rw [la2];exact IU r1 J
   have hbb:p*n+i % n<b.l.length:=by rw [lb2];exact IU J r2
   have hla:=y_a.le
   have hlb:=y_b.le
   refine B0<|An<|Ao<|Af<|Ac O<|Ab O<|Ak ?_
   refine Cw.any AS (fun w10 hd _=> ?_)
   have N:=bt hw9 hd
   have M10:=M.bs hd
   have b_g10:=R.bs hd
   have z10:=hd.size
   refine Dh (fun D=>Below w.heap.size w D∧AO D T 33 [zx,zy]) (fun hC=> ?_) (⟨N,M10.box⟩)
   refine Cj (Bs (Am (Am (Bs (Bs (Am (Am (Bs (Am Bo)))))))))<|Ai 0 O (fun u s=>Cd underlying33 O (BC _)) O<|Ai 1 O (fun u s=>Ah (BG _) O (by first|exact AO.bs ‹_› s.1|exact s.2) O) O<|Ai 2 O (fun u s=>B6 O) O<|Ai 3 O (fun u s=>B6 O) O<|Ai 4 O (fun u s=>Cd underlying33 O (BC _)) O<|Ai 5 O (fun u s=>Ah (BG _) O (by first|exact AO.bs ‹_› s.1|exact s.2) O) O<|Ai 6 O (fun u s=>B6 O) O<|Ai 7 O (fun u s=>B6 O) O<|Ai 8 O (fun u s=>Fc O O (by omega)) O<|Ai 9 O (fun u s=>B6 O) O<|Ai 10 O (fun u s=>Fh O O (by omega)) O<|Ai 11 O (fun u s=>Ay AU O O (y_a.bs s.1) _ O hab) O<|Ai 12 O (fun u s=>Bj (CF _) O (y_a.bs s.1) hab) O<|Ai 13 O (fun u s=>Cd underlying33 O (BC _)) O<|Ai 14 O (fun u s=>Ah (BG _) O (by first|exact AO.bs ‹_› s.1|exact s.2) O) O<|Ai 15 O (fun u s=>B6 O) O<|Ai 16 O (fun u s=>B6 O) O<|Ai 17 O (fun u s=>Fc O O (by omega)) O<|Ai 18 O (fun u s=>B6 O) O<|Ai 19 O (fun u s=>Fh O O (by omega)) O<|Ai 20 O (fun u s=>Ay AU O O (y_b.bs s.1) _ O hbb) O<|Ai 21 O (fun u s=>Bj (CF _) O (y_b.bs s.1) hbb) O<|Cb ?_
   refine AZ.only ‹_› (i:=22) (by kernel_rfl) O ?_
   refine Ec (p:=[]) O O O (TN G (sm p f) _ _ w10 b_g10) ?_
   rintro _ w11 ⟨rfl,L,Q⟩
   have U:=M10.keep Q (by rintro _ ⟨⟩;omega)
   have hw11:=N.grown Q (AA N) (by rintro _ ⟨⟩;have:=AA I;omega)
   have z11:=Q.size
   have hC11:=And.intro hw11 U.box
   have hsm:sm p f+a.l.getD (i / n*k+p) default*b.l.getD (p*n+i % n) default=sm (p+1) f:=by rw [sm,hf]
   rw [hsm] at L
   rw [hsm]
   refine AZ.back<|Cj (Bs (Am (Am (Bs (Bs (Am (Am (Bs (Am Bo)))))))))<|Ai 23 O (fun u s=>Dn AU O O M10.sly.shp i O (by rw [length_set];omega)) O<|Cb<|AZ.only ‹_› (i:=24) (by kernel_rfl) O ?_
   refine Az (U.st (ER _) O O (by rw [length_set];omega)) ?_
   rintro w12 ⟨M12,K, -⟩
   have hw12:=U.below hw11 (AX _) K
   have b_g12:=L.by K (fun e=>by have:=U.lst.blk _ e.symm;omega)
   have z12:=K.size
   have hC12:=And.intro hw12 M12.box
   rw [set_set] at M12
   refine AZ.back<|Cu ‹_› (by kernel_rfl) ?_
   refine Bn<|Ch<|B7 O (by omega)<|Ac O<|Bf ?_
   exact Ap (Pw.next (p+1) ⟨rfl,rfl,rfl,rfl,rfl,rfl,rfl,rfl,rfl,rfl,rfl,rfl,rfl,rfl,rfl,trivial⟩ (⟨J,by omega,hw12,M12,b_g12⟩) (by omega))
  intro h
  have J:p=k:=by simp at h;omega
  subst J
  rw [hlast] at M
  refine Bp<|Al<|Al<|Bd<|Bn<|Ch<|B7 O (by omega)<|Ac O<|Bf ?_
  exact Ap (Pw.next (i+1) ⟨rfl,rfl,rfl,rfl,rfl,rfl,rfl,rfl,rfl,trivial⟩ (⟨F,hs9,hw9,M⟩) (by omega))
 intro h
 have F:i=m*n:=by simp at h;omega
 subst F
 have hall:pl.take (m*n)++(replicate (m*n) 0#32).drop (m*n)=pl:=by
  have:=HE npl
  rwa [A] at this
 rw [hall] at M
 have b_t6:=M.box
 have b_r6:=d.bs I
 refine Bp<|Al<|Al<|Bd<|Cm<|Aa (B9 (AT _) (AP _) O O ‹_›) O ?_
 refine Az (Bv (cs:=[zx,zy]) O O O O (by simp [M.sh.one',M.sly.one']) b_r6 O) ?_
 rintro w9 ⟨b_r9,hg9, -⟩
 have M9:=M.keep hg9 (by rintro _ ⟨⟩;omega)
 have zW:=AA t
 have hB9:=(bt t I).grown hg9 (AA (bt t I)) (by rintro _ ⟨⟩;omega)
 refine Ab O<|Bc<|Bt O O O ‹_› underlying33 O O O ?_
 rw [← hm,← C,hL,← hpl]
 exact ⟨hB9,zx,zy,rfl,fun h=>absurd rfl h,fun _=>⟨M9.row.mono zW,BH M9.lst.own zW,M9.yx⟩⟩
theorem WZ (a b:T4) (W:World) (d:a.at W) (c:b.at W):
  AM prog 115 [a.v,b.v] W (fun r e=>Below W.heap.size W e∧IM W e r (Hw a b) [a.s.getD 0 default,b.s.getD 1 default] (L2 a b)):=
 (Vm a b W d c).mono fun _ _ ⟨g,f⟩=>⟨g,f.gets⟩

theorem M6 (u v:Value) (a b:List Int) (W:World) (j:BS (Value.int .i64) W u a) (i:BS (Value.int .i64) W v b):
  AM prog 143 [u,v] W (fun r o=>Below W.heap.size W o∧YK W o r a b):=by
 have f:=Below.refl W.heap.size W
 refine Bb (n:=38) func143 O<|Af<|Ab O<|Ab O<|Bh<|Ac O<|Aj O O (CV u a _ j) ?_
 rintro _ w ⟨rfl,k⟩
 have f:=f.bs k
 have j:=j.bs k
 have i:=i.bs k
 refine Aa (Ck O) O<|Ac O ?_
 refine Cc 9 O ?_ ?_
 ·intro g
  have e:=KQ (a:=a) (b:=b) (.inl (by simpa using g))
  refine Ae (dj:=9) O O O O<|Ae (dj:=9) O O O O<|Ae (dj:=9) O O O O<|B4 O<|Ak<|Bz O<|Af<|Ab O<|Ab O<|Bu<|Bx O O O ?_
  exact ⟨f,_,by rw [e],fun _=>rfl,fun h=>by rw [e] at h;cases h⟩
 intro g
 have l:Shapes.ok a=true:=by simpa using g
 refine Ag (dj:=9) O O<|Ac O<|Ag (dj:=9) O O<|Aj O O (CV v b _ i) ?_
 rintro _ w ⟨rfl,k⟩
 have f:=f.bs k
 have j:=j.bs k
 have i:=i.bs k
 refine Ag (dj:=9) O O<|Aa (Ck O) O<|Cn O<|Ak<|Aq O ?_ ?_
 ·intro g
  have e:=KQ (a:=a) (b:=b) (.inr (by simpa using g))
  refine Af<|Ab O<|Ab O<|Bu<|Bx O O O ?_
  exact ⟨f,_,by rw [e],fun _=>rfl,fun h=>by rw [e] at h;cases h⟩
 intro g
 have m:Shapes.ok b=true:=by simpa using g
 refine B0<|An<|An<|Cv AS (by kernel_rfl)<|Bg O<|Ad (fun d c=>Au AC O (Sl.bs ‹_› c)) O ?_
 refine Ad (fun d c=>Cs O O) O<|Bg O ?_
 refine Dm 17 O ?_ ?_
 ·intro g
  have e:DV a b=10:=Ht l m fun h=>by simp [h.1] at g
  refine Ar (dj:=17) O O O O<|Ar (dj:=17) O O O O<|Ar (dj:=17) O O O O<|Ad (fun d c=>Ct O O) O<|Bg O<|Ar (dj:=22) O O O O<|Ar (dj:=22) O O O O<|Ar (dj:=22) O O O O<|Ar (dj:=22) O O O O<|Ar (dj:=22) O O O O<|Ar (dj:=22) O O O O<|Ar (dj:=22) O O O O<|Ad (fun d c=>Ct O O) O ?_
  refine Cr (fun p c=> ?_)
  refine Ap<|B8<|Bz O<|Af<|Ab O<|Ab O<|Bu<|Bx O O O ?_
  exact ⟨bt f c,_,by rw [e],fun _=>rfl,fun h=>by rw [e] at h;cases h⟩
 intro g
 have s:a.length=2:=by simp at g;omega
 refine Ba (dj:=17) O O<|Bg O<|Ba (dj:=17) O O<|Ad (fun d c=>Au AC O (Sl.bs ‹_› c)) O ?_
 refine Ba (dj:=17) O O<|Ad (fun d c=>Cs O O) O<|Ad (fun d c=>Cz O O) O<|Bg O ?_
 refine Dm 22 O ?_ ?_
 ·intro g
  have e:DV a b=10:=Ht l m fun h=>by simp [h.2.1] at g
  refine Ar (dj:=22) O O O O<|Ar (dj:=22) O O O O<|Ar (dj:=22) O O O O<|Ar (dj:=22) O O O O<|Ar (dj:=22) O O O O<|Ar (dj:=22) O O O O<|Ar (dj:=22) O O O O<|Ad (fun d c=>Ct O O) O ?_
  refine Cr (fun p c=> ?_)
  refine Ap<|B8<|Bz O<|Af<|Ab O<|Ab O<|Bu<|Bx O O O ?_
  exact ⟨bt f c,_,by rw [e],fun _=>rfl,fun h=>by rw [e] at h;cases h⟩
 intro g
 have lb:b.length=2:=by simp at g;omega
 refine Ba (dj:=22) O O<|Bg O<|Ba (dj:=22) O O<|Ad (fun d c=>Ay AC O O (Sl.bs ‹_› c) 1 O (by omega)) O ?_
 refine Ba (dj:=22) O O<|Ad (fun d c=>Bj (AK _) O (Sl.bs ‹_› c) (by omega)) O ?_
 refine Ba (dj:=22) O O<|Bg O<|Ba (dj:=22) O O<|Ad (fun d c=>Ay AC O O (Sl.bs ‹_› c) 0 O (by omega)) O ?_
 refine Ba (dj:=22) O O<|Ad (fun d c=>Bj (AK _) O (Sl.bs ‹_› c) (by omega)) O ?_
 refine Ba (dj:=22) O O<|Ad (fun d c=>Cs O O) O<|Ad (fun d c=>Cz O O) O ?_
 refine Cr (fun p c=> ?_)
 refine Ap<|B8<|Aq O ?_ ?_
 ·intro g
  have e:DV a b=10:=Ht l m fun h=>by simp at g;exact g (by simpa using h.2.2)
  refine Af<|Ab O<|Ab O<|Bu<|Bx O O O ?_
  exact ⟨bt f c,_,by rw [e],fun _=>rfl,fun h=>by rw [e] at h;cases h⟩
 intro g
 have e:DV a b=0:=Ol l m ⟨s,lb,by simpa using g⟩
 have f:=f.bs c
 have j:=j.bs c
 have i:=i.bs c
 clear c
 refine B0<|An<|Cw.tail 6 AS (by kernel_rfl)<|Bg O<|Ad (fun d c=>Ay AC O O (Sl.bs ‹_› c) 0 O (by omega)) O ?_
 refine Ad (fun d c=>Bj (AK _) O (Sl.bs ‹_› c) (by omega)) O ?_
 refine Bg O<|Ad (fun d c=>Ay AC O O (Sl.bs ‹_› c) 1 O (by omega)) O ?_
 refine Ad (fun d c=>Bj (AK _) O (Sl.bs ‹_› c) (by omega)) O ?_
 refine Dc (fun y c=> ?_)
 have f:=f.bs c
 have j:=j.bs c
 have i:=i.bs c
 refine Bk (Dl (vs:=[a.getD 0 default,b.getD 1 default].map (Value.int .i64)) AC DI O O O O O) O ?_
 rintro x t ⟨q, -,k, -⟩
 have z:=f.size
 have f:=f.bs k
 have j:=j.bs k
 have i:=i.bs k
 exact Ab rfl<|Ab rfl<|Bc<|Bx rfl rfl rfl<|⟨f,x,by rw [e],fun h=>absurd e h,fun _=>BH q z⟩
theorem Vf (a b:T4) (W:World) (l:a.at W) (o:b.at W):
  AM prog 39 [a.v,b.v] W (fun r K=>Below W.heap.size W K∧Wb W K r (Hw a b) [a.s.getD 0 default,b.s.getD 1 default] (L2 a b)):=by
 have s:=Below.refl W.heap.size W
 refine Bb (n:=100) func39 O<|Af<|B5 (cs:=[a.x,a.y]) O O O ?_
 rintro Y w eA_a v q -
 have s:=s.bs q
 have l:=l.bs q
 have o:=o.bs q
 refine B5 (cs:=[b.x,b.y]) O O O ?_
 rintro A_b w eA_b A q -
 have s:=s.bs q
 have l:=l.bs q
 have o:=o.bs q
 have v:=v.bs q
 have z0:=AA s
 refine Cx AY O ?_
 rintro L w eA_r d q -
 have s:=s.bs q
 have l:=l.bs q
 have o:=o.bs q
 have v:=v.bs q
 have A:=A.bs q
 refine Ab O<|Bh<|Aa (B9 (AT _) (AP _) O O ‹_›) O ?_
 have z_r:=AH d
 have zr:W.heap.size≤L:=by omega
 refine Aj O O (CY a.x a.y a.s a.l _ l.1 l.2) ?_
 rintro _ w ⟨rfl,q⟩
 have s:=s.bs q
 have l:=l.bs q
 have o:=o.bs q
 have v:=v.bs q
 have A:=A.bs q
 have d:=d.bs q
 refine Aa (Ck O) O<|Ac O ?_
 refine Cc 17 O ?_ ?_
 ·intro g
  have e:Hw a b=1:=by unfold Hw;rw [if_neg];simp at g;simp [g]
  refine Ae (dj:=17) O O O O<|Ae (dj:=17) O O O O<|Ae (dj:=17) O O O O<|B4 O<|Ak<|Bz O<|Af<|C8 O ?_
  have b_r1:=d
  refine Az (Bv (cs:=[.slice none 0 0, .slice none 0 0]) O O O O O d O) ?_
  rintro w9 ⟨d,hg, -⟩
  have s:=s.grown hg (AA s) (by rintro _ ⟨⟩;omega)
  refine Ab O<|Bu<|Bt O O O ‹_› underlying33 O O O ?_
  exact ⟨s,_,_,by rw [e],fun _=>⟨rfl,rfl⟩,fun h=>by rw [e] at h;cases h⟩
 intro g
 have Q:tok a.s a.l=true:=by simpa using g
 refine Ag (dj:=17) O O<|Aa (B9 (AT _) (AP _) O O ‹_›) O ?_
 refine Ag (dj:=17) O O<|Aj O O (CY b.x b.y b.s b.l _ o.1 o.2) ?_
 rintro _ w ⟨rfl,q⟩
 have s:=s.bs q
 have l:=l.bs q
 have o:=o.bs q
 have v:=v.bs q
 have A:=A.bs q
 have d:=d.bs q
 refine Ag (dj:=17) O O<|Aa (Ck O) O<|Cn O<|Ak<|Aq O ?_ ?_
 ·intro g
  have e:Hw a b=1:=by unfold Hw;rw [if_neg];simp at g;simp [g]
  refine Af<|C8 O ?_
  have b_r1:=d
  refine Az (Bv (cs:=[.slice none 0 0, .slice none 0 0]) O O O O O d O) ?_
  rintro w9 ⟨d,hg, -⟩
  have s:=s.grown hg (AA s) (by rintro _ ⟨⟩;omega)
  refine Ab O<|Bu<|Bt O O O ‹_› underlying33 O O O ?_
  exact ⟨s,_,_,by rw [e],fun _=>⟨rfl,rfl⟩,fun h=>by rw [e] at h;cases h⟩
 intro g
 have N:tok b.s b.l=true:=by simpa using g
 have ee:Hw a b=DV a.s b.s:=by unfold Hw;rw [Q,N];rfl
 refine Co<|Be underlying33 O (AN _)<|Aa (Ah (AF _) O ‹_› rfl) O ?_
 refine Be underlying33 O (AN _)<|Aa (Ah (AF _) O ‹_› rfl) O ?_
 refine Aj O O (M6 a.x b.x a.s b.s w l.1 o.1) ?_
 rintro _ w ⟨q,sv,rfl,hs1,hs2⟩
 have z2:=AA s
 have s:=s.bs q
 have l:=l.bs q
 have o:=o.bs q
 have v:=v.bs q
 have A:=A.bs q
 have d:=d.bs q
 refine Ac O<|Aa (As (i:=0) O O) O<|Aa (As (i:=1) O O) O<|Ab O<|Ab O<|Bh<|Ac O<|Aa (Cs O O) O<|Ak<|Aq O ?_ ?_
 ·intro g
  have hne:DV a.s b.s≠0:=by simpa using g
  refine Af<|C8 O<|Ac O<|Az (Bv (cs:=[.slice none 0 0, .slice none 0 0]) O O O O O d O) ?_
  rintro w9 ⟨d,hg, -⟩
  have s:=s.grown hg (AA s) (by rintro _ ⟨⟩;omega)
  refine Ab O<|Bu<|Bt O O O ‹_› underlying33 O O O ?_
  exact ⟨s,_,_,by rw [ee],fun _=>⟨rfl,rfl⟩,fun h=>absurd (ee ▸ h) hne⟩
 intro g
 have e0:DV a.s b.s=0:=by simpa using g
 have hsv:=hs2 e0
 have e0' :=ee.trans e0
 obtain ⟨la,lb,T⟩:a.s.length=2∧b.s.length=2∧a.s.getD 1 default=b.s.getD 0 default:=by
  have:=e0
  unfold DV at this
  rw [(BJ Q).1,(BJ N).1] at this
  simp only [Bool.and_self,if_true] at this
  split at this
  ·assumption
  ·cases this
 have ka:=(BJ Q).1
 have kb:=(BJ N).1
 have d0:=EK ka (i:=0) (by omega)
 have d1:=EK kb (i:=1) (by omega)
 have d2:=EK kb (i:=0) (by omega)
 obtain ⟨m,hm⟩:∃m:Nat,(m:Int)=a.s.getD 0 default:=⟨(a.s.getD 0 default).toNat,by omega⟩
 obtain ⟨n,C⟩:∃n:Nat,(n:Int)=b.s.getD 1 default:=⟨(b.s.getD 1 default).toNat,by omega⟩
 obtain ⟨k,hk⟩:∃k:Nat,(k:Int)=b.s.getD 0 default:=⟨(b.s.getD 0 default).toNat,by omega⟩
 have hL:L2 a b=Vn m k n a.l b.l:=by unfold L2;rw [← hm,← C,← hk];rfl
 have hmn:=Wo d0 d1
 rw [← hm,← C] at hmn
 have hok:Shapes.ok [(m:Int),(n:Int)]=true:=by rw [hm,C];exact MY d0 d1 (by rw [← hm,← C];exact hmn.2)
 have hsz:(Shapes.size [(m:Int),(n:Int)]).toNat=m*n:=by
  rw [Shapes.size_ok hok]
  simp [Shapes.prod]
  exact_mod_cast Int.toNat_natCast (m*n)
 have la2:a.l.length=m*k:=by
  have h1:=(BJ Q).2
  rw [Ih ka la,T,← hm,← hk] at h1
  rw [h1];exact_mod_cast Int.toNat_natCast (m*k)
 have lb2:b.l.length=k*n:=by
  have h1:=(BJ N).2
  rw [Ih kb lb,← C,← hk] at h1
  rw [h1];exact_mod_cast Int.toNat_natCast (k*n)
 rw [← hm,← C] at hsv
 rw [e0']
 have E:=AQ hsv
 refine Co<|Ac O<|Aj O O (Ii sv [(m:Int),(n:Int)] w E) ?_
 rintro r w3 ⟨hn3,B⟩
 obtain ⟨zx,zy,rfl,hz⟩:∃x y,r= .tuple #[.agg #[x,y], .int .i64 0]∧DA w w3 x y [(m:Int),(n:Int)] (replicate (m*n) 0#32):=by
  rw [hsz] at B
  rcases B with ⟨_,h⟩|⟨h,_⟩
  ·exact h
  ·rw [hok] at h;cases h
 refine Ac O<|Aa (As (i:=0) O O) O<|Aa (As (i:=1) O O) O<|C1 (cs:=[zx,zy]) AY O O O O (fun _=>rfl) (hz.one) ?_
 rintro I w4 U b_t hn4 V
 have M:=ES hz U b_t hn4 V hn3.size
 have hw4:=bt hn3 hn4
 clear hz b_t B U hn3 hn4 V
 have D:(replicate (m*n) 0#32).length=m*n:=by rw [length_replicate]
 obtain ⟨pl,hpl⟩:∃pl,pl=Vn m k n a.l b.l:=⟨_,rfl⟩
 have npl:pl.length=(replicate (m*n) 0#32).length:=by rw [hpl,Ji,D]
 have X:(k:Int)=a.s.getD 1 default:=by rw [hk,T]
 have y_a:=l.2
 have y_b:=o.2
 have x_a:=l.1
 have x_b:=o.1
 have zrw:=AH d
 refine Ab O<|Bh<|Ab O<|Ak<|Ao ?_
 refine Bq (S:=Nat) (fun i=>[(2, .pointer (some ⟨Y,0,none⟩)),(3, .pointer (some ⟨A_b,0,none⟩)),(4, .pointer (some ⟨L,0,none⟩)),(5, .int .i64 0),(6,sv),(8, .pointer (some ⟨I,0,none⟩)),(10, .int .i64 (i:Int))]) (fun i K=>i≤m∧Below w.heap.size w K∧FP K w.heap.size w4.heap.size I zx zy [(m:Int),(n:Int)] (pl.take (i*n)++(replicate (m*n) 0#32).drop (i*n))) (fun i=>m - i) (0) ⟨rfl,rfl,rfl,rfl,rfl,rfl,rfl,trivial⟩ ?_ ?_
 ·exact ⟨by omega,hw4,by rw [Nat.zero_mul,GH];exact M⟩
 clear M hw4
 rintro i w6 ⟨hi,F,M⟩
 have s6:=E.bs F
 refine An<|Af<|Ac O<|Ac O<|Aa (Dn AC O O s6.shp 0 O (by simp)) O<|Aa ((Bj (AK _) O s6 (by simp)).as (u:= .int .i64 (m:Int)) O) O<|B3 O<|Ak<|Aq O ?_ ?_
 ·intro h
  have G:i<m:=by simp at h;omega
  refine B0<|An<|Ao<|Af<|Ab O<|Ak<|Ao ?_
  refine Bq (S:=Nat) (fun j=>[(2, .pointer (some ⟨Y,0,none⟩)),(3, .pointer (some ⟨A_b,0,none⟩)),(4, .pointer (some ⟨L,0,none⟩)),(5, .int .i64 0),(6,sv),(8, .pointer (some ⟨I,0,none⟩)),(10, .int .i64 (i:Int)),(11, .int .i64 (j:Int))]) (fun j K=>j≤n∧Below w.heap.size w K∧FP K w.heap.size w4.heap.size I zx zy [(m:Int),(n:Int)] (pl.take (i*n+j)++(replicate (m*n) 0#32).drop (i*n+j))) (fun j=>n - j) (0) ⟨rfl,rfl,rfl,rfl,rfl,rfl,rfl,rfl,trivial⟩ ?_ ?_
  ·exact ⟨by omega,F,by rw [Nat.add_zero];exact M⟩
  clear M F s6
  rintro j w7 ⟨hj,R,M⟩
  have s7:=E.bs R
  refine An<|Af<|Ac O<|Ac O<|Aa (Dn AC O O s7.shp 1 O (by simp)) O<|Aa ((Bj (AK _) O s7 (by simp)).as (u:= .int .i64 (n:Int)) O) O<|B3 O<|Ak<|Aq O ?_ ?_
  ·intro h
   have H:j<n:=by simp at h;omega
   obtain ⟨f,hf⟩:∃f:Nat→BitVec 32,f=fun p=>a.l.getD (i*k+p) default*b.l.getD (p*n+j) default:=⟨_,rfl⟩
   refine B0<|An<|Ao<|Af<|Aa (Cf (show _=some (i32 (0#32)) from rfl)) O<|Bh<|Ab O<|Ak<|Ao ?_
   refine Bq (S:=Nat) (fun p=>[(2, .pointer (some ⟨Y,0,none⟩)),(3, .pointer (some ⟨A_b,0,none⟩)),(4, .pointer (some ⟨L,0,none⟩)),(5, .int .i64 0),(6,sv),(8, .pointer (some ⟨I,0,none⟩)),(10, .int .i64 (i:Int)),(11, .int .i64 (j:Int)),(12,i32 (sm p f)),(13, .int .i64 (p:Int))]) (fun p K=>p≤k∧Below w.heap.size w K∧FP K w.heap.size w4.heap.size I zx zy [(m:Int),(n:Int)] (pl.take (i*n+j)++(replicate (m*n) 0#32).drop (i*n+j))) (fun p=>k - p) (0) ⟨rfl,rfl,rfl,rfl,rfl,rfl,rfl,rfl,rfl,rfl,trivial⟩ ?_ ?_
   ·exact ⟨by omega,R,M⟩
   clear M R s7
   rintro p w8 ⟨hp,z,M⟩
   have s8:=E.bs z
   have xb8:=x_b.bs z
   have xa8:=x_a.bs z
   have yb8:=y_b.bs z
   have Z:=y_a.bs z
   have ba8:=v.bs z
   have bb8:=A.bs z
   refine An<|Af<|Ac O<|Be underlying33 O (AN _)<|Aa (Ah (AF _) O ‹_› rfl) O ?_
   refine Aa (Dn AC O O xb8.shp 0 O (by omega)) O<|Aa ((Bj (AK _) O xb8 (by omega)).as (cngA (Value.int .i64) hk.symm)) O<|B3 O<|Ak<|Aq O ?_ ?_
   ·intro h
    have J:p<k:=by simp at h;omega
    have hab:i*k+p<a.l.length:=by rw [la2];exact IU G J
    have hbb:p*n+j<b.l.length:=by rw [lb2];exact IU J H
    have hla:=Z.le
    have hlb:=yb8.le
    have hsm:sm p f+a.l.getD (i*k+p) default*b.l.getD (p*n+j) default=sm (p+1) f:=by rw [sm,hf]
    refine B0<|An<|Ao<|Cv AS (by kernel_rfl)<|Bg O<|Ad (fun t c=>Cd underlying33 O (BC _)) O<|Ad (fun t c=>Ah (BG _) O (AO.bs ‹_› c) O) O ?_
    refine Bg O<|Ad (fun t c=>Cd underlying33 O (AN _)) O<|Ad (fun t c=>Ah (AF _) O (AO.bs ‹_› c) O) O ?_
    refine Ad (fun t c=>Dn AC O O xa8.shp 1 O (by omega)) O<|Ad (fun t c=>(Bj (AK _) O (xa8.bs c) (by omega)).as (cngA (Value.int .i64) X.symm)) O<|Ad (fun t c=>Fc O O (by omega)) O<|Bg O<|Ad (fun t c=>Fh O O (by omega)) O<|Ad (fun t c=>Ay AU O O (Z.bs c) _ O hab) O<|Ad (fun t c=>Bj (CF _) O (Z.bs c) hab) O<|Ad (fun t c=>Cd underlying33 O (BC _)) O<|Ad (fun t c=>Ah (BG _) O (AO.bs ‹_› c) O) O ?_
    refine Bg O<|Bg O<|Ad (fun t c=>Dn AC O O s8.shp 1 O (by simp)) O<|Ad (fun t c=>(Bj (AK _) O (s8.bs c) (by simp)).as (u:= .int .i64 (n:Int)) O) O<|Ad (fun t c=>Fc O O (by omega)) O<|Bg O<|Ad (fun t c=>Fh O O (by omega)) O<|Ad (fun t c=>Ay AU O O (yb8.bs c) _ O hbb) O<|Ad (fun t c=>Bj (CF _) O (yb8.bs c) hbb) O<|Ad (fun t c=>En O O) O<|Ad (fun t c=>D7 O O) O<|Dk O ?_
    refine Cr (fun w9 c=> ?_)
    refine Bn<|Ch<|Ac O<|B7 O (by omega)<|Ab O<|Bf ?_
    exact Ap (Pw.next (p+1) ⟨rfl,rfl,rfl,rfl,rfl,rfl,rfl,rfl,(by rw [← hsm];rfl),rfl,trivial⟩ (⟨J,bt z c,M.bs c⟩) (by omega))
   intro h
   have J:p=k:=by simp at h;omega
   subst J
   have hq0:i*n+j<m*n:=IU G H
   have hir:i*n+j<(replicate (m*n) 0#32).length:=by rw [D];exact hq0
   have hfull:pl.getD (i*n+j) default=sm p f:=by rw [hpl,hf];exact Ti (k:=p) a.l b.l G H
   have hlast:(pl.take (i*n+j)++(replicate (m*n) 0#32).drop (i*n+j)).set (i*n+j) (sm p f)=pl.take (i*n+(j+1))++(replicate (m*n) 0#32).drop (i*n+(j+1)):=by rw [← hfull];exact HC npl hir
   have lt:(pl.take (i*n+j)++(replicate (m*n) 0#32).drop (i*n+j)).length=m*n:=by rw [HD npl,D]
   have b_t8:=M.box
   have y_t8:=M.sly
   refine Bp<|Al<|Al<|Bd<|Ap<|B8<|Cw.tail 11 AS (by kernel_rfl)<|Ad (fun t c=>Cd underlying33 O (BC _)) O<|Ad (fun t c=>Ah (BG _) O (AO.bs ‹_› c) O) O ?_
   refine Bg O<|Bg O<|Ad (fun t c=>Dn AC O O s8.shp 1 O (by simp)) O<|Ad (fun t c=>(Bj (AK _) O (s8.bs c) (by simp)).as (u:= .int .i64 (n:Int)) O) O<|Ad (fun t c=>Fc O O (by omega)) O<|Bg O<|Ad (fun t c=>Fh O O (by omega)) O<|Bg O<|Ad (fun t c=>Ay AU O O (y_t8.bs c) _ O (by omega)) O ?_
   refine Dc (fun w9 c=> ?_)
   refine Az ((M.bs c).st (ER _) O O (by omega)) ?_
   rintro w10 ⟨M10,hg10, -⟩
   rw [hlast] at M10
   refine Bf<|Bn<|Ch<|Ac O<|B7 O (by omega)<|Ab O<|Bf ?_
   exact Ap (Pw.next (j+1) ⟨rfl,rfl,rfl,rfl,rfl,rfl,rfl,rfl,trivial⟩ (⟨H,(M.bs c).below (bt z c) (AX _) hg10,M10⟩) (by omega))
  intro h
  have H:j=n:=by simp at h;omega
  subst H
  refine Bp<|Al<|Al<|Bd<|Bn<|Ch<|Ac O<|B7 O (by omega)<|Ab O<|Bf ?_
  exact Ap (Pw.next (i+1) ⟨rfl,rfl,rfl,rfl,rfl,rfl,rfl,trivial⟩ (⟨G,R,by rw [Nat.succ_mul];exact M⟩) (by omega))
 intro h
 have G:i=m:=by simp at h;omega
 subst G
 have hall:pl.take (i*n)++(replicate (i*n) 0#32).drop (i*n)=pl:=by
  have:=HE npl
  rwa [D] at this
 rw [hall] at M
 have b_t6:=M.box
 have b_r6:=d.bs F
 refine Bp<|Al<|Al<|Bd<|Cm<|Aa (B9 (AT _) (AP _) O O ‹_›) O ?_
 refine Az (Bv (cs:=[zx,zy]) O O O O (by simp [M.sh.one',M.sly.one']) b_r6 O) ?_
 rintro w9 ⟨b_r9,hg9, -⟩
 have M9:=M.keep hg9 (by rintro _ ⟨⟩;omega)
 have zW:=AA s
 have hB9:=(bt s F).grown hg9 (AA (bt s F)) (by rintro _ ⟨⟩;omega)
 refine Ab O<|Bc<|Bt O O O ‹_› underlying33 O O O ?_
 rw [← hm,← C,hL,← hpl]
 exact ⟨hB9,zx,zy,rfl,fun h=>absurd rfl h,fun _=>⟨M9.row.mono zW,BH M9.lst.own zW,M9.yx⟩⟩

theorem J6 (a LD b:Int) (w:World) (f:0≤a∧a≤1000000) (d:0≤LD∧LD≤1000000) (i:1≤b∧b≤1000000):
  AM prog 240 [.int .i64 a, .int .i64 LD, .int .i64 b] w (fun r c=>r= .int .i64 (HV a LD b)∧Below w.heap.size w c):=by
 refine Bb (n:=16) func240 O<|Af<|Ab O<|Bh<|Ac O<|Ac O<|B3 O<|Ak<|Aq O ?_ ?_
 ·intro g
  have g:=AD g
  exact Af<|Ab rfl<|Bu<|Ax rfl rfl<|⟨by rw [HV,if_pos g],Below.refl _ _⟩
 intro g
 have g:=AB g
 have e:=Int.ediv_le_self b (show 0≤a - LD by omega)
 have h:=Int.ediv_nonneg (show 0≤a - LD by omega) (show 0≤b by omega)
 refine Co<|Ac O<|Ac O<|Aa (Du O O (by omega)) O<|Ac O<|Aa (Dz O O (by omega) (by omega)) O<|B7 O (by omega)<|Ab O<|Bc<|Ax O O ?_
 exact ⟨by rw [HV,if_neg g],Below.refl _ _⟩
def U8 (W w:World) (r:Value) (e:Int) (l:List Int):Prop:=
 ∃(x:Value) (m:List Int),r= .tuple #[x, .int .i64 e]∧w.ownsRow W.heap.size 3 1 x m.length (m.map (Value.int .i64))∧(e≠0→x= .slice none 0 0∧m=[])∧(e=0→m=l)
theorem BT {W w:World} {e:Int} {l:List Int} (h:e≠0):U8 W w (.tuple #[.slice none 0 0, .int .i64 e]) e l:=⟨_,[],rfl,World.ownsRow_nil _ _ _ _,fun _=>⟨rfl,rfl⟩,fun a=>absurd a h⟩
theorem Sb {t s:List Int} (h:¬t.length=3):IZ t s=false:=by simp only [IZ,decide_eq_false h,Bool.false_and]
theorem Sa {t s:List Int} (h:¬s.length=4):IZ t s=false:=by simp only [IZ,decide_eq_false h,Bool.false_and,Bool.and_false]
theorem RZ {t s:List Int} (h:¬t.getD 0 default=s.getD 1 default):IZ t s=false:=by simp only [IZ,decide_eq_false h,Bool.and_false]
theorem NS (t s:List Int) (a c:Int) (u v:Value) (W:World) (f:BS (Value.int .i64) W u t) (e:BS (Value.int .i64) W v s):
  AM prog 223 [u,v, .int .i64 a, .int .i64 c] W (fun r C=>Below W.heap.size W C∧U8 W C r (BZ t s a c) (FG t s a c)):=by
 have i:=Below.refl W.heap.size W
 refine Bb (n:=84) func223 O<|Af<|Ab O<|Ab O<|Ak<|An<|Ao<|Af<|Ac O<|Aj O O (EL u t _ f) ?_
 rintro _ w ⟨rfl,j⟩
 have i:=i.bs j
 have f:=f.bs j
 have e:=e.bs j
 refine Aa (Ck O) O<|Ac O ?_
 refine Cc 15 O ?_ ?_
 ·intro q
  refine Ae (dj:=15) O O O O<|Ae (dj:=15) O O O O<|Ae (dj:=15) O O O O<|B4 O<|Ac O<|Ae (dj:=20) O O O O<|Ae (dj:=20) O O O O<|B4 O<|Ac O<|Ae (dj:=24) O O O O<|Ae (dj:=24) O O O O<|B4 O<|Ac O<|Ae (dj:=28) O O O O<|Ae (dj:=28) O O O O<|B4 O<|Ac O<|Ae (dj:=32) O O O O<|Ae (dj:=32) O O O O<|B4 O<|Ab O<|Ak<|Bz O<|Af<|Ab O<|Ab O<|Bc<|Bi<|Av<|Bx O O O ?_
  rw [show BZ t s a c=1 by simp [BZ,show EZ t s a c=true by simp_all [EZ]]]
  exact ⟨i,BT (by decide)⟩
 intro q
 refine Ag (dj:=15) O O<|Ac O<|Ag (dj:=15) O O<|Aj O O (EL v s _ e) ?_
 rintro _ w ⟨rfl,j⟩
 have i:=i.bs j
 have f:=f.bs j
 have e:=e.bs j
 refine Ag (dj:=15) O O<|Aa (Ck O) O<|Cn O<|Ac O ?_
 refine Cc 20 O ?_ ?_
 ·intro o
  refine Ae (dj:=20) O O O O<|Ae (dj:=20) O O O O<|B4 O<|Ac O<|Ae (dj:=24) O O O O<|Ae (dj:=24) O O O O<|B4 O<|Ac O<|Ae (dj:=28) O O O O<|Ae (dj:=28) O O O O<|B4 O<|Ac O<|Ae (dj:=32) O O O O<|Ae (dj:=32) O O O O<|B4 O<|Ab O<|Ak<|Bz O<|Af<|Ab O<|Ab O<|Bc<|Bi<|Av<|Bx O O O ?_
  rw [show BZ t s a c=1 by simp [BZ,show EZ t s a c=true by simp_all [EZ]]]
  exact ⟨i,BT (by decide)⟩
 intro o
 refine Ag (dj:=20) O O<|Ac O<|Ag (dj:=20) O O<|B3 O<|Cn O<|Ac O ?_
 refine Cc 24 O ?_ ?_
 ·intro B
  refine Ae (dj:=24) O O O O<|Ae (dj:=24) O O O O<|B4 O<|Ac O<|Ae (dj:=28) O O O O<|Ae (dj:=28) O O O O<|B4 O<|Ac O<|Ae (dj:=32) O O O O<|Ae (dj:=32) O O O O<|B4 O<|Ab O<|Ak<|Bz O<|Af<|Ab O<|Ab O<|Bc<|Bi<|Av<|Bx O O O ?_
  rw [show BZ t s a c=1 by simp [BZ,show EZ t s a c=true by simp_all [EZ]]]
  exact ⟨i,BT (by decide)⟩
 intro B
 refine Ag (dj:=24) O O<|Ac O<|Ag (dj:=24) O O<|Aa (Dr O O) O<|Cn O<|Ac O ?_
 refine Cc 28 O ?_ ?_
 ·intro p
  refine Ae (dj:=28) O O O O<|Ae (dj:=28) O O O O<|B4 O<|Ac O<|Ae (dj:=32) O O O O<|Ae (dj:=32) O O O O<|B4 O<|Ab O<|Ak<|Bz O<|Af<|Ab O<|Ab O<|Bc<|Bi<|Av<|Bx O O O ?_
  rw [show BZ t s a c=1 by simp [BZ,show EZ t s a c=true by simp_all [EZ]]]
  exact ⟨i,BT (by decide)⟩
 intro p
 refine Ag (dj:=28) O O<|Ac O<|Ag (dj:=28) O O<|B3 O<|Cn O<|Ac O ?_
 refine Cc 32 O ?_ ?_
 ·intro z
  refine Ae (dj:=32) O O O O<|Ae (dj:=32) O O O O<|B4 O<|Ab O<|Ak<|Bz O<|Af<|Ab O<|Ab O<|Bc<|Bi<|Av<|Bx O O O ?_
  rw [show BZ t s a c=1 by simp [BZ,show EZ t s a c=true by simp_all [EZ]]]
  exact ⟨i,BT (by decide)⟩
 intro z
 have M:Shapes.ok t=true:=by simpa using q
 have I:Shapes.ok s=true:=by simpa using o
 have K:1≤a:=by simpa using B
 have F:a≤8:=by simpa using p
 have R:0≤c:=by simpa using z
 refine Ag (dj:=32) O O<|Ac O<|Ag (dj:=32) O O<|Aa (Dr O O) O<|Cn O<|Ab O<|Ak<|Aq O ?_ ?_
 ·intro m
  refine Af<|Ab O<|Ab O<|Bc<|Bi<|Av<|Bx O O O ?_
  rw [show BZ t s a c=1 by simp [BZ,show EZ t s a c=true by simp_all [EZ]]]
  exact ⟨i,BT (by decide)⟩
 intro m
 have N:c≤8:=by simpa using m
 have y:EZ t s a c=false:=by simp_all [EZ]
 clear q o B p z m
 have E:=(Shapes.ok_iff t).1 M
 have A:=(Shapes.ok_iff s).1 I
 refine An<|Cv AS (by kernel_rfl)<|Bg O<|Ad (fun d b=>Au AC O (Sl.bs ‹_› b)) O ?_
 refine Ad (fun d b=>Cs O O) O<|Bg O ?_
 refine Dm 40 O ?_ ?_
 ·intro g
  refine Ar (dj:=40) O O O O<|Ar (dj:=40) O O O O<|Ar (dj:=40) O O O O<|Ad (fun d b=>Ct O O) O<|Bg O<|Ar (dj:=45) O O O O<|Ar (dj:=45) O O O O<|Ar (dj:=45) O O O O<|Ar (dj:=45) O O O O<|Ar (dj:=45) O O O O<|Ar (dj:=45) O O O O<|Ar (dj:=45) O O O O<|Ad (fun d b=>Ct O O) O<|Dk O ?_
  refine Cr (fun d b=> ?_)
  refine Ap<|B8<|Bz O<|Af<|Ab O<|Ab O<|Bc<|Bi<|Av<|Bx O O O ?_
  rw [show BZ t s a c=10 by rw [BZ,y,Sb (fun h=>by simp [h] at g)];rfl]
  exact ⟨bt i b,BT (by decide)⟩
 intro G
 have lt:t.length=3:=by have:=G;simp at this;omega
 refine Ba (dj:=40) O O<|Bg O<|Ba (dj:=40) O O<|Ad (fun d b=>Au AC O (Sl.bs ‹_› b)) O ?_
 refine Ba (dj:=40) O O<|Ad (fun d b=>Cs O O) O<|Ad (fun d b=>Cz O O) O<|Bg O ?_
 refine Dm 45 O ?_ ?_
 ·intro g
  refine Ar (dj:=45) O O O O<|Ar (dj:=45) O O O O<|Ar (dj:=45) O O O O<|Ar (dj:=45) O O O O<|Ar (dj:=45) O O O O<|Ar (dj:=45) O O O O<|Ar (dj:=45) O O O O<|Ad (fun d b=>Ct O O) O<|Dk O ?_
  refine Cr (fun d b=> ?_)
  refine Ap<|B8<|Bz O<|Af<|Ab O<|Ab O<|Bc<|Bi<|Av<|Bx O O O ?_
  rw [show BZ t s a c=10 by rw [BZ,y,Sa (fun h=>by simp [h] at g)];rfl]
  exact ⟨bt i b,BT (by decide)⟩
 intro H
 have J:s.length=4:=by have:=H;simp at this;omega
 refine Ba (dj:=45) O O<|Bg O<|Ba (dj:=45) O O<|Ad (fun d b=>Ay AC O O (Sl.bs ‹_› b) 0 O (by omega)) O ?_
 refine Ba (dj:=45) O O<|Ad (fun d b=>Bj (AK _) O (Sl.bs ‹_› b) (by omega)) O ?_
 refine Ba (dj:=45) O O<|Bg O<|Ba (dj:=45) O O<|Ad (fun d b=>Ay AC O O (Sl.bs ‹_› b) 1 O (by omega)) O ?_
 refine Ba (dj:=45) O O<|Ad (fun d b=>Bj (AK _) O (Sl.bs ‹_› b) (by omega)) O ?_
 refine Ba (dj:=45) O O<|Ad (fun d b=>Cs O O) O<|Ad (fun d b=>Cz O O) O<|Dk O ?_
 refine Cr (fun d b=> ?_)
 refine Ap<|B8<|Aq O ?_ ?_
 ·intro g
  refine Af<|Ab O<|Ab O<|Bc<|Bi<|Av<|Bx O O O ?_
  rw [show BZ t s a c=10 by rw [BZ,y,RZ (fun h=>by rw [decide_eq_true h] at g;cases g)];rfl]
  exact ⟨bt i b,BT (by decide)⟩
 intro D
 have U:IZ t s=true:=by
  have:t.getD 0 default=s.getD 1 default:=by simpa only [Bool.not_eq_false',decide_eq_true_eq] using D
  rw [IZ,decide_eq_true lt,decide_eq_true J,decide_eq_true this];rfl
 have i:=i.bs b
 have f:=f.bs b
 have e:=e.bs b
 clear b G H D
 have V:=AW E.2.1 (k:=1) (by omega)
 have Q:=AW E.2.1 (k:=2) (by omega)
 have T:=AW A.2.1 (k:=0) (by omega)
 have S:=AW A.2.1 (k:=2) (by omega)
 have X:=AW A.2.1 (k:=3) (by omega)
 refine Cp<|Bn<|Ap<|B8<|An<|Cw.tail 25 AS (by kernel_rfl)<|Bg O<|Ad (fun d b=>Ay AC O O (Sl.bs ‹_› b) 0 O (by omega)) O ?_
 refine Ad (fun d b=>Bj (AK _) O (Sl.bs ‹_› b) (by omega)) O ?_
 refine Bg O<|Ad (fun d b=>Ay AC O O (Sl.bs ‹_› b) 1 O (by omega)) O ?_
 refine Ad (fun d b=>Bj (AK _) O (Sl.bs ‹_› b) (by omega)) O ?_
 refine Bg O<|Ad (fun d b=>C6 O O (by omega)) O<|Ad (fun d b=>De O O (by omega)) O<|Bg O<|Ad (fun d b=>Ay AC O O (Sl.bs ‹_› b) 2 O (by omega)) O ?_
 refine Ad (fun d b=>Bj (AK _) O (Sl.bs ‹_› b) (by omega)) O ?_
 refine Bg O<|C3 O O (fun d b=>(J6 (t.getD 1 default+2*c) (s.getD 2 default) a d (by omega) (by omega) (by omega)).q b)<|Bg O<|Ad (fun d b=>Ay AC O O (Sl.bs ‹_› b) 2 O (by omega)) O ?_
 refine Ad (fun d b=>Bj (AK _) O (Sl.bs ‹_› b) (by omega)) O ?_
 refine Bg O<|Ad (fun d b=>C6 O O (by omega)) O<|Ad (fun d b=>De O O (by omega)) O<|Bg O<|Ad (fun d b=>Ay AC O O (Sl.bs ‹_› b) 3 O (by omega)) O ?_
 refine Ad (fun d b=>Bj (AK _) O (Sl.bs ‹_› b) (by omega)) O ?_
 refine Bg O<|C3 O O (fun d b=>(J6 (t.getD 2 default+2*c) (s.getD 3 default) a d (by omega) (by omega) (by omega)).q b) ?_
 refine Dc (fun Y b=> ?_)
 have i:=i.bs b
 have f:=f.bs b
 have e:=e.bs b
 have L:=AA i
 refine Bk (Dl (vs:=(FG t s a c).map (Value.int .i64)) AC DI O O O O O) O ?_
 rintro x w ⟨l, -,j, -⟩
 have l:=BH l L
 have i:=i.bs j
 have f:=f.bs j
 have e:=e.bs j
 refine Ab O<|Bh<|Ac O<|Aj O O (EL x (FG t s a c) _ (AQ l)) ?_
 rintro _ w ⟨rfl,j⟩
 have i:=i.bs j
 have f:=f.bs j
 have e:=e.bs j
 have l:=l.bs j
 refine Aa (Ck O) O<|Ak<|Aq O ?_ ?_
 ·intro g
  refine Af<|Ab O<|Ab O<|Bu<|Bx O O O ?_
  rw [show BZ t s a c=10 by simp_all [BZ]]
  exact ⟨i,BT (by decide)⟩
 intro g
 refine Co<|Ac O<|Ab O<|Ab O<|Bc<|Bx O O O ?_
 rw [show BZ t s a c=0 by simp_all [BZ]]
 exact ⟨i,x,_,rfl,l,fun h=>absurd rfl h,fun _=>rfl⟩
theorem My (t:List Int) (a:Int) (u:Value) (W:World) (d:BS (Value.int .i64) W u t):
  AM prog 211 [u, .int .i64 a] W (fun r v=>Below W.heap.size W v∧U8 W v r (CE t a) (GJ t a)):=by
 have e:=Below.refl W.heap.size W
 refine Bb (n:=47) func211 O<|Af<|Ab O<|Ab O<|Bh<|Ac O<|Aj O O (EL u t _ d) ?_
 rintro _ w ⟨rfl,f⟩
 have e:=e.bs f
 have d:=d.bs f
 refine Aa (Ck O) O<|Ac O ?_
 refine Cc 9 O ?_ ?_
 ·intro p
  refine Ae (dj:=9) O O O O<|Ae (dj:=9) O O O O<|B4 O<|Ac O<|Ae (dj:=13) O O O O<|Ae (dj:=13) O O O O<|B4 O<|Ak<|Bz O<|Af<|Ab O<|Ab O<|Bu<|Bx O O O ?_
  rw [show CE t a=1 by simp [CE,show Hu t a=true by simp_all [Hu]]]
  exact ⟨e,BT (by decide)⟩
 intro p
 refine Ag (dj:=9) O O<|Ac O<|Ag (dj:=9) O O<|B3 O<|Cn O<|Ac O ?_
 refine Cc 13 O ?_ ?_
 ·intro j
  refine Ae (dj:=13) O O O O<|Ae (dj:=13) O O O O<|B4 O<|Ak<|Bz O<|Af<|Ab O<|Ab O<|Bu<|Bx O O O ?_
  rw [show CE t a=1 by simp [CE,show Hu t a=true by simp_all [Hu]]]
  exact ⟨e,BT (by decide)⟩
 intro j
 refine Ag (dj:=13) O O<|Ac O<|Ag (dj:=13) O O<|Aa (Dr O O) O<|Cn O<|Ak<|Aq O ?_ ?_
 ·intro s
  refine Af<|Ab O<|Ab O<|Bu<|Bx O O O ?_
  rw [show CE t a=1 by simp [CE,show Hu t a=true by simp_all [Hu]]]
  exact ⟨e,BT (by decide)⟩
 intro s
 have q:Hu t a=false:=by simp_all [Hu]
 have C:Shapes.ok t=true:=by simpa using p
 have c:1≤a:=by simpa using j
 have H:a≤64:=by simpa using s
 have l:=(Shapes.ok_iff t).1 C
 clear p j s
 refine B0<|An<|An<|Cv AS (by kernel_rfl)<|Bg O<|Ad (fun c b=>Au AC O (Sl.bs ‹_› b)) O ?_
 refine Ad (fun c b=>Cs O O) O<|Bg O ?_
 refine Dm 20 O ?_ ?_
 ·intro g
  refine Ar (dj:=20) O O O O<|Ar (dj:=20) O O O O<|Ar (dj:=20) O O O O<|Ar (dj:=20) O O O O<|Ar (dj:=20) O O O O<|Ar (dj:=20) O O O O<|Ar (dj:=20) O O O O<|Ar (dj:=20) O O O O<|Ar (dj:=20) O O O O<|Ad (fun c b=>Ct O O) O ?_
  refine Cr (fun z b=> ?_)
  refine Ap<|B8<|Bz O<|Af<|Ab O<|Ab O<|Bu<|Bx O O O ?_
  rw [show CE t a=10 by rw [CE,q,Il,decide_eq_false (show ¬t.length=3 from fun h=>by simp [h] at g)];rfl]
  exact ⟨bt e b,BT (by decide)⟩
 intro y
 have lt:t.length=3:=by have:=y;simp at this;omega
 have F:=AW l.2.1 (k:=0) (by omega)
 have G:=AW l.2.1 (k:=1) (by omega)
 have D:=AW l.2.1 (k:=2) (by omega)
 refine Ba (dj:=20) O O<|Bg O<|Ba (dj:=20) O O<|Ad (fun c b=>Ay AC O O (Sl.bs ‹_› b) 1 O (by omega)) O ?_
 refine Ba (dj:=20) O O<|Ad (fun c b=>Bj (AK _) O (Sl.bs ‹_› b) (by omega)) O ?_
 refine Ba (dj:=20) O O<|Bg O<|Ba (dj:=20) O O<|Ad (fun c b=>Ay AC O O (Sl.bs ‹_› b) 2 O (by omega)) O ?_
 refine Ba (dj:=20) O O<|Ad (fun c b=>Bj (AK _) O (Sl.bs ‹_› b) (by omega)) O ?_
 refine Ba (dj:=20) O O<|Ad (fun c b=>F3 O O) O<|Ba (dj:=20) O O<|Bg O<|Ba (dj:=20) O O<|Ad (fun c b=>Eh O O) O<|Ad (fun c b=>Cz O O) O ?_
 refine Cr (fun z b=> ?_)
 refine Ap<|B8<|Aq O ?_ ?_
 ·intro g
  have g:=AD g
  refine Af<|Ab O<|Ab O<|Bu<|Bx O O O ?_
  rw [show CE t a=10 by
   have:Il t a=false:=by
    unfold Il
    by_cases m:a≤t.getD 1 default
    ·have i:¬a≤t.getD 2 default:=fun i=>by split at g<;>omega
     simp only [decide_eq_false i,Bool.and_false]
    ·simp only [decide_eq_false m,Bool.and_false,Bool.false_and]
   simp [CE,q,this]]
  exact ⟨bt e b,BT (by decide)⟩
 intro g
 have g:=AB g
 have A:Il t a=true:=by
  have m:a≤t.getD 1 default:=by split at g<;>omega
  have i:a≤t.getD 2 default:=by split at g<;>omega
  rw [Il,decide_eq_true lt,decide_eq_true m,decide_eq_true i];rfl
 have e:=e.bs b
 have d:=d.bs b
 clear b y g
 refine B0<|An<|Cw.tail 15 AS (by kernel_rfl)<|Bg O<|Ad (fun c b=>Ay AC O O (Sl.bs ‹_› b) 0 O (by omega)) O ?_
 refine Ad (fun c b=>Bj (AK _) O (Sl.bs ‹_› b) (by omega)) O ?_
 refine Bg O<|Ad (fun c b=>Ay AC O O (Sl.bs ‹_› b) 1 O (by omega)) O ?_
 refine Ad (fun c b=>Bj (AK _) O (Sl.bs ‹_› b) (by omega)) O ?_
 refine Bg O<|Bg O<|C3 O O (fun c b=>(J6 (t.getD 1 default) a a c (by omega) (by omega) (by omega)).q b)<|Bg O<|Ad (fun c b=>Ay AC O O (Sl.bs ‹_› b) 2 O (by omega)) O ?_
 refine Ad (fun c b=>Bj (AK _) O (Sl.bs ‹_› b) (by omega)) O ?_
 refine Bg O<|Bg O<|C3 O O (fun c b=>(J6 (t.getD 2 default) a a c (by omega) (by omega) (by omega)).q b) ?_
 refine Dc (fun E b=> ?_)
 have e:=e.bs b
 have d:=d.bs b
 have B:=AA e
 refine Bk (Dl (vs:=(GJ t a).map (Value.int .i64)) AC DI O O O O O) O ?_
 rintro x w ⟨o, -,f, -⟩
 have o:=BH o B
 have e:=e.bs f
 have d:=d.bs f
 refine Ab O<|Ab O<|Bc<|Bx O O O ?_
 rw [show CE t a=0 by simp [CE,q,A]]
 exact ⟨e,x,_,rfl,o,fun h=>absurd rfl h,fun _=>rfl⟩
abbrev YV:TypeId:=228
abbrev Yg:TypeId:=233
theorem X8 (y:Value) (a b:Int) (d:y.cells=[y].toArray):Tryz.prog.built YV [(0,y),(1, .int .i64 a),(2, .int .i64 b)]=some [y, .int .i64 a, .int .i64 b].toArray:=by
 have c:Tryz.prog.info? 228=some Tryz.t228:=rfl
 have f:Tryz.prog.info? 31=some Tryz.t31:=rfl
 have e:Tryz.prog.info? 3=some Tryz.t3:=rfl
 simp [Program.built,c,underlying228,f,e,Instr.fill,d]
 rfl
theorem VT (a b c:Int):Tryz.prog.built Yg [(0, .int .i64 a),(1, .int .i64 b),(2, .int .i64 c)]=some [Value.int .i64 a, .int .i64 b, .int .i64 c].toArray:=by
 have d:Tryz.prog.info? 233=some Tryz.t233:=rfl
 have e:Tryz.prog.info? 3=some Tryz.t3:=rfl
 simp [Program.built,d,underlying233,e,Instr.fill]
 rfl
def GY (a:T4):Value:= .agg #[a.y, .int .i64 (a.s.getD 1 default), .int .i64 (a.s.getD 2 default)]
theorem EG {w d:World} {base A:Nat} {e T:TypeId} {sz n:Nat} {v:Value} {xs cs:List Value} (h:w.ownsRow base e sz v n xs) (k:AO w A T cs) (c:e≠T) (g:w.grownBy d (some A)):d.ownsRow base e sz v n xs:=
 CG h fun b a=>g.block b (AG h b a).2 fun e2=>by
  cases e2
  rcases h.2 with ⟨rfl,_⟩|⟨j,cap,i,rfl,_,f,_⟩
  ·cases a
  ·simp only [Value.ownBlock,Option.some.injEq] at a
   subst a
   unfold AO at k
   rw [k] at f
   have:=Option.some.inj f
   injection this with _ h2 _
   exact c h2.symm
def Mz (B:Nat) (x:Value) (M:Int) (t:T4) (f:Value):Nat→Value→World→Prop
 |0,v,_=>v=x
 |1,v,_=>v= .int .i64 M
 |2,v,w=>w.ownsRow B 21 1 v 0 []
 |3,v,_=>v=t.v
 |4,v,_=>v=GY t
 |5,v,_=>v=f
 |_,_,_=>True
theorem NV {B:Nat} {x:Value} {M:Int} {t:T4} {f v:Value} {w a:World} {i:Nat} (h:Mz B x M t f i v w) (g:Below w.heap.size w a):Mz B x M t f i v a:=by
 match i,h with
 |0,h=>exact h
 |1,h=>exact h
 |2,h=>exact AL h g
 |3,h=>exact h
 |4,h=>exact h
 |5,h=>exact h
 |_+6,_=>trivial
theorem NU {B:Nat} {x:Value} {M:Int} {t:T4} {f v:Value} {w b:World} {i A:Nat} {T:TypeId} {cs:List Value} (h:Mz B x M t f i v w) (d:AO w A T cs) (c:T ∈ [31,226]) (g:w.grownBy b (some A)):Mz B x M t f i v b:=by
 match i,h with
 |0,h=>exact h
 |1,h=>exact h
 |2,h=>
  have a:21≠T:=fun e=>by subst e;revert c;decide
  exact EG h d a g
 |3,h=>exact h
 |4,h=>exact h
 |5,h=>exact h
 |_+6,_=>trivial
theorem QJ (a:T4) (W:World) (c:a.at W) (s:3≤a.s.length):AM prog 213 [a.v] W (fun r l=>r=GY a∧Below W.heap.size W l):=by
 have d:=Below.refl W.heap.size W
 refine Bb (n:=14) func213 O<|Af<|B5 (cs:=[a.x,a.y]) O O O ?_
 rintro o w i g h -
 have d:=d.bs h
 have c:=c.bs h
 have u:=AA d
 refine Cx Xq O ?_
 rintro k w j e h -
 have d:=d.bs h
 have c:=c.bs h
 have g:=g.bs h
 refine Ak<|An ?_
 have z:=AA d
 have t:=AH e
 have p:=c.1
 refine Cw.tail 11 AS (by kernel_rfl)<|Ad (fun f b=>Cd underlying33 O (BC _)) O<|Ad (fun f b=>Ah (BG _) O (AO.bs ‹_› b) O) O ?_
 refine Ad (fun f b=>Cd underlying33 O (AN _)) O<|Ad (fun f b=>Ah (AF _) O (AO.bs ‹_› b) O) O ?_
 refine Ad (fun f b=>Ay AC O O (Sl.bs ‹_› b) 1 O (by omega)) O ?_
 refine Ad (fun f b=>Bj (AK _) O (Sl.bs ‹_› b) (by omega)) O ?_
 refine Ad (fun f b=>Cd underlying33 O (AN _)) O<|Ad (fun f b=>Ah (AF _) O (AO.bs ‹_› b) O) O ?_
 refine Ad (fun f b=>Ay AC O O (Sl.bs ‹_› b) 2 O (by omega)) O ?_
 refine Ad (fun f b=>Bj (AK _) O (Sl.bs ‹_› b) (by omega)) O ?_
 refine Ad (fun f b=>C4 (vs:=[(0,a.y),(1, .int .i64 (a.s.getD 1 default)),(2, .int .i64 (a.s.getD 2 default))]) (cs:=[a.y, .int .i64 (a.s.getD 1 default), .int .i64 (a.s.getD 2 default)]) O (X8 _ _ _ c.2.one)) O ?_
 refine Dc (fun v b=> ?_)
 have d:=d.bs b
 have c:=c.bs b
 have g:=g.bs b
 have e:=e.bs b
 refine Az (Bv (cs:=[a.y, .int .i64 (a.s.getD 1 default), .int .i64 (a.s.getD 2 default)]) O O O O (by simp [c.2.one'];exact ⟨rfl,rfl⟩) e O) ?_
 rintro q ⟨e,m, -⟩
 have d:=d.grown m (AA d) (by rintro _ ⟨⟩;omega)
 refine Bc<|Ee O O ‹_› underlying228 O O O ?_
 exact ⟨rfl,d⟩
theorem Sh (a:T4) (c y x:Int) (W:World) (b:BS i32 W a.y a.l) (e:0≤a.s.getD 1 default∧a.s.getD 1 default≤64) (f:0≤a.s.getD 2 default∧a.s.getD 2 default≤64) (s:0≤c∧c≤4096)
  (D: -1000000≤y∧y≤1000000) (E: -1000000≤x∧x≤1000000) (o:(c+1)*(a.s.getD 1 default*a.s.getD 2 default)≤a.l.length):
  AM prog 214 [GY a, .int .i64 c, .int .i64 y, .int .i64 x] W (fun r u=>r=i32 (ME a.l (a.s.getD 1 default) (a.s.getD 2 default) c y x)∧Below W.heap.size W u):=by
 have d:=Below.refl W.heap.size W
 obtain ⟨H,z⟩:∃H,H=a.s.getD 1 default:=⟨_,rfl⟩
 obtain ⟨V,B⟩:∃V,V=a.s.getD 2 default:=⟨_,rfl⟩
 unfold GY
 rw [← z] at e o ⊢
 rw [← B] at f o ⊢
 refine Bb (n:=42) func214 O<|Af<|B5 (cs:=[a.y, .int .i64 H, .int .i64 V]) O O O ?_
 rintro A w q v p -
 have d:=d.bs p
 have b:=b.bs p
 refine Aa (Cf (show _=some (i32 (0#32)) from rfl)) O<|Bh<|Ac O<|B3 O<|Ac O ?_
 refine Cc 11 O ?_ ?_
 ·intro g
  have g:=AD g
  exact Ae (dj:=11) rfl rfl rfl rfl<|Ae (dj:=11) rfl rfl rfl rfl<|Ae (dj:=11) rfl rfl rfl rfl<|Ae (dj:=11) rfl rfl rfl rfl<|B4 rfl<|Ac rfl<|Ae (dj:=17) rfl rfl rfl rfl<|Ae (dj:=17) rfl rfl rfl rfl<|B4 rfl<|Ac rfl<|Ae (dj:=21) rfl rfl rfl rfl<|Ae (dj:=21) rfl rfl rfl rfl<|Ae (dj:=21) rfl rfl rfl rfl<|Ae (dj:=21) rfl rfl rfl rfl<|B4 rfl<|Ak<|Bz rfl<|Af<|Aa (Cf (show _=some (i32 (0#32)) from rfl)) rfl<|Bu<|Ax rfl rfl<|⟨cngA i32 (by rw [ME,if_pos (by omega)]),d⟩
 intro m
 have m:=AB m
 refine Ag (dj:=11) O O<|Ac O<|Ag (dj:=11) O O<|Be underlying228 O (BA _)<|Ag (dj:=11) O O<|Aa (Ah (AK _) O ‹_› rfl) O ?_
 refine Ag (dj:=11) O O<|Aa (Ds O O) O<|Cn O<|Ac O ?_
 refine Cc 17 O ?_ ?_
 ·intro g
  have g:=AD g
  exact Ae (dj:=17) rfl rfl rfl rfl<|Ae (dj:=17) rfl rfl rfl rfl<|B4 rfl<|Ac rfl<|Ae (dj:=21) rfl rfl rfl rfl<|Ae (dj:=21) rfl rfl rfl rfl<|Ae (dj:=21) rfl rfl rfl rfl<|Ae (dj:=21) rfl rfl rfl rfl<|B4 rfl<|Ak<|Bz rfl<|Af<|Aa (Cf (show _=some (i32 (0#32)) from rfl)) rfl<|Bu<|Ax rfl rfl<|⟨cngA i32 (by rw [ME,if_pos (by omega)]),d⟩
 intro i
 have i:=AB i
 refine Ag (dj:=17) O O<|Ac O<|Ag (dj:=17) O O<|B3 O<|Cn O<|Ac O ?_
 refine Cc 21 O ?_ ?_
 ·intro g
  have g:=AD g
  exact Ae (dj:=21) rfl rfl rfl rfl<|Ae (dj:=21) rfl rfl rfl rfl<|Ae (dj:=21) rfl rfl rfl rfl<|Ae (dj:=21) rfl rfl rfl rfl<|B4 rfl<|Ak<|Bz rfl<|Af<|Aa (Cf (show _=some (i32 (0#32)) from rfl)) rfl<|Bu<|Ax rfl rfl<|⟨cngA i32 (by rw [ME,if_pos (by omega)]),d⟩
 intro t
 have t:=AB t
 refine Ag (dj:=21) O O<|Ac O<|Ag (dj:=21) O O<|Be underlying228 O (BA _)<|Ag (dj:=21) O O<|Aa (Ah (AK _) O ‹_› rfl) O ?_
 refine Ag (dj:=21) O O<|Aa (Ds O O) O<|Cn O<|Ak<|Aq O ?_ ?_
 ·intro g
  have g:=AD g
  exact Af<|Aa (Cf (show _=some (i32 (0#32)) from rfl)) rfl<|Bu<|Ax rfl rfl<|⟨cngA i32 (by rw [ME,if_pos (by omega)]),d⟩
 intro l
 have l:=AB l
 have e1:0≤c*H∧c*H≤4096*64:=⟨Int.mul_nonneg s.1 e.1,Int.mul_le_mul s.2 e.2 e.1 (by decide)⟩
 have e2:0≤(c*H+y)*V:=Int.mul_nonneg (by omega) f.1
 have F:(c*H+y+1)*V≤(c*H+H)*V:=Int.mul_le_mul_of_nonneg_right (by omega) f.1
 have I:(c+1)*(H*V)=(c*H+H)*V:=by rw [← Int.mul_assoc,Int.add_mul c 1 H,Int.one_mul]
 have C:(c*H+y+1)*V=(c*H+y)*V+V:=by rw [Int.add_mul (c*H+y) 1 V,Int.one_mul]
 have G:=b.le
 obtain ⟨k,j⟩:∃k:Nat,(c*H+y)*V+x=(k:Int):=⟨_,(Int.toNat_of_nonneg (by omega)).symm⟩
 have h:k<a.l.length:=by omega
 refine Co<|Be underlying228 O (BC _)<|Aa (Ah (BG _) O ‹_› rfl) O ?_
 refine Ac O<|Be underlying228 O (BA _)<|Aa (Ah (AK _) O ‹_› rfl) O ?_
 refine Aa (C6 O O (by omega)) O<|Ac O<|B7 O (by omega)<|Be underlying228 O (BA _)<|Aa (Ah (AK _) O ‹_› rfl) O ?_
 refine Aa (C6 O O (by omega)) O<|Ac O<|B7 O (by omega)<|Aa (Ay AU O O b k j h) O<|Aa (Bj (CF _) O ‹_› (by omega)) O ?_
 refine Ab O<|Bc<|Ax O O ?_
 exact ⟨cngA i32 (by rw [ME,if_neg (by omega),j];rfl),d⟩
theorem Nh (u:Value) (s:List Int) (W:World) (b:BS (Value.int .i64) W u s):
  AM prog 215 [u] W (fun r e=>∃A,r= .func (.func 242) #[] #[.pointer (some ⟨A,0,none⟩)]∧AO e A 23 [u]∧A=W.heap.size∧Below W.heap.size W e):=by
 have d:=Below.refl W.heap.size W
 have c:=b.one
 refine Bb (n:=4) func215 O<|Af<|B5 (cs:=[u]) O c O ?_
 rintro A w f a g -
 have d:=d.bs g
 exact Ab rfl<|Bl<|Aa (Ef (vs:=[]) (us:=[.pointer (some ⟨A,0,none⟩)]) rfl rfl) rfl<|Ab rfl<|Bc<|Ax rfl rfl<|⟨A,rfl,a,f,d⟩
theorem Lt (A:Nat) (u:Value) (s:List Int) (w:World) (d:AO w A 23 [u]) (c:BS (Value.int .i64) w u s) (r:Shapes.ok s=true) (L:s.length=3):
  Sq prog 242 [] [.pointer (some ⟨A,0,none⟩)] (fun i:Nat=>[Yf s i]) (fun b=>b=A∨u.ownBlock=some b) none (range (Shapes.size s).toNat) w:=by
 intro v J W q x F j
 show AM prog 242 [.func (.yield v) #[] #[], .pointer (some ⟨A,0,none⟩)] W (fun _ E=>J (range (Shapes.size s).toNat) E)
 have d:=d.bs q
 have c:=c.bs q
 clear q
 have sz:=Shapes.size_le s
 have z:=(Shapes.ok_iff s).1 r
 have y:=AW z.2.1 (k:=1) (by omega)
 have t:=AW z.2.1 (k:=2) (by omega)
 have I:1*1≤s.getD 1 default*s.getD 2 default:=Int.mul_le_mul y.1 t.1 (by decide) (by omega)
 have N:s.getD 1 default*s.getD 2 default≤64*64:=Int.mul_le_mul y.2 t.2 (by omega) (by decide)
 refine E8 (n:=37) func242 (by kernel_rfl) O O O<|Dg<|C7 (by kernel_rfl)<|Aa (Ah (AF _) O ‹_› rfl) O ?_
 refine Aj O O (G5 u s W c) ?_
 rintro _ f ⟨rfl,m⟩
 have j:=x _ _ _ j ⟨none,DQ m none, .inl rfl⟩
 have d:=d.bs m
 have c:=c.bs m
 refine C5 5 (v' := .int .i64 (((Shapes.size s).toNat:Nat):Int)) O (cngA (Value.int .i64) (by omega))<|Ac O ?_
 refine Bf (Pg.low ?_)
 refine Cy (Cg.out ?_)
 refine Cg.block ?_
 refine Cg.loop (S:=Nat) (fun i=>[(0, .func (.yield v) #[] #[]),(1, .pointer (some ⟨A,0,none⟩)),(5, .int .i64 (((Shapes.size s).toNat:Nat):Int)),(6, .int .i64 (i:Int))]) (fun i p=>i≤(Shapes.size s).toNat∧J (range i) p∧AO p A 23 [u]∧BS (Value.int .i64) p u s) (fun i=>(Shapes.size s).toNat - i) (0) ⟨rfl,rfl,rfl,rfl,trivial⟩ ?_ ?_
 ·exact ⟨Nat.zero_le _,j,d,c⟩
 clear j d c m
 rintro i w ⟨M,j,d,c⟩
 refine Dg<|C7 (by kernel_rfl)<|B3 O ?_
 refine Bf (Pg.low ?_)
 refine Cy (Cg.out ?_)
 refine Dg ?_
 refine E6 O ?_ ?_
 ·intro h
  have g:i<(Shapes.size s).toNat:=by have:=AD h;omega
  have K:=Int.ediv_nonneg (show 0≤(i:Int) by omega) (show 0≤s.getD 2 default by omega)
  refine E0 ?_
  refine Cy (Cg.out ?_)
  refine Dg<|Cg.block<|Dg<|C7 (by kernel_rfl)<|Ac O<|Ab O ?_
  refine Bf (Pg.low ?_)
  refine Cy (Cg.out ?_)
  refine Dg<|Cg.tailY 25 AS (by kernel_rfl) (by kernel_rfl)<|Bg O<|Bg O<|Ad (fun f a=>Ah (AF _) O (AO.bs ‹_› a) O) O ?_
  refine Ad (fun f a=>Ay AC O O (Sl.bs ‹_› a) 1 O (by omega)) O ?_
  refine Ad (fun f a=>Bj (AK _) O (Sl.bs ‹_› a) (by omega)) O ?_
  refine Ad (fun f a=>Ah (AF _) O (AO.bs ‹_› a) O) O ?_
  refine Ad (fun f a=>Ay AC O O (Sl.bs ‹_› a) 2 O (by omega)) O ?_
  refine Ad (fun f a=>Bj (AK _) O (Sl.bs ‹_› a) (by omega)) O ?_
  refine Ad (fun f a=>C6 O O (by omega)) O<|Ad (fun f a=>Dz O O (by omega) (by omega)) O<|Bg O<|Ad (fun f a=>Ah (AF _) O (AO.bs ‹_› a) O) O ?_
  refine Ad (fun f a=>Ay AC O O (Sl.bs ‹_› a) 2 O (by omega)) O ?_
  refine Ad (fun f a=>Bj (AK _) O (Sl.bs ‹_› a) (by omega)) O ?_
  refine Ad (fun f a=>Dz O O (by omega) (by omega)) O<|Ad (fun f a=>Ah (AF _) O (AO.bs ‹_› a) O) O ?_
  refine Ad (fun f a=>Ay AC O O (Sl.bs ‹_› a) 1 O (by omega)) O ?_
  refine Ad (fun f a=>Bj (AK _) O (Sl.bs ‹_› a) (by omega)) O ?_
  refine Ad (fun f a=>El O O (by omega) (by omega)) O<|Bg O<|Ad (fun f a=>Ah (AF _) O (AO.bs ‹_› a) O) O ?_
  refine Ad (fun f a=>Ay AC O O (Sl.bs ‹_› a) 2 O (by omega)) O ?_
  refine Ad (fun f a=>Bj (AK _) O (Sl.bs ‹_› a) (by omega)) O ?_
  refine Ad (fun f a=>El O O (by omega) (by omega)) O<|Ad (fun f a=>C4 (vs:=[(0, .int .i64 (G3 s i)),(1, .int .i64 (HQ s i)),(2, .int .i64 (HR s i))]) (cs:=[.int .i64 (G3 s i), .int .i64 (HQ s i), .int .i64 (HR s i)]) O (VT _ _ _)) O ?_
  refine Qw.doneY (fun H a=> ?_)
  have C:=x _ _ _ j ⟨none,DQ a none, .inl rfl⟩
  have d:=d.bs a
  have c:=c.bs a
  have l:=Rv g
  refine Lg.yield O O O (F (range i) i H C l) ?_
  rintro _ D ⟨rfl,G,B⟩
  have d:=d.keep (B.2 A (.inl rfl) (AH d))
  have c:BS (Value.int .i64) D u s:=Sl.stay c fun k e o=>B.2 k (.inr e) (Sl.blk c o k e)
  refine Lg.plain 1 (by kernel_rfl)<|Aa (Ck O) O ?_
  refine Bf (Pg.low (Lg.out (Lg.nil ?_)))
  refine Cy (Cg.out ?_)
  refine Cg.condB O false (rfl)<|E0<|Er ?_
  refine Cy (Cg.out ?_)
  refine C7 (by kernel_rfl)<|B7 O (by omega)<|Ac O ?_
  refine Bf (Pg.low ?_)
  exact Cy (Pg.next (i+1) ⟨rfl,rfl,rfl,rfl,trivial⟩ (⟨g,by rw [range_succ];exact G,d,c⟩) (by omega))
 intro h
 have g:i=(Shapes.size s).toNat:=by have:=AB h;omega
 subst g
 exact Cg.exit<|Fb<|Fb<|Fu<|Pg.closeE<|C9 rfl<|j

def Ho (t w:T4) (step pad:Int):Int:=if tok t.s t.l && tok w.s w.l then BZ t.s w.s step pad else 1
def MW (w:T4):Nat:=(Shapes.size (w.s.drop 1)).toNat
def Ja (t w:T4) (step pad:Int) (i:Nat):BitVec 32:=Mm t.l w.l t.s (FG t.s w.s step pad) (w.s.drop 1) (MW w) step pad i (MW w)
def Lm (t w:T4) (step pad:Int):List (BitVec 32):=(range (Shapes.size (FG t.s w.s step pad)).toNat).map (Ja t w step pad)
theorem LK {A a:World} (h:YO none A a):Below A.heap.size A a:=by
 obtain ⟨r,g,c⟩:=h
 have:r=none:=by rcases c with h|h<;>exact h
 subst this
 exact ⟨g.os,g.tape,g.output,g.size,fun k b=>g.block k b (by simp)⟩
theorem HM {w:World} {base A:Nat} {e T:TypeId} {sz n:Nat} {v:Value} {xs cs:List Value} (h:w.ownsRow base e sz v n xs) (k:AO w A T cs) (a:e≠T):some A≠v.ownBlock:=fun e2=>by
 rcases h.2 with ⟨rfl,_⟩|⟨d,cap,c,rfl,_,b,_⟩
 ·cases e2
 ·simp only [Value.ownBlock,Option.some.injEq] at e2
  subst e2
  unfold AO at k
  rw [k] at b
  have:=Option.some.inj b
  injection this with _ h2 _
  exact a h2.symm
def Qx (W w:World) (r:Value) (e:Int) (s:List Int) (l:List (BitVec 32)):Prop:=
 ∃x y,r= .tuple #[.agg #[x,y], .int .i64 e]∧(e≠0→x= .slice none 0 0∧y= .slice none 0 0)∧(e=0→DA W w x y s l)
theorem Gw {W w:World} {e:Int} {s:List Int} {l:List (BitVec 32)} (h:e≠0):Qx W w (.tuple #[.agg #[.slice none 0 0, .slice none 0 0], .int .i64 e]) e s l:=⟨_,_,rfl,fun _=>⟨rfl,rfl⟩,fun a=>absurd a h⟩
theorem Qx.gets {W w:World} {r:Value} {e:Int} {s:List Int} {l:List (BitVec 32)} (h:Qx W w r e s l):IM W w r e s l:=by
 obtain ⟨x,y,rfl,b,a⟩:=h
 by_cases he:e=0
 ·exact ⟨⟨x,y,s,l⟩,rfl,(a he).at,fun h=>absurd he h,fun _=>⟨rfl,rfl,a he⟩⟩
 ·obtain ⟨rfl,rfl⟩:=b he
  exact ⟨⟨_,_,[],[]⟩,rfl,Xf w,fun _=>⟨rfl,rfl,rfl,rfl⟩,fun h=>absurd h he⟩
theorem Gs {w:World} {a b:Nat} {T U:TypeId} {cs ds:List Value} (h:AO w a T cs) (k:AO w b U ds) (c:T≠U):a≠b:=fun e=>by
 subst e
 unfold AO at h k
 rw [h] at k
 have:=Option.some.inj k
 injection this with _ h2 _
 exact c h2
structure YI (t f:T4) (step pad:Int) (S:List Int) (N:Nat):Prop where
 lt:t.s.length=3
 lf:f.s.length=4
 lS:S.length=3
 st:1≤step∧step≤8
 pd:0≤pad∧pad≤8
 ok:Shapes.ok S=true
 okf:Shapes.ok (f.s.drop 1)=true
 c:t.s.getD 0 default=f.s.getD 1 default
 o:S.getD 0 default=f.s.getD 0 default
 gt:Shapes.good t.s
 gf:Shapes.good f.s
 gS:Shapes.good S
 n:(N:Int)=f.s.getD 1 default*(f.s.getD 2 default*f.s.getD 3 default)
 n1:1≤N∧N≤4096
 fl:(f.l.length:Int)=f.s.getD 0 default*(N:Int)
 tl:(t.l.length:Int)=t.s.getD 0 default*(t.s.getD 1 default*t.s.getD 2 default)
theorem Yw {s:List Int} (h:s.length=3):s=[s.getD 0 default,s.getD 1 default,s.getD 2 default]:=by
 match s,h with
 |[a,b,c],_=>rfl
theorem Yv {s:List Int} (h:s.length=4):s=[s.getD 0 default,s.getD 1 default,s.getD 2 default,s.getD 3 default]:=by
 match s,h with
 |[a,b,c,d],_=>rfl
theorem MB {s:List Int} (h:s.length=3):Shapes.prod s=s.getD 0 default*(s.getD 1 default*s.getD 2 default):=by
 rw [Yw h];simp [Shapes.prod]
theorem Sf {t f:T4} {a b:Int} (r:tok t.s t.l=true) (y:tok f.s f.l=true) (e:BZ t.s f.s a b=0):YI t f a b (FG t.s f.s a b) (MW f):=by
 obtain ⟨m,B⟩:=BJ r
 obtain ⟨j,J⟩:=BJ y
 have T:=(Shapes.ok_iff t.s).1 m
 have F:=(Shapes.ok_iff f.s).1 j
 have d:EZ t.s f.s a b=false:=by cases h:EZ t.s f.s a b<;>simp [BZ,h] at e ⊢
 have c:(IZ t.s f.s && Shapes.ok (FG t.s f.s a b))=true:=by
  rw [BZ,d] at e
  cases h:(IZ t.s f.s && Shapes.ok (FG t.s f.s a b))
  ·rw [h] at e;cases e
  ·rfl
 simp only [Bool.and_eq_true] at c
 obtain ⟨g,i⟩:=c
 simp only [IZ,Bool.and_eq_true,decide_eq_true_eq] at g
 obtain ⟨⟨lt,lf⟩,A⟩:=g
 simp only [EZ,Bool.or_eq_false_iff,decide_eq_false_iff_not] at d
 obtain ⟨⟨⟨⟨-,K⟩,L⟩,E⟩,G⟩:=d
 have I:=AW F.2.1 (k:=1) (by omega)
 have C:=Yv lf
 have l:Shapes.good (f.s.drop 1):=Shapes.good_drop F.2.1 1
 have z:(f.s.drop 1).length=3:=by rw [length_drop];omega
 have n:=MB z
 have x:(f.s.drop 1).getD 0 default=f.s.getD 1 default:=by simp
 have w:(f.s.drop 1).getD 1 default=f.s.getD 2 default:=by simp
 have p:(f.s.drop 1).getD 2 default=f.s.getD 3 default:=by simp
 rw [x,w,p] at n
 have u:Shapes.prod f.s=f.s.getD 0 default*Shapes.prod (f.s.drop 1):=by
  have:=Shapes.prod_drop (s:=f.s) (k:=0) (by omega)
  simpa using this
 have H:=Shapes.prod_pos l
 have v:=AW F.2.1 (k:=0) (by omega)
 have q:Shapes.prod (f.s.drop 1)≤4096:=by
  have D:1*Shapes.prod (f.s.drop 1)≤f.s.getD 0 default*Shapes.prod (f.s.drop 1):=Int.mul_le_mul_of_nonneg_right v.1 (by omega)
  omega
 have Yr:Shapes.ok (f.s.drop 1)=true:=(Shapes.ok_iff _).2 ⟨by omega,l,q⟩
 have o:(MW f:Int)=Shapes.prod (f.s.drop 1):=by
  unfold MW
  rw [Shapes.size_ok Yr,Int.toNat_of_nonneg (by omega)]
 refine ⟨lt,lf,rfl,by omega,by omega,i,Yr,A,rfl,T.2.1,F.2.1,((Shapes.ok_iff _).1 i).2.1,by rw [o,n],by omega, ?_, ?_⟩
 ·have:=Shapes.size_ok j
  rw [o,← u];have:=Shapes.size_le f.s;omega
 ·have:=Shapes.size_ok m
  rw [← MB lt];have:=Shapes.size_le t.s;omega
set_option maxHeartbeats 2000000 in
theorem W5 (t f:T4) (y I:Int) (W:World) (F:t.at W) (G:f.at W):
  AM prog 130 [t.v,f.v, .int .i64 y, .int .i64 I] W (fun r Y=>Below W.heap.size W Y∧Qx W Y r (Ho t f y I) (FG t.s f.s y I) (Lm t f y I)):=by
 have V:=Below.refl W.heap.size W
 have h_t0:=F
 have h_f0:=G
 refine E8 (n:=106) func130 (by kernel_rfl) O O O<|Dg<|C7 (by kernel_rfl)<|B5 (cs:=[t.x,t.y]) O O O ?_
 rintro A_t w eA_t E a -
 have V:=V.bs a
 have F:=F.bs a
 have G:=G.bs a
 have z_t:=AH E
 refine B5 (cs:=[f.x,f.y]) O O O ?_
 rintro A_f w eA_f H a -
 have V:=V.bs a
 have F:=F.bs a
 have G:=G.bs a
 have E:=E.bs a
 refine B5 (cs:=[.int .i64 y]) O O O ?_
 rintro A_s w eA_s L a -
 have V:=V.bs a
 have F:=F.bs a
 have G:=G.bs a
 have E:=E.bs a
 have H:=H.bs a
 refine B5 (cs:=[.int .i64 I]) O O O ?_
 rintro A_p w eA_p R a -
 have V:=V.bs a
 have F:=F.bs a
 have G:=G.bs a
 have E:=E.bs a
 have H:=H.bs a
 have L:=L.bs a
 have z0:=AA V
 refine Cx AY O ?_
 rintro A_r w eA_r K a -
 have V:=V.bs a
 have F:=F.bs a
 have G:=G.bs a
 have E:=E.bs a
 have H:=H.bs a
 have L:=L.bs a
 have R:=R.bs a
 refine Ab O ?_
 refine Bf (Pg.low ?_)
 refine Cy (Cg.out ?_)
 refine Dg<|Dg<|C7 (by kernel_rfl)<|Aa (B9 (AT _) (AP _) O O ‹_›) O ?_
 have z_r:=AH K
 refine Aj O O (DS t.x t.y t.s t.l _ F.1 F.2) ?_
 rintro _ w ⟨rfl,a⟩
 have V:=V.bs a
 have F:=F.bs a
 have G:=G.bs a
 have E:=E.bs a
 have H:=H.bs a
 have L:=L.bs a
 have R:=R.bs a
 have K:=K.bs a
 refine Aa (Ck O) O<|Ac O ?_
 refine Cc 22 O ?_ ?_
 ·intro g
  refine Ae (dj:=22) O O O O<|Ae (dj:=22) O O O O<|Ae (dj:=22) O O O O<|B4 O ?_
  refine Bf (Pg.low ?_)
  refine Cy (Cg.out ?_)
  refine Cg.condT O<|Dg<|C7 (by kernel_rfl)<|C8 O<|Az (Bv (cs:=[.slice none 0 0, .slice none 0 0]) O O O O O K O) ?_
  rintro w3 ⟨K,hg, -⟩
  have V:=V.grown hg (AA V) (by rintro _ ⟨⟩;omega)
  refine Ab O ?_
  refine Bf (Pg.low ?_)
  refine Cy (Cg.out ?_)
  refine E9<|E2<|Et<|Bt O O O ‹_› underlying33 O O O ?_
  rw [show Ho t f y I=1 by simp_all [Ho]]
  exact ⟨V,Gw (by decide)⟩
 intro g1
 have k_t:tok t.s t.l=true:=by simpa using g1
 refine Ag (dj:=22) O O<|Aa (B9 (AT _) (AP _) O O ‹_›) O ?_
 refine Ag (dj:=22) O O<|Aj O O (DS f.x f.y f.s f.l _ G.1 G.2) ?_
 rintro _ w ⟨rfl,a⟩
 have V:=V.bs a
 have F:=F.bs a
 have G:=G.bs a
 have E:=E.bs a
 have H:=H.bs a
 have L:=L.bs a
 have R:=R.bs a
 have K:=K.bs a
 refine Ag (dj:=22) O O<|Aa (Ck O) O<|Cn O ?_
 refine Bf (Pg.low ?_)
 refine Cy (Cg.out ?_)
 refine E6 O ?_ ?_
 ·intro g
  refine Dg<|C7 (by kernel_rfl)<|C8 O<|Az (Bv (cs:=[.slice none 0 0, .slice none 0 0]) O O O O O K O) ?_
  rintro w3 ⟨K,hg, -⟩
  have V:=V.grown hg (AA V) (by rintro _ ⟨⟩;omega)
  refine Ab O ?_
  refine Bf (Pg.low ?_)
  refine Cy (Cg.out ?_)
  refine E9<|E2<|Et<|Bt O O O ‹_› underlying33 O O O ?_
  rw [show Ho t f y I=1 by simp_all [Ho]]
  exact ⟨V,Gw (by decide)⟩
 intro g2
 have k_f:tok f.s f.l=true:=by simpa using g2
 have hE:Ho t f y I=BZ t.s f.s y I:=by rw [Ho,k_t,k_f];rfl
 clear g1 g2
 rw [hE]
 have h_t1:=F.1
 have h_f1:=G.1
 refine E0 ?_
 refine Cy (Cg.out ?_)
 refine Dg<|C7 (by kernel_rfl)<|Be underlying33 O (AN _)<|Aa (Ah (AF _) O ‹_› rfl) O ?_
 refine Be underlying33 O (AN _)<|Aa (Ah (AF _) O ‹_› rfl) O ?_
 refine Aa (Ah (AK _) O ‹_› rfl) O ?_
 refine Aa (Ah (AK _) O ‹_› rfl) O ?_
 have zr0:=AH K
 have zrB:=AA V
 refine Aj O O (NS t.s f.s y I t.x f.x _ F.1 G.1) ?_
 rintro _ X ⟨a,x,m,rfl,hx,hno,hyes⟩
 have V:=V.bs a
 have F:=F.bs a
 have G:=G.bs a
 have E:=E.bs a
 have H:=H.bs a
 have L:=L.bs a
 have R:=R.bs a
 have K:=K.bs a
 clear a
 refine Ac O<|Aa (As (i:=0) O O) O<|Aa (As (i:=1) O O) O<|Ab O<|Ab O ?_
 refine Bf (Pg.low ?_)
 refine Cy (Cg.out ?_)
 refine Dg<|Dg<|C7 (by kernel_rfl)<|Ac O<|Aa (Cs O O) O ?_
 refine Bf (Pg.low ?_)
 refine Cy (Cg.out ?_)
 refine E6 O ?_ ?_
 ·intro g
  have g:BZ t.s f.s y I≠0:=by simpa using g
  refine Dg<|C7 (by kernel_rfl)<|C8 O<|Ac O<|Az (Bv (cs:=[.slice none 0 0, .slice none 0 0]) O O O O O K O) ?_
  rintro w3 ⟨K,hg, -⟩
  have V:=V.grown hg (AA V) (by rintro _ ⟨⟩;omega)
  refine Ab O ?_
  refine Bf (Pg.low ?_)
  refine Cy (Cg.out ?_)
  refine E9<|E2<|Et<|Bt O O O ‹_› underlying33 O O O ?_
  exact ⟨V,Gw g⟩
 intro g
 have e0:BZ t.s f.s y I=0:=by simpa using g
 clear g
 rw [e0]
 have hm:=hyes e0
 have ok:=Sf k_t k_f e0
 clear hno hyes e0 hE
 obtain ⟨S,hS⟩:∃S,S=FG t.s f.s y I:=⟨_,rfl⟩
 obtain ⟨N,hN⟩:∃N,N=MW f:=⟨_,rfl⟩
 rw [hm,← hS] at hx
 rw [← hS]
 rw [← hS,← hN] at ok
 clear hm
 have szS:=Shapes.size_le S
 obtain ⟨M,hM⟩:∃M,M=(Shapes.size S).toNat:=⟨_,rfl⟩
 have l3:=ok.lt
 have l4:=ok.lf
 have l5:=ok.lS
 refine E0 ?_
 refine Cy (Cg.out ?_)
 refine Dg ?_
 have zW:=AA V
 obtain ⟨B1,hB1⟩:∃B1,B1=X.heap.size:=⟨_,rfl⟩
 have hxl:=AG hx
 have q_t:A_t<B1:=hB1 ▸ AH E
 have q_f:A_f<B1:=hB1 ▸ AH H
 have q_s:A_s<B1:=hB1 ▸ AH L
 have q_p:A_p<B1:=hB1 ▸ AH R
 have q_r:A_r<B1:=hB1 ▸ AH K
 refine F5 (St:=Value×Nat×Nat) (fun z=>[(4, .pointer (some ⟨A_t,0,none⟩)),(5, .pointer (some ⟨A_f,0,none⟩)),(6, .pointer (some ⟨A_s,0,none⟩)),(7, .pointer (some ⟨A_p,0,none⟩)),(8, .pointer (some ⟨A_r,0,none⟩)),(10,x),(12, .pointer (some ⟨z.2.1,0,none⟩)),(13, .pointer (some ⟨z.2.2,0,none⟩))]) (fun z Y=>Below X.heap.size X Y∧Y.ownsRow B1 21 1 z.1 0 []∧B1≤z.2.1∧AO Y z.2.1 31 [z.1]∧B1≤z.2.2∧AO Y z.2.2 226 [.func (.func 214) #[GY t] #[]]) ?_ ?_
 ·refine Cg.any AS (by kernel_rfl) (fun w o _=> ?_)
  have b_t9:=E.bs o
  have h_t9:=F.bs o
  have hx9:=(AQ hx).bs o
  have zc:=o.size
  refine Aw.boxes ([.val, .val, .val, .val, .val, .val, .alloc 31 [.slice none 0 0], .alloc 226 [.nilFunc], .st 6 2, .st 7 5]) ([31,226]) (Mz B1 x (M:Int) t (.func (.func 214) #[GY t] #[])) (by kernel_rfl) (by kernel_rfl) (fun i v w Y h g=>NV h g) (fun i v w Y A T cs h hb _ hT g=>NU h hb hT g) ?_ ?_
  ·refine Ce (fun s Y hB0 hd=>⟨fun j g h=>(by cases h), ?_⟩) ?_
   ·exact Ow.val (B6 rfl) ⟨Below.refl _ _,rfl⟩
   refine Ce (fun s Y hB0 hd=>⟨fun j g h=>(by cases h), ?_⟩) ?_
   ·have e0:s 0=x:=hd 0 (by decide) rfl
    refine Ev (Ft (vs:=[x]) (G5 x S Y (hx9.bs hB0)).1 (by show some [s 0]=_;rw [e0])) (G5 x S Y (hx9.bs hB0)) (fun v w2 ⟨e,a⟩=>⟨a, ?_⟩)
    rw [e];exact cngA (Value.int .i64) (by omega)
   refine Ce (fun s Y hB0 hd=>⟨fun j g h=>(by cases h), ?_⟩) ?_
   ·have e1:s 1= .int .i64 (M:Int):=hd 1 (by decide) rfl
    refine Ow.mk (Ed (l:=0) (c:=M) AU DY O O (cngA some e1) (Nat.zero_le _) (by omega) (by omega)) (fun v w2 ⟨Z,_,a,_⟩=>⟨a, ?_⟩)
    exact BH (B' :=B1) Z (by have:=hB0.size;omega)
   refine Ce (fun s Y hB0 hd=>⟨fun j g h=>(by cases h), ?_⟩) ?_
   ·exact Ow.val (B9 (k:=2) (AT _) (AP _) rfl rfl (b_t9.bs hB0)) ⟨Below.refl _ _,rfl⟩
   refine Ce (fun s Y hB0 hd=>⟨fun j g h=>(by cases h), ?_⟩) ?_
   ·have e3:s 3=t.v:=hd 3 (by decide) rfl
    exact Ev (Ft (vs:=[t.v]) (QJ t Y (h_t9.bs hB0) (by omega)).1 (by show some [s 3]=_;rw [e3])) (QJ t Y (h_t9.bs hB0) (by omega)) (fun v w2 ⟨e,a⟩=>⟨a,e⟩)
   refine Ce (fun s Y hB0 hd=>⟨fun j g h=>(by cases h), ?_⟩) ?_
   ·have e4:s 4=GY t:=hd 4 (by decide) rfl
    exact Ow.val (Ef (vs:=[GY t]) (us:=[]) (by show some [s 4]=_;rw [e4]) rfl) ⟨Below.refl _ _,rfl⟩
   refine Ce (fun s Y hB0 hd=>⟨fun j g h=>(by cases h),Ow.alloc Wq⟩) ?_
   refine Ce (fun s Y hB0 hd=>⟨fun j g h=>(by cases h),Ow.alloc T6⟩) ?_
   refine Ce (fun s Y hB0 hd=>⟨fun j g h=>(by cases h),fun A hA _ hb hP=> ?_⟩) ?_
   ·have Z:Y.ownsRow B1 21 1 (s 2) 0 []:=hP
    have h1:=(AI Z).one
    exact Dx (Dj (u:=s 2) (BC _) (cngA some hA) rfl (AI Z).one' hb Nat.zero_lt_one) (fun w2 h=>⟨by rw [h1];exact h.1,h.2.1⟩)
   refine Ce (fun s Y hB0 hd=>⟨fun j g h=>(by cases h),fun A hA _ hb hP=> ?_⟩) ?_
   ·have e5:s 5= .func (.func 214) #[GY t] #[]:=hP
    exact Dx (Dj (u:=s 5) (S9 _) (cngA some hA) rfl (by rw [e5];rfl) hb Nat.zero_lt_one) (fun w2 h=>⟨by rw [e5];rw [e5] at h;exact h.1,h.2.1⟩)
   exact Fa
  intro s Y hB0 hall hbox _
  obtain ⟨A_o,hAo,l_o,J⟩:=NI hbox 6 8 (by decide) rfl (by decide) rfl
  obtain ⟨A_g,hAg,l_g,D⟩:=NI hbox 7 9 (by decide) rfl (by decide) rfl
  have Z:Y.ownsRow B1 21 1 (s 2) 0 []:=hall 2 (by decide) rfl
  have e5:s 5= .func (.func 214) #[GY t] #[]:=hall 5 (by decide) rfl
  have h2:(DW [.val, .val, .val, .val, .val, .val, .alloc 31 [.slice none 0 0], .alloc 226 [.nilFunc], .st 6 2, .st 7 5] 8).cells s=[s 2]:=by show (s 2).cells.toList=_;rw [(AI Z).one]
  have h5:(DW [.val, .val, .val, .val, .val, .val, .alloc 31 [.slice none 0 0], .alloc 226 [.nilFunc], .st 6 2, .st 7 5] 9).cells s=[.func (.func 214) #[GY t] #[]]:=by show (s 5).cells.toList=_;rw [e5];rfl
  rw [h2] at J
  rw [h5] at D
  have o:=o.trans (hB0.mono o.size)
  refine Pg.low ?_
  exact Fl ((s 2,A_o,A_g)) ⟨rfl,rfl,rfl,rfl,rfl,rfl,cngA some hAo,cngA some hAg,trivial⟩ (⟨o,Z,by show B1≤A_o;omega,J,by show B1≤A_g;omega,D⟩)
 rintro ⟨ov,A_o,A_g⟩ w ⟨a,Z,l_o,J,l_g,D⟩
 dsimp only at Z l_o J l_g D ⊢
 refine Cg.out ?_
 have V:=V.bs a
 have F:=F.bs a
 have G:=G.bs a
 have E:=E.bs a
 have H:=H.bs a
 have L:=L.bs a
 have R:=R.bs a
 have K:=K.bs a
 have hx:=hx.bs a
 have g0:=AW ok.gS (k:=0) (by omega)
 have g1:=AW ok.gS (k:=1) (by omega)
 have g2:=AW ok.gS (k:=2) (by omega)
 have t0:=AW ok.gt (k:=0) (by omega)
 have t1:=AW ok.gt (k:=1) (by omega)
 have t2:=AW ok.gt (k:=2) (by omega)
 have okn:=ok.n1
 have okst:=ok.st
 have okpd:=ok.pd
 have fll:f.l.length≤64*4096:=by
  have f0:=AW ok.gf (k:=0) (by omega)
  have h1:f.s.getD 0 default*(N:Int)≤64*4096:=Int.mul_le_mul f0.2 (by omega) (by omega) (by decide)
  have h2:=ok.fl
  omega
 have quo:(f.l.length:Int) / S.getD 0 default=(N:Int):=by
  rw [ok.fl,← ok.o];exact Int.mul_ediv_cancel_left _ (by omega)
 refine Dg ?_
 refine Cg.any AS (by kernel_rfl) (fun w hd _=> ?_)
 have V:=V.bs hd
 have F:=F.bs hd
 have G:=G.bs hd
 have E:=E.bs hd
 have H:=H.bs hd
 have L:=L.bs hd
 have R:=R.bs hd
 have K:=K.bs hd
 have hx:=hx.bs hd
 have Z:=Z.bs hd
 have J:=J.bs hd
 have D:=D.bs hd
 clear hd
 have h_f2:=G.2
 have s_x:=AQ hx
 refine Dh (fun Y=>Below w.heap.size w Y) (fun hC=> ?_) (Below.refl _ _)
 refine Cj (F8 (Am AE.retG))<|Ai 0 O (fun X hc=>Cd underlying33 O (BC _)) O<|Ai 1 O (fun X hc=>Ah (BG _) O (AO.bs ‹_› hc) O) O<|Ai 2 O (fun X hc=>Au AU O (Sl.bs ‹_› hc)) O<|Ai 3 O (fun X hc=>B6 O) O<|Ai 4 O (fun X hc=>Ay AC O O (Sl.bs ‹_› hc) 0 O (by omega)) O<|Ai 5 O (fun X hc=>Bj (AK _) O (Sl.bs ‹_› hc) (by omega)) O<|Ai 6 O (fun X hc=>(Dz O O (by omega) (by omega)).as (cngA (Value.int .i64) quo)) O<|Cb<|AZ.only (by first|assumption|exact Below.refl _ _) (i:=7) (by kernel_rfl) O ?_
 refine Cx DI O ?_
 rintro A_n w2 eA_n U o -
 refine AZ.back<|AZ.only (by first|assumption|exact Below.refl _ _) (i:=8) (by kernel_rfl) O ?_
 refine Az (Dj (u:= .int .i64 (N:Int)) (BA _) O O O U Nat.zero_lt_one) ?_
 rintro w3 ⟨b_n2,hg, -⟩
 have o:=o.grown hg o.size (by rintro _ ⟨⟩;omega)
 have U:AO w3 A_n 3 [.int .i64 (N:Int)]:=b_n2
 clear b_n2 hg
 have zn:B1≤A_n:=by have:=V;have:=AH J;omega
 refine AZ.back ?_
 refine Cu (by first|assumption|exact Below.refl _ _) (by kernel_rfl) (Pg.low ?_)
 refine Cy (Cg.out ?_)
 refine Dg<|Dg<|C7 (by kernel_rfl)<|Ac O ?_
 have V:=V.bs o
 have F:=F.bs o
 have G:=G.bs o
 have E:=E.bs o
 have H:=H.bs o
 have L:=L.bs o
 have R:=R.bs o
 have K:=K.bs o
 have hx:=hx.bs o
 have Z:=Z.bs o
 have J:=J.bs o
 have D:=D.bs o
 clear o h_f2 s_x
 refine Aj O O (Nh x S _ (AQ hx)) ?_
 rintro _ w ⟨A_i,rfl,b_i,eA_i,a⟩
 have V:=V.bs a
 have F:=F.bs a
 have G:=G.bs a
 have E:=E.bs a
 have H:=H.bs a
 have L:=L.bs a
 have R:=R.bs a
 have K:=K.bs a
 have hx:=hx.bs a
 have Z:=Z.bs a
 have J:=J.bs a
 have D:=D.bs a
 have U:=U.bs a
 refine Bf (Pg.low ?_)
 refine Cy (Cg.out ?_)
 refine Cg.block ?_
 rename World=>w0
 have zB1:B1≤w0.heap.size:=by have:=AH J;omega
 have zi:=AH b_i
 have zW0:=AA V
 have hxb:=AG hx
 refine Gb O (Lt A_i x S w0 b_i (AQ hx) ok.ok ok.lS) (fun b hb=>hb.elim (fun e=>by rw [e];exact zi) (fun e=>(hxb b e).2)) (fun _=>rfl) (by kernel_rfl) (fun (pre:List (Nat)) Y=>(∃ov,AO Y A_o 31 [ov]∧Y.ownsRow B1 21 1 ov pre.length ((pre.map (Ja t f y I)).map i32))∧AO Y A_g 226 [.func (.func 214) #[GY t] #[]]∧AO Y A_n 3 [.int .i64 (N:Int)]∧AO Y A_i 23 [x]∧Below B1 w0 Y) (by rintro _ ⟨⟩) ?_ ?_ ?_ ?_ ?_
 ·exact ⟨⟨ov,J,Z⟩,D,U,b_i,Below.refl _ _⟩
 ·rintro pre A A' ⟨⟨ov,h1,h2⟩,h3,h4,h6,h5⟩ hc
  exact ⟨⟨ov,h1.nc hc,Ip h2 hc⟩,h3.nc hc,h4.nc hc,h6.nc hc,h5.nc hc zB1 zB1⟩
 ·rintro pre A A' ⟨⟨ov,h1,h2⟩,h3,h4,h6,h5⟩ hc
  have hc:=LK hc
  exact ⟨⟨ov,h1.bs hc,AL h2 hc⟩,h3.bs hc,h4.bs hc,h6.bs hc,h5.trans (hc.mono (Nat.le_trans zB1 h5.size))⟩
 ·rintro lp pre i u hl ⟨⟨ov,J,Z⟩,D,U,b_i,hK⟩ hpre hrec
  obtain ⟨hi,hiM, -⟩:=Kh hpre
  refine C7 (by kernel_rfl)<|C1 (cs:=[.int .i64 (G3 S i), .int .i64 (HQ S i), .int .i64 (HR S i)]) PI O O O O (fun _=>rfl) (rfl) ?_
  rintro A_to u1 eA_to b_to hn1 zhn1
  refine Bf (Pg.low ?_)
  refine Gg ((KeepsFrom.refl _ _).bs hn1) (Kp.refl.bs hn1) ?_
  rintro w a hz hrec
  have zu:=AH J
  have hK1:=hK.trans (hn1.mono (by omega))
  have hK:=hK1.nc a (by omega) zB1
  have Z:=Ip (AL Z hn1) a
  have J:=(J.bs hn1).nc a
  have D:=(D.bs hn1).nc a
  have U:=(U.bs hn1).nc a
  have b_i:=(b_i.bs hn1).nc a
  have b_to:=b_to.nc a
  clear hK1 hn1 zu a hz
  have L:=L.bl hK (by omega)
  have R:=R.bl hK (by omega)
  have E:=E.bl hK (by omega)
  have H:=H.bl hK (by omega)
  have hBw:=V.trans (hK.mono (by omega))
  have zK:=hK.size
  have xi:i<M:=by omega
  have ci:0≤G3 S i∧G3 S i<S.getD 0 default:=Ni ok.ok ok.lS (by omega)
  have yi:0≤HQ S i∧HQ S i<S.getD 1 default:=⟨Int.emod_nonneg _ (by omega),Int.emod_lt_of_pos _ (by omega)⟩
  have xi2:0≤HR S i∧HR S i<S.getD 2 default:=⟨Int.emod_nonneg _ (by omega),Int.emod_lt_of_pos _ (by omega)⟩
  have cn:0≤G3 S i*(N:Int)∧G3 S i*(N:Int)≤64*4096:=⟨Int.mul_nonneg ci.1 (by omega),Int.mul_le_mul (by omega) (by omega) (by omega) (by decide)⟩
  obtain ⟨B2,hB2⟩:∃B2,B2=w.heap.size:=⟨_,rfl⟩
  have r_to:A_to<B2:=hB2 ▸ AH b_to
  have r_o:A_o<B2:=hB2 ▸ AH J
  have r_g:A_g<B2:=hB2 ▸ AH D
  have r_n:A_n<B2:=hB2 ▸ AH U
  have hob:∀b,ov.ownBlock=some b→B1≤b∧b<B2:=fun b e=>hB2 ▸ AG Z b e
  have r_i:A_i<B2:=hB2 ▸ AH b_i
  refine Cg.block<|Dg ?_
  refine F5 (St:=Nat×Nat) (fun z=>[(5, .pointer (some ⟨A_f,0,none⟩)),(6, .pointer (some ⟨A_s,0,none⟩)),(7, .pointer (some ⟨A_p,0,none⟩)),(12, .pointer (some ⟨A_o,0,none⟩)),(13, .pointer (some ⟨A_g,0,none⟩)),(15, .pointer (some ⟨A_to,0,none⟩)),(16, .pointer (some ⟨z.1,0,none⟩)),(17, .pointer (some ⟨z.2,0,none⟩))]) (fun z Y=>Below w.heap.size w Y∧B2≤z.1∧AO Y z.1 21 [i32 0#32]∧B2≤z.2∧AO Y z.2 3 [.int .i64 (G3 S i*(N:Int))]) ?_ ?_
  ·rename World=>w4
   refine Cg.any AS (by kernel_rfl) (fun w o _=> ?_)
   refine Dh (fun Y=>Below w4.heap.size w4 Y) (fun hC=> ?_) (o)
   refine Cj (F8 AE.midG)<|Ai 0 O (fun X hc=>Cd underlying233 O (BA _)) O<|Ai 1 O (fun X hc=>Ah (AK _) O (AO.bs ‹_› hc) O) O<|Ai 2 O (fun X hc=>Ah (AK _) O (AO.bs ‹_› hc) O) O<|Ai 3 O (fun X hc=>C6 O O (by omega)) O<|Cb ?_
   refine AZ.two ‹_› (i:=4) (j:=5) (by kernel_rfl) O O ?_ ?_
   have zc:=o.size
   refine Cx DY O ?_
   rintro A_m w eA_m C a -
   have l_m:B2≤A_m:=by omega
   clear zc
   have o:=o.bs a
   refine AZ.back<|AZ.only ‹_› (i:=5) (by kernel_rfl) O ?_
   have zc:=o.size
   refine Cx DI O ?_
   rintro A_k w eA_k B a -
   have l_k:B2≤A_k:=by omega
   clear zc
   have o:=o.bs a
   have C:=C.bs a
   refine AZ.back<|AZ.only ‹_› (i:=6) (by kernel_rfl) O ?_
   refine Az (Dj (u:=i32 0#32) (ER _) O (show _=some (i32 (0#32)) from rfl) O C Nat.zero_lt_one) ?_
   rintro w2 ⟨b_m2,hg, -⟩
   try replace B:=B.by hg (fun e=>Gs B C (by decide) (Option.some.inj e))
   have o:=o.grown hg o.size (by rintro _ ⟨⟩;omega)
   have C:AO w2 A_m 21 [i32 0#32]:=b_m2
   clear b_m2 hg
   refine AZ.back<|AZ.only ‹_› (i:=7) (by kernel_rfl) O ?_
   refine Az (Dj (u:= .int .i64 (G3 S i*(N:Int))) (BA _) O O O B Nat.zero_lt_one) ?_
   rintro w2 ⟨b_k2,hg, -⟩
   have C:=C.by hg (fun e=>Gs C B (by decide) (Option.some.inj e))
   have o:=o.grown hg o.size (by rintro _ ⟨⟩;omega)
   have B:AO w2 A_k 3 [.int .i64 (G3 S i*(N:Int))]:=b_k2
   clear b_k2 hg
   refine AZ.back ?_
   refine Cu ‹_› (by kernel_rfl) (Pg.low ?_)
   exact Fl ((A_m,A_k)) ⟨rfl,rfl,rfl,rfl,rfl,rfl,rfl,rfl,trivial⟩ (⟨o,l_m,C,l_k,B⟩)
   have zc:=o.size
   refine Cx DI O ?_
   rintro A_k w eA_k B a -
   have l_k:B2≤A_k:=by omega
   clear zc
   have o:=o.bs a
   refine AZ.back<|AZ.only ‹_› (i:=4) (by kernel_rfl) O ?_
   have zc:=o.size
   refine Cx DY O ?_
   rintro A_m w eA_m C a -
   have l_m:B2≤A_m:=by omega
   clear zc
   have o:=o.bs a
   have B:=B.bs a
   refine AZ.back<|AZ.only ‹_› (i:=6) (by kernel_rfl) O ?_
   refine Az (Dj (u:=i32 0#32) (ER _) O (show _=some (i32 (0#32)) from rfl) O C Nat.zero_lt_one) ?_
   rintro w2 ⟨b_m2,hg, -⟩
   try replace B:=B.by hg (fun e=>Gs B C (by decide) (Option.some.inj e))
   have o:=o.grown hg o.size (by rintro _ ⟨⟩;omega)
   have C:AO w2 A_m 21 [i32 0#32]:=b_m2
   clear b_m2 hg
   refine AZ.back<|AZ.only ‹_› (i:=7) (by kernel_rfl) O ?_
   refine Az (Dj (u:= .int .i64 (G3 S i*(N:Int))) (BA _) O O O B Nat.zero_lt_one) ?_
   rintro w2 ⟨b_k2,hg, -⟩
   have C:=C.by hg (fun e=>Gs C B (by decide) (Option.some.inj e))
   have o:=o.grown hg o.size (by rintro _ ⟨⟩;omega)
   have B:AO w2 A_k 3 [.int .i64 (G3 S i*(N:Int))]:=b_k2
   clear b_k2 hg
   refine AZ.back ?_
   refine Cu ‹_› (by kernel_rfl) (Pg.low ?_)
   exact Fl ((A_m,A_k)) ⟨rfl,rfl,rfl,rfl,rfl,rfl,rfl,rfl,trivial⟩ (⟨o,l_m,C,l_k,B⟩)
  rintro ⟨A_m,A_k⟩ u2 ⟨hn2,l_m,C,l_k,B⟩
  dsimp only at l_m C l_k B ⊢
  refine Cg.out ?_
  have Z:=Z.bs hn2
  have J:=J.bs hn2
  have D:=D.bs hn2
  have U:=U.bs hn2
  have b_i:=b_i.bs hn2
  have b_to:=b_to.bs hn2
  have L:=L.bs hn2
  have R:=R.bs hn2
  have E:=E.bs hn2
  have H:=H.bs hn2
  have hBw:=hBw.bs hn2
  have h_fx:=(h_f0.bs hBw).1
  have s_c:=BS.drop h_fx (i:=1) (by omega)
  have l_c:(f.s.drop 1).length=3:=by rw [length_drop];omega
  refine Dg<|Dg<|C7 (by kernel_rfl)<|Be underlying33 O (AN _)<|Aa (Ah (AF _) O ‹_› rfl) O ?_
  refine Aa (Fe (i:=1) AC O O h_fx (by omega)) O<|Aj O O (Nh (cut f.x 1 1 f.s.length) (f.s.drop 1) _ s_c) ?_
  rintro _ u3 ⟨A_j,rfl,b_j,eA_j,hn3⟩
  have b_m2:=C
  have b_k2:=B
  have s_c:=s_c.bs hn3
  have Z:=Z.bs hn3
  have J:=J.bs hn3
  have D:=D.bs hn3
  have U:=U.bs hn3
  have b_i:=b_i.bs hn3
  have b_to:=b_to.bs hn3
  have L:=L.bs hn3
  have R:=R.bs hn3
  have E:=E.bs hn3
  have H:=H.bs hn3
  have hBw:=hBw.bs hn3
  have C:=C.bs hn3
  have B:=B.bs hn3
  refine Bf (Pg.low ?_)
  refine Cy (Cg.out ?_)
  refine Cg.block ?_
  have zj:=AH b_j
  have zB2:B2≤u3.heap.size:=by have:=hn2.size;have:=hn3.size;omega
  have hrec3:∃r,u3.heap[lp]? =some (.loop r):=by
   obtain ⟨r,hr⟩:=hrec
   have hlt:=(Array.getElem?_eq_some_iff.1 hr).1
   have h1:=(hn2.block lp hlt).trans hr
   exact ⟨r,(hn3.block lp (Array.getElem?_eq_some_iff.1 h1).1).trans h1⟩
  have h_fx3:=(h_f0.bs hBw).1
  have fne:f.s.map (Value.int .i64)≠[]:=fun e2=>by rw [map_eq_nil_iff] at e2;rw [e2] at l4;cases l4
  have z_mj:A_m<A_j∧A_k<A_j:=⟨eA_j ▸ AH b_m2,eA_j ▸ AH b_k2⟩
  have nj1:¬(A_m=A_j∨(cut f.x 1 1 f.s.length).ownBlock=some A_m):=by
   rintro (h|h)
   ·omega
   ·have:=Sl.blk h_f0.1 fne A_m (NF h);omega
  have nj2:¬(A_k=A_j∨(cut f.x 1 1 f.s.length).ownBlock=some A_k):=by
   rintro (h|h)
   ·omega
   ·have:=Sl.blk h_f0.1 fne A_k (NF h);omega
  refine Cg.rangeN (hrec3) O (Lt A_j (cut f.x 1 1 f.s.length) (f.s.drop 1) u3 b_j s_c ok.okf l_c) (fun b hb=>hb.elim (fun e=>by rw [e];exact zj) (fun e=>Sl.blk h_fx3 fne b (NF e))) (fun _=>rfl) (by kernel_rfl) (fun (pre2:List (Nat)) Y=>AO Y A_m 21 [i32 (Mm t.l f.l t.s S (f.s.drop 1) N y I i pre2.length)]∧AO Y A_k 3 [.int .i64 (G3 S i*(N:Int)+(pre2.length:Int))]∧Below B2 u3 Y∧KeepsFrom w0.heap.size u3 Y) (by rintro _ ⟨⟩) ?_ ?_ ?_ ?_ ?_
  ·exact ⟨C,by simpa using B,Below.refl _ _,KeepsFrom.refl _ _⟩
  ·rintro pre A A' ⟨h1,h2,h3,h4⟩ hc
   exact ⟨h1.nc hc,h2.nc hc,h3.nc hc zB2 zB2,h4.nc hc⟩
  ·rintro pre A A' ⟨h1,h2,h3,h4⟩ hc
   have hc:=LK hc
   exact ⟨h1.bs hc,h2.bs hc,h3.trans (hc.mono (Nat.le_trans zB2 h3.size)),h4.bs hc⟩
  ·rintro lq pre2 j v hl2 ⟨C,B,hK2,hKf⟩ hpre2 hrec2
   obtain ⟨hj,hjN, -⟩:=Kh hpre2
   rw [show (Shapes.size (f.s.drop 1)).toNat=N from hN.symm] at hjN
   refine C7 (by kernel_rfl)<|C1 (cs:=[.int .i64 (G3 (f.s.drop 1) j), .int .i64 (HQ (f.s.drop 1) j), .int .i64 (HR (f.s.drop 1) j)]) PI O O O O (fun _=>rfl) (rfl) ?_
   rintro A_at u4 eA_at b_at hn4 zhn4
   refine Bf (Pg.low ?_)
   refine Gg ((KeepsFrom.refl _ _).bs hn4) (Kp.refl.bs hn4) ?_
   rintro w a hz hrec
   have hK4:=(hK2.trans (hn4.mono (Nat.le_trans zB2 hK2.size))).nc a (by omega) zB2
   have hKf4:=(hKf.bs hn4).nc (a.mono hl2)
   have C:=(C.bs hn4).nc a
   have B:=(B.bs hn4).nc a
   have b_at:=b_at.nc a
   have b_to:=b_to.bl hK4 (by omega)
   have L:=L.bl hK4 (by omega)
   have R:=R.bl hK4 (by omega)
   have D:=D.bl hK4 (by omega)
   have H:=H.bl hK4 (by omega)
   have hBw4:=hBw.trans (hK4.mono (by omega))
   have h_ty:=(h_t0.bs hBw4).2
   have h_fy:=(h_f0.bs hBw4).2
   clear hn4 a hz
   have d1:(f.s.drop 1).getD 0 default=f.s.getD 1 default:=by simp
   have d2:(f.s.drop 1).getD 1 default=f.s.getD 2 default:=by simp
   have d3:(f.s.drop 1).getD 2 default=f.s.getD 3 default:=by simp
   have X:=AW ok.gf (k:=1) (by omega)
   have w2:=AW ok.gf (k:=2) (by omega)
   have w3:=AW ok.gf (k:=3) (by omega)
   have jc:0≤G3 (f.s.drop 1) j∧G3 (f.s.drop 1) j<f.s.getD 1 default:=by rw [← d1];exact Ni ok.okf l_c (by have:=Shapes.size_le (f.s.drop 1);unfold MW at hN;omega)
   have jy:0≤HQ (f.s.drop 1) j∧HQ (f.s.drop 1) j<64:=by
    have h1:=Int.emod_nonneg ((j:Int) / (f.s.drop 1).getD 2 default) (b:=(f.s.drop 1).getD 1 default) (by omega)
    have h2:=Int.emod_lt_of_pos ((j:Int) / (f.s.drop 1).getD 2 default) (b:=(f.s.drop 1).getD 1 default) (by omega)
    unfold HQ;omega
   have jx:0≤HR (f.s.drop 1) j∧HR (f.s.drop 1) j<64:=by
    have h1:=Int.emod_nonneg (j:Int) (b:=(f.s.drop 1).getD 2 default) (by omega)
    have h2:=Int.emod_lt_of_pos (j:Int) (b:=(f.s.drop 1).getD 2 default) (by omega)
    unfold HR;omega
   have my:0≤HQ S i*y∧HQ S i*y≤64*8:=⟨Int.mul_nonneg yi.1 (by omega),Int.mul_le_mul (by omega) okst.2 (by omega) (by decide)⟩
   have mx:0≤HR S i*y∧HR S i*y≤64*8:=⟨Int.mul_nonneg xi2.1 (by omega),Int.mul_le_mul (by omega) okst.2 (by omega) (by decide)⟩
   have tl:(G3 (f.s.drop 1) j+1)*(t.s.getD 1 default*t.s.getD 2 default)≤t.l.length:=by
    rw [ok.tl,ok.c]
    exact Int.mul_le_mul_of_nonneg_right (by omega) (Int.mul_nonneg (by omega) (by omega))
   obtain ⟨k,hk⟩:∃k:Nat,G3 S i*(N:Int)+(pre2.length:Int)=(k:Int):=⟨_,(Int.toNat_of_nonneg (by omega)).symm⟩
   have hkl:k<f.l.length:=by
    have h1:(G3 S i+1)*(N:Int)≤f.s.getD 0 default*(N:Int):=Int.mul_le_mul_of_nonneg_right (by have:=ok.o;omega) (by omega)
    have h2:=ok.fl
    rw [Int.add_mul,Int.one_mul] at h1
    omega
   have ek:(G3 S i).toNat*N+j=k:=by
    have:((G3 S i).toNat:Int)=G3 S i:=Int.toNat_of_nonneg ci.1
    have h2:(((G3 S i).toNat*N+j:Nat):Int)=(k:Int):=by push_cast;rw [this,hj];exact hk
    exact_mod_cast h2
   rw [hk] at B
   have eS:Mm t.l f.l t.s S (f.s.drop 1) N y I i pre2.length+ME t.l (t.s.getD 1 default) (t.s.getD 2 default) (G3 (f.s.drop 1) j) (HQ S i*y - I+HQ (f.s.drop 1) j) (HR S i*y - I+HR (f.s.drop 1) j)*f.l.getD k default=Mm t.l f.l t.s S (f.s.drop 1) N y I i (pre2.length+1):=by
    rw [← ek,hj];rfl
   refine Cg.block<|Dg<|Cg.tail 30 AS (by kernel_rfl) (by kernel_rfl)<|Ad (fun X Q=>Ah (CF _) O (AO.bs ‹_› Q) O) O ?_
   refine Ad (fun X Q=>Ah (Qn _) O (AO.bs ‹_› Q) O) O ?_
   refine Ad (fun X Q=>Cd underlying233 O (BA _)) O<|Ad (fun X Q=>Ah (AK _) O (AO.bs ‹_› Q) O) O ?_
   refine Ad (fun X Q=>Cd underlying233 O (BA _)) O<|Ad (fun X Q=>Ah (AK _) O (AO.bs ‹_› Q) O) O ?_
   refine Ad (fun X Q=>Ah (AK _) O (AO.bs ‹_› Q) O) O ?_
   refine Ad (fun X Q=>C6 O O (by omega)) O<|Ad (fun X Q=>Ah (AK _) O (AO.bs ‹_› Q) O) O ?_
   refine Ad (fun X Q=>Du O O (by omega)) O<|Ad (fun X Q=>Cd underlying233 O (BA _)) O<|Ad (fun X Q=>Ah (AK _) O (AO.bs ‹_› Q) O) O ?_
   refine Ad (fun X Q=>De O O (by omega)) O<|Ad (fun X Q=>Cd underlying233 O (BA _)) O<|Ad (fun X Q=>Ah (AK _) O (AO.bs ‹_› Q) O) O ?_
   refine Ad (fun X Q=>Ah (AK _) O (AO.bs ‹_› Q) O) O ?_
   refine Ad (fun X Q=>C6 O O (by omega)) O<|Ad (fun X Q=>Ah (AK _) O (AO.bs ‹_› Q) O) O ?_
   refine Ad (fun X Q=>Du O O (by omega)) O<|Ad (fun X Q=>Cd underlying233 O (BA _)) O<|Ad (fun X Q=>Ah (AK _) O (AO.bs ‹_› Q) O) O ?_
   refine Ad (fun X Q=>De O O (by omega)) O<|E1 (p:=[GY t]) (q:=[]) O O O (fun X Q=>(Sh t (G3 (f.s.drop 1) j) (HQ S i*y - I+HQ (f.s.drop 1) j) (HR S i*y - I+HR (f.s.drop 1) j) X (Sl.bs h_ty Q) (by omega) (by omega) (by omega) (by omega) (by omega) tl).q Q)<|Ad (fun X Q=>Cd underlying33 O (BC _)) O<|Ad (fun X Q=>Ah (BG _) O (AO.bs ‹_› Q) O) O ?_
   refine Ad (fun X Q=>Ah (AK _) O (AO.bs ‹_› Q) O) O ?_
   refine Ad (fun X Q=>Ay AU O O (Sl.bs h_fy Q) k O hkl) O<|Ad (fun X Q=>Bj (CF _) O (Sl.bs ‹_› Q) (by omega)) O ?_
   refine Ad (fun X Q=>En O O) O<|Ad (fun X Q=>D7 O O) O ?_
   refine Dc (fun w5 Q=> ?_)
   have C:=C.bs Q
   have B:=B.bs Q
   have hK5:=hK4.trans (Q.mono (Nat.le_trans zB2 hK4.size))
   refine Az (Dj (u:=i32 (Mm t.l f.l t.s S (f.s.drop 1) N y I i (pre2.length+1))) (ER _) O (cngA (fun z=>some (i32 z)) eS) O C Nat.zero_lt_one) ?_
   rintro w6 ⟨b_m6,hg, -⟩
   have B:=B.by hg (fun e=>Gs B C (by decide) (Option.some.inj e))
   have hK6:=hK5.grown hg (Nat.le_trans zB2 hK5.size) (by rintro _ ⟨⟩;omega)
   refine Bf (Pg.low ?_)
   refine Cy (Cg.out ?_)
   refine C7 (by kernel_rfl)<|Aa (Ah (AK _) O ‹_› rfl) O ?_
   refine B7 O (by omega)<|Az (Dj (u:= .int .i64 (G3 S i*(N:Int)+((pre2.length+1:Nat):Int))) (BA _) O (cngA (fun z=>some (Value.int .i64 z)) (by omega)) O B Nat.zero_lt_one) ?_
   rintro w7 ⟨b_k7,hg7, -⟩
   have b_m7:AO w6 A_m 21 _:=b_m6
   have b_m7:=b_m7.by hg7 (fun e=>Gs b_m7 B (by decide) (Option.some.inj e))
   have hK7:=hK6.grown hg7 (Nat.le_trans zB2 hK6.size) (by rintro _ ⟨⟩;omega)
   have el:(pre2++[j]).length=pre2.length+1:=by simp
   refine Bf (Pg.low ?_)
   refine Er ?_
   exact Gf ((((KeepsFrom.refl _ _).bs Q).blk C hg).blk B hg7) (((Kp.refl.bs Q).grown hg (fun b e h=>by cases e;exact nj1 h)).grown hg7 (fun b e h=>by cases e;exact nj2 h)) (⟨by rw [el];exact b_m7,by rw [el];exact b_k7,hK7,((hKf4.bs Q).blk C hg).blk B hg7⟩)
  rintro v ⟨C,B,hK2,hKf⟩
  have eN:(range (Shapes.size (f.s.drop 1)).toNat).length=N:=by rw [length_range];exact hN.symm
  rw [eN] at C
  rw [show Mm t.l f.l t.s S (f.s.drop 1) N y I i N=Ja t f y I i by unfold Ja;rw [← hN,← hS]] at C
  clear B
  have J:=J.bl hK2 (by omega)
  have D:=D.bl hK2 (by omega)
  have U:=U.bl hK2 (by omega)
  have b_i:=b_i.bl hK2 (by omega)
  have Z:=CG Z (fun k e=>hK2.block k (hob k e).2)
  have hN1:Below B2 w v:=((hB2 ▸ hn2).trans (hn3.mono (by have:=hn2.size;omega))).trans hK2
  have zv:=hN1.size
  have lM:pre.length<4096:=by omega
  refine Er ?_
  refine Cy (Cg.out ?_)
  refine C7 (by kernel_rfl)<|Aa (Ah (BG _) O ‹_› rfl) O ?_
  refine Aa (Ah (CF _) O ‹_› rfl) O ?_
  refine Bk (Dl (vs:=[Ja t f y I i].map i32) AU DY O O O O O) O ?_
  rintro z w5 ⟨hz, -,hn5, -⟩
  have J:=J.bs hn5
  have D:=D.bs hn5
  have U:=U.bs hn5
  have b_i:=b_i.bs hn5
  have Z:=AL Z hn5
  have z5:=hn5.size
  refine Bk (Dp (base:=B1) AU DY O (by decide) O O Z (AI hz) (DE (fun _=>rfl) _) (by omega) (by omega) (by omega)) O ?_
  rintro ov2 w6 ⟨ho6,hb6,hg6⟩
  rw [← map_append,← map_singleton (f:=Ja t f y I),← map_append] at ho6
  have hne:∀{A T:Nat} {cs:List Value},AO w5 A T cs→21≠T→some A≠ov.ownBlock:=fun h e=>HM Z h e
  have b_o6:=J.by hg6 (hne J (by decide))
  have D:=D.by hg6 (hne D (by decide))
  have U:=U.by hg6 (hne U (by decide))
  have b_i6:=b_i.by hg6 (hne b_i (by decide))
  have hK6:Below B1 w0 w6:=((hK.trans (hN1.mono (by omega))).trans (hn5.mono (by omega))).trans hb6
  refine Az (Dj (u:=ov2) (BC _) O O (AI ho6).one' b_o6 Nat.zero_lt_one) ?_
  rintro w7 ⟨b_o7,hg7, -⟩
  have ho7:=EG ho6 b_o6 (by decide) hg7
  have D:=D.by hg7 (fun e=>Gs D b_o6 (by decide) (Option.some.inj e))
  have U:=U.by hg7 (fun e=>Gs U b_o6 (by decide) (Option.some.inj e))
  have b_i7:=b_i6.by hg7 (fun e=>Gs b_i6 b_o6 (by decide) (Option.some.inj e))
  have hK7:=hK6.grown hg7 (Nat.le_trans zB1 hK6.size) (by rintro _ ⟨⟩;omega)
  have el:(pre++[i]).length=pre.length+1:=by simp
  refine Bf (Pg.low ?_)
  refine Er ?_
  exact Gf ((((((((KeepsFrom.refl _ _).bs hn2).bs hn3).trans hKf).bs hn5).own Z hg6).blk b_o6 hg7)) (((((Kp.refl.below hN1 (fun b h=>h.elim (fun h=>by omega) (fun h=>by have:=hxl b h;omega))).bs hn5).grown hg6 (fun b e h=>h.elim (fun h=>hne b_i (by decide) (by rw [← h,e])) (fun h=>by have:=hxl b h;have:=hob b e;omega))).grown hg7 (fun b e h=>by cases e;exact h.elim (fun h=>Gs b_i6 b_o6 (by decide) h.symm) (fun h=>by have:=hxl A_o h;omega)))) (⟨⟨ov2,b_o7,by rw [el];exact ho7⟩,D,U,b_i7,hK7⟩)
 rintro d w hd ⟨⟨ov,J,Z⟩,D,U,b_i,hK⟩ hD
 have eM:(range (Shapes.size S).toNat).length=M:=by rw [length_range];exact hM.symm
 have hx:=CG hx (fun k e=>hK.block k (by have:=hxl k e;omega))
 have K:=K.bl hK (by omega)
 have V:=V.trans (hK.mono (by omega))
 have zK:=hK.size
 have eL:(range (Shapes.size S).toNat).map (Ja t f y I)=Lm t f y I:=by unfold Lm;rw [← hS]
 rw [eL] at Z
 rw [length_range] at Z
 have lL:(Lm t f y I).length=(Shapes.size S).toNat:=by rw [← eL];simp
 rw [← lL] at Z
 have hox:=AG Z
 refine Er ?_
 refine Cy (Cg.out ?_)
 refine Dg<|C7 (by kernel_rfl)<|Ac O<|Aa (Ah (BG _) O ‹_› rfl) O ?_
 refine Aa (C4 (vs:=[(0,x),(1,ov)]) (cs:=[x,ov]) O (Hs _ _ (AQ hx).one (AQ Z).one)) O<|Az (Bv (cs:=[x,ov]) O O O O (by simp [(AQ hx).one',(AQ Z).one']) K O) ?_
 rintro w4 ⟨b_r4,hg,hz4⟩
 have hD:=(hg.block d (Array.getElem?_eq_some_iff.1 hD).1 (by intro e;cases e;omega)).trans hD
 have V:=V.grown hg (by omega) (by rintro _ ⟨⟩;omega)
 have Z:=CG Z (fun k e=>hg.block k (AG Z k e).2 (by intro e2;have:=hox k e;cases e2;omega))
 have hx:=CG hx (fun k e=>hg.block k (AG hx k e).2 (by intro e2;cases e2;have:=AG hx _ e;omega))
 have zB:=AA V
 refine Ab O ?_
 refine Bf (Pg.low ?_)
 refine Cy (Cg.out ?_)
 refine E9 ?_
 refine F7 (hD) (fun w a _=> ?_)
 have K:=b_r4.nc a
 have Z:=Ip Z a
 have hx:=Ip hx a
 have V:=V.nc a (by omega) (AX _)
 refine Bt O O O ‹_› underlying33 O O O ?_
 exact ⟨V,x,ov,rfl,fun h=>absurd rfl h,fun _=>⟨.inl (BH hx (by omega)),BH Z (by omega),fun k e1 e2=>by have:=hox k e1;have:=hxl k e2;omega⟩⟩
theorem XR (t f:T4) (a b:Int) (W:World) (d:t.at W) (c:f.at W):AM prog 130 [t.v,f.v, .int .i64 a, .int .i64 b] W (fun r e=>Below W.heap.size W e∧IM W e r (Ho t f a b) (FG t.s f.s a b) (Lm t f a b)):=
 (W5 t f a b W d c).mono fun _ _ ⟨h,g⟩=>⟨h,g.gets⟩

def HZ (t:T4) (wide:Int):Int:=if tok t.s t.l then CE t.s wide else 1
def Lk (t:T4) (wide:Int):List (BitVec 32):=Xa t.l t.s (GJ t.s wide) wide.toNat
structure XM (t:T4) (wide:Int):Prop where
 lt:t.s.length=3
 w:1≤wide∧wide≤64
 w1:wide≤t.s.getD 1 default
 w2:wide≤t.s.getD 2 default
 gt:Shapes.good t.s
 tl:(t.l.length:Int)=t.s.getD 0 default*(t.s.getD 1 default*t.s.getD 2 default)
 ok:Shapes.ok (GJ t.s wide)=true
 s1:HV (t.s.getD 1 default) wide wide=t.s.getD 1 default / wide
 s2:HV (t.s.getD 2 default) wide wide=t.s.getD 2 default / wide
theorem I5 {r w:Int} (c:1≤w) (b:w≤r):HV r w w=r / w∧1≤r / w∧r / w≤r∧r / w*w≤r:=by
 have e:(r - w) / w=r / w - 1:=by
  have:=Int.add_mul_ediv_right (r - w) 1 (show w≠0 by omega)
  rw [Int.one_mul,Int.sub_add_cancel] at this
  omega
 have e2:HV r w w=r / w:=by unfold HV;rw [if_neg (by omega),e];omega
 have a:=Int.ediv_nonneg (show 0≤r - w by omega) (show 0≤w by omega)
 exact ⟨e2,by omega,Int.ediv_le_self _ (by omega),Int.ediv_mul_le _ (by omega)⟩
theorem KR {t:T4} {a:Int} (p:tok t.s t.l=true) (e:CE t.s a=0):XM t a:=by
 obtain ⟨j,v⟩:=BJ p
 have T:=(Shapes.ok_iff t.s).1 j
 have c:Hu t.s a=false:=by cases h:Hu t.s a<;>simp [CE,h] at e ⊢
 have i:Il t.s a=true:=by cases h:Il t.s a<;>simp [CE,c,h] at e ⊢
 simp only [Il,Bool.and_eq_true,decide_eq_true_eq] at i
 obtain ⟨⟨lt,g⟩,m⟩:=i
 simp only [Hu,Bool.or_eq_false_iff,decide_eq_false_iff_not] at c
 obtain ⟨⟨-,C⟩,D⟩:=c
 have z:=AW T.2.1 (k:=0) (by omega)
 have B:=AW T.2.1 (k:=1) (by omega)
 have x:=AW T.2.1 (k:=2) (by omega)
 obtain ⟨d,A,s, -⟩:=I5 (r:=t.s.getD 1 default) (w:=a) (by omega) g
 obtain ⟨b,u,o, -⟩:=I5 (r:=t.s.getD 2 default) (w:=a) (by omega) m
 have n:=MB lt
 have l:(GJ t.s a).length=3:=rfl
 have ps:Shapes.prod (GJ t.s a)=t.s.getD 0 default*(t.s.getD 1 default / a*(t.s.getD 2 default / a)):=by
  rw [MB l]
  show t.s.getD 0 default*(HV (t.s.getD 1 default) a a*HV (t.s.getD 2 default) a a)=_
  rw [d,b]
 have q:t.s.getD 1 default / a*(t.s.getD 2 default / a)≤t.s.getD 1 default*t.s.getD 2 default:=Int.mul_le_mul s o (by omega) (by omega)
 have E:t.s.getD 0 default*(t.s.getD 1 default / a*(t.s.getD 2 default / a))≤t.s.getD 0 default*(t.s.getD 1 default*t.s.getD 2 default):=Int.mul_le_mul_of_nonneg_left q (by omega)
 refine ⟨lt,by omega,g,m,T.2.1, ?_,(Shapes.ok_iff _).2 ⟨by rw [l];omega, ?_,by rw [ps];omega⟩,d,b⟩
 ·have:=Shapes.size_ok j
  rw [← n];have:=Shapes.size_le t.s;omega
 ·intro y f
  simp only [GJ,mem_cons,not_mem_nil,or_false] at f
  rw [d,b] at f
  rcases f with rfl|rfl|rfl<;>omega
set_option maxHeartbeats 2000000 in
theorem W1 (t:T4) (C:Int) (W:World) (B:t.at W):
  AM prog 122 [t.v, .int .i64 C] W (fun r J=>Below W.heap.size W J∧Qx W J r (HZ t C) (GJ t.s C) (Lk t C)):=by
 have H:=Below.refl W.heap.size W
 have h_t0:=B
 refine E8 (n:=85) func122 (by kernel_rfl) O O O<|Dg<|C7 (by kernel_rfl)<|B5 (cs:=[t.x,t.y]) O O O ?_
 rintro A_t w eA_t L a -
 have H:=H.bs a
 have B:=B.bs a
 refine B5 (cs:=[.int .i64 C]) O O O ?_
 rintro A_s w eA_s F a -
 have H:=H.bs a
 have B:=B.bs a
 have L:=L.bs a
 have z0:=AA H
 refine Cx AY O ?_
 rintro A_r w eA_r E a -
 have H:=H.bs a
 have B:=B.bs a
 have L:=L.bs a
 have F:=F.bs a
 refine Ab O ?_
 refine Bf (Pg.low ?_)
 refine Cy (Cg.out ?_)
 refine Dg<|Dg<|C7 (by kernel_rfl)<|Aa (B9 (AT _) (AP _) O O ‹_›) O ?_
 have z_r:=AH E
 refine Aj O O (DS t.x t.y t.s t.l _ B.1 B.2) ?_
 rintro _ w ⟨rfl,a⟩
 have H:=H.bs a
 have B:=B.bs a
 have L:=L.bs a
 have F:=F.bs a
 have E:=E.bs a
 refine Aa (Ck O) O ?_
 refine Bf (Pg.low ?_)
 refine Cy (Cg.out ?_)
 refine E6 O ?_ ?_
 ·intro g
  refine Dg<|C7 (by kernel_rfl)<|C8 O<|Az (Bv (cs:=[.slice none 0 0, .slice none 0 0]) O O O O O E O) ?_
  rintro w3 ⟨E,hg, -⟩
  have H:=H.grown hg (AA H) (by rintro _ ⟨⟩;omega)
  refine Ab O ?_
  refine Bf (Pg.low ?_)
  refine Cy (Cg.out ?_)
  refine E9<|E2<|Et<|Bt O O O ‹_› underlying33 O O O ?_
  rw [show HZ t C=1 by simp_all [HZ]]
  exact ⟨H,Gw (by decide)⟩
 intro g1
 have k_t:tok t.s t.l=true:=by simpa using g1
 have hE:HZ t C=CE t.s C:=by rw [HZ,k_t];rfl
 clear g1
 rw [hE]
 have h_t1:=B.1
 have zr0:=AH E
 have zrB:=AA H
 refine E0 ?_
 refine Cy (Cg.out ?_)
 refine Dg<|C7 (by kernel_rfl)<|Be underlying33 O (AN _)<|Aa (Ah (AF _) O ‹_› rfl) O ?_
 refine Aa (Ah (AK _) O ‹_› rfl) O ?_
 refine Aj O O (My t.s C t.x _ B.1) ?_
 rintro _ R ⟨a,x,m',rfl,U,hno,hyes⟩
 have H:=H.bs a
 have B:=B.bs a
 have L:=L.bs a
 have F:=F.bs a
 have E:=E.bs a
 clear a
 refine Ac O<|Aa (As (i:=0) O O) O<|Aa (As (i:=1) O O) O<|Ab O<|Ab O ?_
 refine Bf (Pg.low ?_)
 refine Cy (Cg.out ?_)
 refine Dg<|Dg<|C7 (by kernel_rfl)<|Ac O<|Aa (Cs O O) O ?_
 refine Bf (Pg.low ?_)
 refine Cy (Cg.out ?_)
 refine E6 O ?_ ?_
 ·intro g
  have g:CE t.s C≠0:=by simpa using g
  refine Dg<|C7 (by kernel_rfl)<|C8 O<|Ac O<|Az (Bv (cs:=[.slice none 0 0, .slice none 0 0]) O O O O O E O) ?_
  rintro w3 ⟨E,hg, -⟩
  have H:=H.grown hg (AA H) (by rintro _ ⟨⟩;omega)
  refine Ab O ?_
  refine Bf (Pg.low ?_)
  refine Cy (Cg.out ?_)
  refine E9<|E2<|Et<|Bt O O O ‹_› underlying33 O O O ?_
  exact ⟨H,Gw g⟩
 intro g
 have e0:CE t.s C=0:=by simpa using g
 clear g
 rw [e0]
 have hm:=hyes e0
 have ok:=KR k_t e0
 clear hno hyes e0 hE
 obtain ⟨m,rfl⟩:∃m:Nat,C=(m:Int):=⟨C.toNat,by have:=ok.w;omega⟩
 obtain ⟨S,hS⟩:∃S,S=GJ t.s (m:Int):=⟨_,rfl⟩
 have lS:S.length=3:=by rw [hS];rfl
 have S0:S.getD 0 default=t.s.getD 0 default:=by rw [hS];rfl
 have okS:Shapes.ok S=true:=by rw [hS];exact ok.ok
 have gS:=((Shapes.ok_iff _).1 okS).2.1
 rw [hm,← hS] at U
 rw [← hS]
 clear hm
 have szS:=Shapes.size_le S
 obtain ⟨M,hM⟩:∃M,M=(Shapes.size S).toNat:=⟨_,rfl⟩
 have l3:=ok.lt
 have okw:=ok.w
 refine E0 ?_
 refine Cy (Cg.out ?_)
 refine Dg ?_
 have zW:=AA H
 obtain ⟨X,hB1⟩:∃X,X=R.heap.size:=⟨_,rfl⟩
 have hxl:=AG U
 have q_t:A_t<X:=hB1 ▸ AH L
 have q_s:A_s<X:=hB1 ▸ AH F
 have q_r:A_r<X:=hB1 ▸ AH E
 refine F5 (St:=Value×Nat×Nat) (fun z=>[(2, .pointer (some ⟨A_t,0,none⟩)),(3, .pointer (some ⟨A_s,0,none⟩)),(4, .pointer (some ⟨A_r,0,none⟩)),(6,x),(8, .pointer (some ⟨z.2.1,0,none⟩)),(9, .pointer (some ⟨z.2.2,0,none⟩))]) (fun z J=>Below R.heap.size R J∧J.ownsRow X 21 1 z.1 0 []∧X≤z.2.1∧AO J z.2.1 31 [z.1]∧X≤z.2.2∧AO J z.2.2 226 [.func (.func 214) #[GY t] #[]]) ?_ ?_
 ·refine Cg.any AS (by kernel_rfl) (fun w Z _=> ?_)
  have b_t9:=L.bs Z
  have h_t9:=B.bs Z
  have hx9:=(AQ U).bs Z
  have zc:=Z.size
  refine Aw.boxes ([.val, .val, .val, .val, .val, .val, .alloc 31 [.slice none 0 0], .alloc 226 [.nilFunc], .st 6 2, .st 7 5]) ([31,226]) (Mz X x (M:Int) t (.func (.func 214) #[GY t] #[])) (by kernel_rfl) (by kernel_rfl) (fun i v w J h g=>NV h g) (fun i v w J A T cs h hb _ hT g=>NU h hb hT g) ?_ ?_
  ·refine Ce (fun s J I hd=>⟨fun j g h=>(by cases h), ?_⟩) ?_
   ·exact Ow.val (B6 rfl) ⟨Below.refl _ _,rfl⟩
   refine Ce (fun s J I hd=>⟨fun j g h=>(by cases h), ?_⟩) ?_
   ·have e0:s 0=x:=hd 0 (by decide) rfl
    refine Ev (Ft (vs:=[x]) (G5 x S J (hx9.bs I)).1 (by show some [s 0]=_;rw [e0])) (G5 x S J (hx9.bs I)) (fun v w2 ⟨e,a⟩=>⟨a, ?_⟩)
    rw [e];exact cngA (Value.int .i64) (by omega)
   refine Ce (fun s J I hd=>⟨fun j g h=>(by cases h), ?_⟩) ?_
   ·have e1:s 1= .int .i64 (M:Int):=hd 1 (by decide) rfl
    refine Ow.mk (Ed (l:=0) (c:=M) AU DY O O (cngA some e1) (Nat.zero_le _) (by omega) (by omega)) (fun v w2 ⟨D,_,a,_⟩=>⟨a, ?_⟩)
    exact BH (B' :=X) D (by have:=I.size;omega)
   refine Ce (fun s J I hd=>⟨fun j g h=>(by cases h), ?_⟩) ?_
   ·exact Ow.val (B9 (k:=2) (AT _) (AP _) rfl rfl (b_t9.bs I)) ⟨Below.refl _ _,rfl⟩
   refine Ce (fun s J I hd=>⟨fun j g h=>(by cases h), ?_⟩) ?_
   ·have e3:s 3=t.v:=hd 3 (by decide) rfl
    exact Ev (Ft (vs:=[t.v]) (QJ t J (h_t9.bs I) (by omega)).1 (by show some [s 3]=_;rw [e3])) (QJ t J (h_t9.bs I) (by omega)) (fun v w2 ⟨e,a⟩=>⟨a,e⟩)
   refine Ce (fun s J I hd=>⟨fun j g h=>(by cases h), ?_⟩) ?_
   ·have e4:s 4=GY t:=hd 4 (by decide) rfl
    exact Ow.val (Ef (vs:=[GY t]) (us:=[]) (by show some [s 4]=_;rw [e4]) rfl) ⟨Below.refl _ _,rfl⟩
   refine Ce (fun s J I hd=>⟨fun j g h=>(by cases h),Ow.alloc Wq⟩) ?_
   refine Ce (fun s J I hd=>⟨fun j g h=>(by cases h),Ow.alloc T6⟩) ?_
   refine Ce (fun s J I hd=>⟨fun j g h=>(by cases h),fun A hA _ hb hP=> ?_⟩) ?_
   ·have D:J.ownsRow X 21 1 (s 2) 0 []:=hP
    have h1:=(AI D).one
    exact Dx (Dj (u:=s 2) (BC _) (cngA some hA) rfl (AI D).one' hb Nat.zero_lt_one) (fun w2 h=>⟨by rw [h1];exact h.1,h.2.1⟩)
   refine Ce (fun s J I hd=>⟨fun j g h=>(by cases h),fun A hA _ hb hP=> ?_⟩) ?_
   ·have e5:s 5= .func (.func 214) #[GY t] #[]:=hP
    exact Dx (Dj (u:=s 5) (S9 _) (cngA some hA) rfl (by rw [e5];rfl) hb Nat.zero_lt_one) (fun w2 h=>⟨by rw [e5];rw [e5] at h;exact h.1,h.2.1⟩)
   exact Fa
  intro s J I hall hbox _
  obtain ⟨A_o,hAo,l_o,y⟩:=NI hbox 6 8 (by decide) rfl (by decide) rfl
  obtain ⟨A_g,hAg,l_g,o⟩:=NI hbox 7 9 (by decide) rfl (by decide) rfl
  have D:J.ownsRow X 21 1 (s 2) 0 []:=hall 2 (by decide) rfl
  have e5:s 5= .func (.func 214) #[GY t] #[]:=hall 5 (by decide) rfl
  have h2:(DW [.val, .val, .val, .val, .val, .val, .alloc 31 [.slice none 0 0], .alloc 226 [.nilFunc], .st 6 2, .st 7 5] 8).cells s=[s 2]:=by show (s 2).cells.toList=_;rw [(AI D).one]
  have h5:(DW [.val, .val, .val, .val, .val, .val, .alloc 31 [.slice none 0 0], .alloc 226 [.nilFunc], .st 6 2, .st 7 5] 9).cells s=[.func (.func 214) #[GY t] #[]]:=by show (s 5).cells.toList=_;rw [e5];rfl
  rw [h2] at y
  rw [h5] at o
  have Z:=Z.trans (I.mono Z.size)
  refine Pg.low ?_
  exact Fl ((s 2,A_o,A_g)) ⟨rfl,rfl,rfl,rfl,cngA some hAo,cngA some hAg,trivial⟩ (⟨Z,D,by show X≤A_o;omega,y,by show X≤A_g;omega,o⟩)
 rintro ⟨ov,A_o,A_g⟩ w ⟨a,D,l_o,y,l_g,o⟩
 dsimp only at D l_o y l_g o ⊢
 refine Cg.out ?_
 have H:=H.bs a
 have B:=B.bs a
 have L:=L.bs a
 have F:=F.bs a
 have E:=E.bs a
 have U:=U.bs a
 have g0:=AW gS (k:=0) (by omega)
 have g1:=AW gS (k:=1) (by omega)
 have g2:=AW gS (k:=2) (by omega)
 have t0:=AW ok.gt (k:=0) (by omega)
 have t1:=AW ok.gt (k:=1) (by omega)
 have t2:=AW ok.gt (k:=2) (by omega)
 have mm:1*1≤(m:Int)*(m:Int):=Int.mul_le_mul okw.1 okw.1 (by decide) (by omega)
 have mm2:(m:Int)*(m:Int)≤64*64:=Int.mul_le_mul okw.2 okw.2 (by omega) (by decide)
 refine Dg<|Dg<|C7 (by kernel_rfl)<|Ac O<|Aj O O (Nh x S _ (AQ U)) ?_
 rintro _ w ⟨A_i,rfl,G,eA_i,a⟩
 have H:=H.bs a
 have B:=B.bs a
 have L:=L.bs a
 have F:=F.bs a
 have E:=E.bs a
 have U:=U.bs a
 have D:=D.bs a
 have y:=y.bs a
 have o:=o.bs a
 refine Bf (Pg.low ?_)
 refine Cy (Cg.out ?_)
 refine Cg.block ?_
 rename World=>w0
 have zB1:X≤w0.heap.size:=by have:=AH y;omega
 have zi:=AH G
 have zW0:=AA H
 have hxb:=AG U
 refine Gb O (Lt A_i x S w0 G (AQ U) okS lS) (fun b hb=>hb.elim (fun e=>by rw [e];exact zi) (fun e=>(hxb b e).2)) (fun _=>rfl) (by kernel_rfl) (fun (pre:List (Nat)) J=>(∃ov,AO J A_o 31 [ov]∧J.ownsRow X 21 1 ov pre.length ((pre.map (L3 t.l t.s S m)).map i32))∧AO J A_g 226 [.func (.func 214) #[GY t] #[]]∧AO J A_i 23 [x]∧Below X w0 J) (by rintro _ ⟨⟩) ?_ ?_ ?_ ?_ ?_
 ·exact ⟨⟨ov,y,D⟩,o,G,Below.refl _ _⟩
 ·rintro pre A A' ⟨⟨ov,h1,h2⟩,h3,h6,h5⟩ hc
  exact ⟨⟨ov,h1.nc hc,Ip h2 hc⟩,h3.nc hc,h6.nc hc,h5.nc hc zB1 zB1⟩
 ·rintro pre A A' ⟨⟨ov,h1,h2⟩,h3,h6,h5⟩ hc
  have hc:=LK hc
  exact ⟨⟨ov,h1.bs hc,AL h2 hc⟩,h3.bs hc,h6.bs hc,h5.trans (hc.mono (Nat.le_trans zB1 h5.size))⟩
 ·rintro lp pre i u hl ⟨⟨ov,y,D⟩,o,G,hK⟩ hpre hrec
  obtain ⟨hi,hiM, -⟩:=Kh hpre
  refine C7 (by kernel_rfl)<|C1 (cs:=[.int .i64 (G3 S i), .int .i64 (HQ S i), .int .i64 (HR S i)]) PI O O O O (fun _=>rfl) (rfl) ?_
  rintro A_to u1 eA_to N Y zhn1
  refine Bf (Pg.low ?_)
  refine Gg ((KeepsFrom.refl _ _).bs Y) (Kp.refl.bs Y) ?_
  rintro w a hz hrec
  have zu:=AH y
  have hK1:=hK.trans (Y.mono (by omega))
  have hK:=hK1.nc a (by omega) zB1
  have D:=Ip (AL D Y) a
  have y:=(y.bs Y).nc a
  have o:=(o.bs Y).nc a
  have G:=(G.bs Y).nc a
  have N:=N.nc a
  clear hK1 Y zu a hz
  have F:=F.bl hK (by omega)
  have hBw:=H.trans (hK.mono (by omega))
  have zK:=hK.size
  have ci:0≤G3 S i∧G3 S i<S.getD 0 default:=Ni okS lS (by omega)
  have yi:0≤HQ S i∧HQ S i<S.getD 1 default:=⟨Int.emod_nonneg _ (by omega),Int.emod_lt_of_pos _ (by omega)⟩
  have xi2:0≤HR S i∧HR S i<S.getD 2 default:=⟨Int.emod_nonneg _ (by omega),Int.emod_lt_of_pos _ (by omega)⟩
  have my:0≤HQ S i*(m:Int)∧HQ S i*(m:Int)≤64*64:=⟨Int.mul_nonneg yi.1 (by omega),Int.mul_le_mul (by omega) okw.2 (by omega) (by decide)⟩
  have mx' :0≤HR S i*(m:Int)∧HR S i*(m:Int)≤64*64:=⟨Int.mul_nonneg xi2.1 (by omega),Int.mul_le_mul (by omega) okw.2 (by omega) (by decide)⟩
  have tl:(G3 S i+1)*(t.s.getD 1 default*t.s.getD 2 default)≤t.l.length:=by
   rw [ok.tl]
   exact Int.mul_le_mul_of_nonneg_right (by omega) (Int.mul_nonneg (by omega) (by omega))
  have Q:=(h_t0.bs hBw).2
  have hob:∀b,ov.ownBlock=some b→X≤b∧b<w.heap.size:=fun b e=>AG D b e
  refine Cg.block<|Dg<|C7 (by kernel_rfl)<|Aa (Ah (Qn _) O ‹_› rfl) O ?_
  refine Be underlying233 O (BA _)<|Aa (Ah (AK _) O ‹_› rfl) O ?_
  refine Be underlying233 O (BA _)<|Aa (Ah (AK _) O ‹_› rfl) O ?_
  refine Aa (Ah (AK _) O ‹_› rfl) O ?_
  refine Aa (C6 O O (by omega)) O<|Be underlying233 O (BA _)<|Aa (Ah (AK _) O ‹_› rfl) O ?_
  refine Aa (Ah (AK _) O ‹_› rfl) O ?_
  refine Aa (C6 O O (by omega)) O<|Ec (p:=[GY t]) (q:=[]) O O O (Sh t (G3 S i) (HQ S i*(m:Int)) (HR S i*(m:Int)) _ Q (by omega) (by omega) (by omega) (by omega) (by omega) tl) ?_
  rintro _ w ⟨rfl,a⟩
  have D:=D.bs a
  have y:=y.bs a
  have o:=o.bs a
  have G:=G.bs a
  have N:=N.bs a
  have F:=F.bs a
  have Q:=Q.bs a
  have hK6:=hK.trans (a.mono (by omega))
  have hKf:=(KeepsFrom.refl w0.heap.size _).bs a
  have hN1:=a
  rw [show ME t.l (t.s.getD 1 default) (t.s.getD 2 default) (G3 S i) (HQ S i*(m:Int)) (HR S i*(m:Int))=mx (Jj t.l t.s S m i) (Jj t.l t.s S m i 0) 0 by simp [mx,Jj]]
  refine Ab O ?_
  refine Bf (Pg.low ?_)
  refine Cy (Cg.out ?_)
  refine Dg<|Dg<|C7 (by kernel_rfl)<|Aa (Ah (AK _) O ‹_› rfl) O ?_
  refine Aa (Ah (AK _) O ‹_› rfl) O ?_
  refine Aa (C6 O O (by omega)) O<|Ac O ?_
  refine Bf (Pg.low ?_)
  refine Cy (Cg.out ?_)
  refine Cg.block ?_
  rename World=>w8
  refine Cg.loop (S:=Nat) (fun k=>[(3, .pointer (some ⟨A_s,0,none⟩)),(8, .pointer (some ⟨A_o,0,none⟩)),(9, .pointer (some ⟨A_g,0,none⟩)),(10, .pointer (some ⟨A_to,0,none⟩)),(11,i32 (mx (Jj t.l t.s S m i) (Jj t.l t.s S m i 0) k)),(51, .int .i64 ((m:Int)*(m:Int))),(52, .int .i64 (k:Int))]) (fun k J=>k≤m*m∧Below w8.heap.size w8 J) (fun k=>m*m - k) (0) ⟨rfl,rfl,rfl,rfl,rfl,rfl,rfl,trivial⟩ ?_ ?_
  ·exact ⟨Nat.zero_le _,Below.refl _ _⟩
  rintro k w ⟨hk,a⟩
  have mmc:((m*m:Nat):Int)=(m:Int)*(m:Int):=Int.natCast_mul m m
  refine Dg<|C7 (by kernel_rfl)<|B3 O ?_
  refine Bf (Pg.low ?_)
  refine Cy (Cg.out ?_)
  refine Dg ?_
  refine E6 O ?_ ?_
  ·intro h
   have hk' :k<m*m:=by have:=AD h;omega
   have km:(0:Int)≤((k / m:Nat):Int)∧((k / m:Nat):Int)<m:=⟨Int.natCast_nonneg _,by have:=Nat.div_lt_of_lt_mul hk';exact_mod_cast this⟩
   have kr:(0:Int)≤((k % m:Nat):Int)∧((k % m:Nat):Int)<m:=⟨Int.natCast_nonneg _,by have:=Nat.mod_lt k (show 0<m by omega);exact_mod_cast this⟩
   obtain ⟨kd,hkd⟩:∃d:Nat,d=k / m:=⟨_,rfl⟩
   obtain ⟨ke,hke⟩:∃d:Nat,d=k % m:=⟨_,rfl⟩
   rw [← hkd] at km
   rw [← hke] at kr
   have eF:ME t.l (t.s.getD 1 default) (t.s.getD 2 default) (G3 S i) (HQ S i*(m:Int)+(kd:Int)) (HR S i*(m:Int)+(ke:Int))=Jj t.l t.s S m i k:=by rw [hkd,hke];rfl
   have D:=D.bs a
   have y:=y.bs a
   have o:=o.bs a
   have G:=G.bs a
   have N:=N.bs a
   have F:=F.bs a
   have Q:=Q.bs a
   refine E0 ?_
   refine Cy (Cg.out ?_)
   refine Dg<|Cg.block<|Dg<|C7 (by kernel_rfl)<|Ac O<|Ab O ?_
   refine Bf (Pg.low ?_)
   refine Cy (Cg.out ?_)
   refine Cg.quiet AS (by kernel_rfl) (by kernel_rfl)<|Bg O<|Ad (fun R K=>Ah (Qn _) O (AO.bs ‹_› K) O) O ?_
   refine Ad (fun R K=>Cd underlying233 O (BA _)) O<|Ad (fun R K=>Ah (AK _) O (AO.bs ‹_› K) O) O ?_
   refine Ad (fun R K=>Cd underlying233 O (BA _)) O<|Ad (fun R K=>Ah (AK _) O (AO.bs ‹_› K) O) O ?_
   refine Ad (fun R K=>Ah (AK _) O (AO.bs ‹_› K) O) O ?_
   refine Ad (fun R K=>C6 O O (by omega)) O<|Bg O<|Ad (fun R K=>Ah (AK _) O (AO.bs ‹_› K) O) O ?_
   refine Ad (fun R K=>(Dz O O (by omega) (by omega)).as (cngA (Value.int .i64) (show (k:Int) / (m:Int)=(kd:Int) by rw [hkd];rfl))) O<|Ad (fun R K=>De O O (by omega)) O<|Ad (fun R K=>Cd underlying233 O (BA _)) O<|Ad (fun R K=>Ah (AK _) O (AO.bs ‹_› K) O) O ?_
   refine Ad (fun R K=>Ah (AK _) O (AO.bs ‹_› K) O) O ?_
   refine Ad (fun R K=>C6 O O (by omega)) O<|Bg O<|Ad (fun R K=>Ah (AK _) O (AO.bs ‹_› K) O) O ?_
   refine Ad (fun R K=>(El O O (by omega) (by omega)).as (cngA (Value.int .i64) (show (k:Int) % (m:Int)=(ke:Int) by rw [hke];rfl))) O<|Ad (fun R K=>De O O (by omega)) O<|E1 (p:=[GY t]) (q:=[]) O O O (fun R K=>(Sh t (G3 S i) (HQ S i*(m:Int)+(kd:Int)) (HR S i*(m:Int)+(ke:Int)) R (Sl.bs Q K) (by omega) (by omega) (by omega) (by omega) (by omega) tl).q K)<|Ad (fun R K=>(E5 O O).as (cngA (Value.int .i32) (Og _ _).symm)) O<|Dk O ?_
   refine Cr (fun w9 K=>(Pg.low ?_))
   refine Er ?_
   refine Cy (Cg.out ?_)
   refine C7 (by kernel_rfl)<|B7 O (by omega)<|Ac O ?_
   refine Bf (Pg.low ?_)
   exact Cy (Pg.next (k+1) ⟨rfl,rfl,rfl,rfl,cngA (fun z=>some (i32 (SM _ z))) eF,rfl,rfl,trivial⟩ (⟨hk',bt a K⟩) (by omega))
  intro h
  have hk' :k=m*m:=by have:=AB h;omega
  subst hk'
  have D:=D.bs a
  have y:=y.bs a
  have o:=o.bs a
  have G:=G.bs a
  have N:=N.bs a
  have F:=F.bs a
  have Q:=Q.bs a
  have hKf:=hKf.bs a
  have zu:=hN1.size
  have zn:=a.size
  have hK7:=hK6.trans (a.mono (by omega))
  have lM:pre.length<4096:=by omega
  refine Cg.exit<|Fb<|Fb<|Fu ?_
  refine Cy (Cg.out ?_)
  refine C7 (by kernel_rfl)<|Aa (Ah (BG _) O ‹_› rfl) O ?_
  refine Ac O<|Bk (Dl (vs:=[L3 t.l t.s S m i].map i32) AU DY O O O O O) O ?_
  rintro z w5 ⟨hz, -,hn5, -⟩
  have y:=y.bs hn5
  have o:=o.bs hn5
  have G:=G.bs hn5
  have D:=AL D hn5
  have z5:=hn5.size
  refine Bk (Dp (base:=X) AU DY O (by decide) O O D (AI hz) (DE (fun _=>rfl) _) (by omega) (by omega) (by omega)) O ?_
  rintro ov2 w6 ⟨ho6,hb6,hg6⟩
  rw [← map_append,← map_singleton (f:=L3 t.l t.s S m),← map_append] at ho6
  have hne:∀{A T:Nat} {cs:List Value},AO w5 A T cs→21≠T→some A≠ov.ownBlock:=fun h e=>HM D h e
  have V:=y.by hg6 (hne y (by decide))
  have o:=o.by hg6 (hne o (by decide))
  have b_i6:=G.by hg6 (hne G (by decide))
  have hK6:Below X w0 w6:=(hK7.trans (hn5.mono (by omega))).trans hb6
  refine Az (Dj (u:=ov2) (BC _) O O (AI ho6).one' V Nat.zero_lt_one) ?_
  rintro w7 ⟨b_o7,hg7, -⟩
  have ho7:=EG ho6 V (by decide) hg7
  have o:=o.by hg7 (fun e=>Gs o V (by decide) (Option.some.inj e))
  have b_i7:=b_i6.by hg7 (fun e=>Gs b_i6 V (by decide) (Option.some.inj e))
  have hK7:=hK6.grown hg7 (Nat.le_trans zB1 hK6.size) (by rintro _ ⟨⟩;omega)
  have el:(pre++[i]).length=pre.length+1:=by simp
  refine Bf (Pg.low ?_)
  refine Er ?_
  exact Gf (((hKf.bs hn5).own D hg6).blk V hg7) (((((Kp.refl.bs hN1).bs a).bs hn5).grown hg6 (fun b e h=>h.elim (fun h=>hne G (by decide) (by rw [← h,e])) (fun h=>by have:=hxl b h;have:=hob b e;omega))).grown hg7 (fun b e h=>by cases e;exact h.elim (fun h=>Gs b_i6 V (by decide) h.symm) (fun h=>by have:=hxl A_o h;omega))) (⟨⟨ov2,b_o7,by rw [el];exact ho7⟩,o,b_i7,hK7⟩)
 rintro d w hd ⟨⟨ov,y,D⟩,o,G,hK⟩ hD
 have eM:(range (Shapes.size S).toNat).length=M:=by rw [length_range];exact hM.symm
 have U:=CG U (fun k e=>hK.block k (by have:=hxl k e;omega))
 have E:=E.bl hK (by omega)
 have H:=H.trans (hK.mono (by omega))
 have zK:=hK.size
 have eL:(range (Shapes.size S).toNat).map (L3 t.l t.s S m)=Lk t (m:Int):=by unfold Lk Xa;rw [← hS,Int.toNat_natCast]
 rw [eL] at D
 rw [length_range] at D
 have lL:(Lk t (m:Int)).length=(Shapes.size S).toNat:=by rw [← eL];simp
 rw [← lL] at D
 have hox:=AG D
 refine Er ?_
 refine Cy (Cg.out ?_)
 refine Dg<|C7 (by kernel_rfl)<|Ac O<|Aa (Ah (BG _) O ‹_› rfl) O ?_
 refine Aa (C4 (vs:=[(0,x),(1,ov)]) (cs:=[x,ov]) O (Hs _ _ (AQ U).one (AQ D).one)) O<|Az (Bv (cs:=[x,ov]) O O O O (by simp [(AQ U).one',(AQ D).one']) E O) ?_
 rintro w4 ⟨b_r4,hg,hz4⟩
 have hD:=(hg.block d (Array.getElem?_eq_some_iff.1 hD).1 (by intro e;cases e;omega)).trans hD
 have H:=H.grown hg (by omega) (by rintro _ ⟨⟩;omega)
 have D:=CG D (fun k e=>hg.block k (AG D k e).2 (by intro e2;have:=hox k e;cases e2;omega))
 have U:=CG U (fun k e=>hg.block k (AG U k e).2 (by intro e2;cases e2;have:=AG U _ e;omega))
 have zB:=AA H
 refine Ab O ?_
 refine Bf (Pg.low ?_)
 refine Cy (Cg.out ?_)
 refine E9 ?_
 refine F7 (hD) (fun w a _=> ?_)
 have E:=b_r4.nc a
 have D:=Ip D a
 have U:=Ip U a
 have H:=H.nc a (by omega) (AX _)
 refine Bt O O O ‹_› underlying33 O O O ?_
 exact ⟨H,x,ov,rfl,fun h=>absurd rfl h,fun _=>⟨.inl (BH U (by omega)),BH D (by omega),fun k e1 e2=>by have:=hox k e1;have:=hxl k e2;omega⟩⟩
theorem XQ (t:T4) (a:Int) (W:World) (b:t.at W):AM prog 122 [t.v, .int .i64 a] W (fun r c=>Below W.heap.size W c∧IM W c r (HZ t a) (GJ t.s a) (Lk t a)):=
 (W1 t a W b).mono fun _ _ ⟨e,d⟩=>⟨e,d.gets⟩

theorem KP {d w c:World} {a:T4} {B:Nat} (p:a.at d) (h:a.at w) (f:d.heap.size≤B) (g:Below B w c):a.at c:=
 ⟨Sl.stay h.1 fun k e b=>g.block k (Nat.lt_of_lt_of_le (Sl.blk p.1 b k e) f),Sl.stay h.2 fun k e b=>g.block k (Nat.lt_of_lt_of_le (Sl.blk p.2 b k e) f)⟩
theorem Py (a:T4) (c y x:Int) (W:World) (j:a.at W) (G:a.s.length=3) (l:0≤a.s.getD 1 default∧a.s.getD 1 default≤64) (o:0≤a.s.getD 2 default∧a.s.getD 2 default≤64) (v:0≤c∧c≤4096)
  (F: -1000000≤y∧y≤1000000) (H: -1000000≤x∧x≤1000000) (E:(c+1)*(a.s.getD 1 default*a.s.getD 2 default)≤a.l.length):
  AM prog 145 [a.v, .int .i64 c, .int .i64 y, .int .i64 x] W (fun r A=>r=i32 (ME a.l (a.s.getD 1 default) (a.s.getD 2 default) c y x)∧Below W.heap.size W A):=by
 have h:=Below.refl W.heap.size W
 have f:=j.1
 have d:=j.2
 refine Bb (n:=50) func145 O<|Af<|B5 (cs:=[a.x,a.y]) O O O ?_
 rintro C w u B m -
 have h:=h.bs m
 have f:=f.bs m
 have d:=d.bs m
 refine Aa (Cf (show _=some (i32 (0#32)) from rfl)) O<|Bh<|Ac O<|B3 O<|Ac O ?_
 refine Cc 11 O ?_ ?_
 ·intro g
  have g:=AD g
  exact Ae (dj:=11) rfl rfl rfl rfl<|Ae (dj:=11) rfl rfl rfl rfl<|Ae (dj:=11) rfl rfl rfl rfl<|Ae (dj:=11) rfl rfl rfl rfl<|Ae (dj:=11) rfl rfl rfl rfl<|Ae (dj:=11) rfl rfl rfl rfl<|B4 rfl<|Ac rfl<|Ae (dj:=19) rfl rfl rfl rfl<|Ae (dj:=19) rfl rfl rfl rfl<|B4 rfl<|Ac rfl<|Ae (dj:=23) rfl rfl rfl rfl<|Ae (dj:=23) rfl rfl rfl rfl<|Ae (dj:=23) rfl rfl rfl rfl<|Ae (dj:=23) rfl rfl rfl rfl<|Ae (dj:=23) rfl rfl rfl rfl<|Ae (dj:=23) rfl rfl rfl rfl<|B4 rfl<|Ak<|Bz rfl<|Af<|Aa (Cf (show _=some (i32 (0#32)) from rfl)) rfl<|Bu<|Ax rfl rfl<|⟨cngA i32 (by rw [ME,if_pos (by omega)]),h⟩
 intro t
 have t:=AB t
 refine Ag (dj:=11) O O<|Ac O<|Ag (dj:=11) O O<|Be underlying33 O (AN _)<|Ag (dj:=11) O O<|Aa (Ah (AF _) O ‹_› rfl) O ?_
 refine Ag (dj:=11) O O<|Aa (Ay AC O O ‹_› 1 O (by omega)) O ?_
 refine Ag (dj:=11) O O<|Aa (Bj (AK _) O ‹_› (by omega)) O ?_
 refine Ag (dj:=11) O O<|Aa (Ds O O) O<|Cn O<|Ac O ?_
 refine Cc 19 O ?_ ?_
 ·intro g
  have g:=AD g
  exact Ae (dj:=19) rfl rfl rfl rfl<|Ae (dj:=19) rfl rfl rfl rfl<|B4 rfl<|Ac rfl<|Ae (dj:=23) rfl rfl rfl rfl<|Ae (dj:=23) rfl rfl rfl rfl<|Ae (dj:=23) rfl rfl rfl rfl<|Ae (dj:=23) rfl rfl rfl rfl<|Ae (dj:=23) rfl rfl rfl rfl<|Ae (dj:=23) rfl rfl rfl rfl<|B4 rfl<|Ak<|Bz rfl<|Af<|Aa (Cf (show _=some (i32 (0#32)) from rfl)) rfl<|Bu<|Ax rfl rfl<|⟨cngA i32 (by rw [ME,if_pos (by omega)]),h⟩
 intro p
 have p:=AB p
 refine Ag (dj:=19) O O<|Ac O<|Ag (dj:=19) O O<|B3 O<|Cn O<|Ac O ?_
 refine Cc 23 O ?_ ?_
 ·intro g
  have g:=AD g
  exact Ae (dj:=23) rfl rfl rfl rfl<|Ae (dj:=23) rfl rfl rfl rfl<|Ae (dj:=23) rfl rfl rfl rfl<|Ae (dj:=23) rfl rfl rfl rfl<|Ae (dj:=23) rfl rfl rfl rfl<|Ae (dj:=23) rfl rfl rfl rfl<|B4 rfl<|Ak<|Bz rfl<|Af<|Aa (Cf (show _=some (i32 (0#32)) from rfl)) rfl<|Bu<|Ax rfl rfl<|⟨cngA i32 (by rw [ME,if_pos (by omega)]),h⟩
 intro z
 have z:=AB z
 refine Ag (dj:=23) O O<|Ac O<|Ag (dj:=23) O O<|Be underlying33 O (AN _)<|Ag (dj:=23) O O<|Aa (Ah (AF _) O ‹_› rfl) O ?_
 refine Ag (dj:=23) O O<|Aa (Ay AC O O ‹_› 2 O (by omega)) O ?_
 refine Ag (dj:=23) O O<|Aa (Bj (AK _) O ‹_› (by omega)) O ?_
 refine Ag (dj:=23) O O<|Aa (Ds O O) O<|Cn O<|Ak<|Aq O ?_ ?_
 ·intro g
  have g:=AD g
  exact Af<|Aa (Cf (show _=some (i32 (0#32)) from rfl)) rfl<|Bu<|Ax rfl rfl<|⟨cngA i32 (by rw [ME,if_pos (by omega)]),h⟩
 intro s
 have s:=AB s
 have e1:0≤c*a.s.getD 1 default∧c*a.s.getD 1 default≤4096*64:=⟨Int.mul_nonneg v.1 l.1,Int.mul_le_mul v.2 l.2 l.1 (by decide)⟩
 have e2:0≤(c*a.s.getD 1 default+y)*a.s.getD 2 default:=Int.mul_nonneg (by omega) o.1
 have I:(c*a.s.getD 1 default+y+1)*a.s.getD 2 default≤(c*a.s.getD 1 default+a.s.getD 1 default)*a.s.getD 2 default:=Int.mul_le_mul_of_nonneg_right (by omega) o.1
 have K:(c+1)*(a.s.getD 1 default*a.s.getD 2 default)=(c*a.s.getD 1 default+a.s.getD 1 default)*a.s.getD 2 default:=by rw [← Int.mul_assoc,Int.add_mul c 1,Int.one_mul]
 have D:(c*a.s.getD 1 default+y+1)*a.s.getD 2 default=(c*a.s.getD 1 default+y)*a.s.getD 2 default+a.s.getD 2 default:=by rw [Int.add_mul _ 1,Int.one_mul]
 have J:=d.le
 obtain ⟨k,q⟩:∃k:Nat,(c*a.s.getD 1 default+y)*a.s.getD 2 default+x=(k:Int):=⟨_,(Int.toNat_of_nonneg (by omega)).symm⟩
 have i:k<a.l.length:=by omega
 refine B0<|An<|Cv AS (by kernel_rfl)<|Ad (fun e b=>Cd underlying33 O (BC _)) O<|Ad (fun e b=>Ah (BG _) O (AO.bs ‹_› b) O) O ?_
 refine Bg O<|Ad (fun e b=>Cd underlying33 O (AN _)) O<|Ad (fun e b=>Ah (AF _) O (AO.bs ‹_› b) O) O ?_
 refine Ad (fun e b=>Ay AC O O (Sl.bs ‹_› b) 1 O (by omega)) O ?_
 refine Ad (fun e b=>Bj (AK _) O (Sl.bs ‹_› b) (by omega)) O ?_
 refine Ad (fun e b=>C6 O O (by omega)) O<|Bg O<|Ad (fun e b=>De O O (by omega)) O<|Ad (fun e b=>Cd underlying33 O (AN _)) O<|Ad (fun e b=>Ah (AF _) O (AO.bs ‹_› b) O) O ?_
 refine Ad (fun e b=>Ay AC O O (Sl.bs ‹_› b) 2 O (by omega)) O ?_
 refine Ad (fun e b=>Bj (AK _) O (Sl.bs ‹_› b) (by omega)) O ?_
 refine Ad (fun e b=>C6 O O (by omega)) O<|Bg O<|Ad (fun e b=>De O O (by omega)) O<|Ad (fun e b=>Ay AU O O (Sl.bs d b) k q i) O<|Ad (fun e b=>Bj (CF _) O (Sl.bs d b) i) O<|Dk O ?_
 refine Cr (fun L b=> ?_)
 refine Ap<|B8<|Df<|Ax O O ?_
 exact ⟨cngA i32 (by rw [ME,if_neg (by omega),q];rfl),bt h b⟩
theorem WY {t:List Int} {a:Int} (h:¬t.length=3):Il t a=false:=by simp only [Il,decide_eq_false h,Bool.false_and]
theorem WX {t:List Int} {a:Int} (h:¬a≤t.getD 1 default):Il t a=false:=by simp only [Il,decide_eq_false h,Bool.false_and,Bool.and_false]
theorem WW {t:List Int} {a:Int} (h:¬a≤t.getD 2 default):Il t a=false:=by simp only [Il,decide_eq_false h,Bool.and_false]
theorem L1 (t:List Int) (a:Int) (u:Value) (W:World) (c:BS (Value.int .i64) W u t):
  AM prog 146 [u, .int .i64 a] W (fun r v=>Below W.heap.size W v∧U8 W v r (CE t a) (GJ t a)):=by
 have d:=Below.refl W.heap.size W
 refine Bb (n:=48) func146 O<|Af<|Ab O<|Ab O<|Bh<|Ac O<|Aj O O (CV u t _ c) ?_
 rintro _ w ⟨rfl,i⟩
 have d:=d.bs i
 have c:=c.bs i
 refine Aa (Ck O) O<|Ac O ?_
 refine Cc 9 O ?_ ?_
 ·intro q
  refine Ae (dj:=9) O O O O<|Ae (dj:=9) O O O O<|B4 O<|Ac O<|Ae (dj:=13) O O O O<|Ae (dj:=13) O O O O<|B4 O<|Ak<|Bz O<|Af<|Ab O<|Ab O<|Bu<|Bx O O O ?_
  rw [show CE t a=1 by simp [CE,show Hu t a=true by simp_all [Hu]]]
  exact ⟨d,BT (by decide)⟩
 intro q
 refine Ag (dj:=9) O O<|Ac O<|Ag (dj:=9) O O<|B3 O<|Cn O<|Ac O ?_
 refine Cc 13 O ?_ ?_
 ·intro m
  refine Ae (dj:=13) O O O O<|Ae (dj:=13) O O O O<|B4 O<|Ak<|Bz O<|Af<|Ab O<|Ab O<|Bu<|Bx O O O ?_
  rw [show CE t a=1 by simp [CE,show Hu t a=true by simp_all [Hu]]]
  exact ⟨d,BT (by decide)⟩
 intro m
 refine Ag (dj:=13) O O<|Ac O<|Ag (dj:=13) O O<|Aa (Dr O O) O<|Cn O<|Ak<|Aq O ?_ ?_
 ·intro s
  refine Af<|Ab O<|Ab O<|Bu<|Bx O O O ?_
  rw [show CE t a=1 by simp [CE,show Hu t a=true by simp_all [Hu]]]
  exact ⟨d,BT (by decide)⟩
 intro s
 have l:Hu t a=false:=by simp_all [Hu]
 have D:Shapes.ok t=true:=by simpa using q
 have e:1≤a:=by simpa using m
 have I:a≤64:=by simpa using s
 have o:=(Shapes.ok_iff t).1 D
 clear q m s
 refine B0<|An<|Af<|Ac O<|Aa (Au AC O ‹_›) O ?_
 refine Aa (Cs O O) O<|Ac O ?_
 refine Cc 20 O ?_ ?_
 ·intro j
  have lt:¬t.length=3:=by have:=j;simp at this;omega
  refine Ae (dj:=20) O O O O<|Ae (dj:=20) O O O O<|Ae (dj:=20) O O O O<|Ae (dj:=20) O O O O<|Ae (dj:=20) O O O O<|B4 O<|Ac O<|Ae (dj:=27) O O O O<|Ae (dj:=27) O O O O<|Ae (dj:=27) O O O O<|Ae (dj:=27) O O O O<|Ae (dj:=27) O O O O<|B4 O<|Ak<|Bz O<|Af<|Ab O<|Ab O<|Bu<|Bx O O O ?_
  rw [show CE t a=10 by rw [CE,l,WY lt];rfl]
  exact ⟨d,BT (by decide)⟩
 intro j
 have lt:t.length=3:=by have:=j;simp at this;omega
 have G:=AW o.2.1 (k:=0) (by omega)
 have H:=AW o.2.1 (k:=1) (by omega)
 have E:=AW o.2.1 (k:=2) (by omega)
 clear j
 refine Ag (dj:=20) O O<|Ac O<|Ag (dj:=20) O O<|Aa (Ay AC O O ‹_› 1 O (by omega)) O ?_
 refine Ag (dj:=20) O O<|Aa (Bj (AK _) O ‹_› (by omega)) O ?_
 refine Ag (dj:=20) O O<|Ac O<|Ag (dj:=20) O O<|B3 O<|Cn O<|Ac O ?_
 refine Cc 27 O ?_ ?_
 ·intro g
  have g:¬a≤t.getD 1 default:=by have:=AD g;omega
  refine Ae (dj:=27) O O O O<|Ae (dj:=27) O O O O<|Ae (dj:=27) O O O O<|Ae (dj:=27) O O O O<|Ae (dj:=27) O O O O<|B4 O<|Ak<|Bz O<|Af<|Ab O<|Ab O<|Bu<|Bx O O O ?_
  rw [show CE t a=10 by rw [CE,l,WX g];rfl]
  exact ⟨d,BT (by decide)⟩
 intro g
 have g:a≤t.getD 1 default:=by have:=AB g;omega
 refine Ag (dj:=27) O O<|Ac O<|Ag (dj:=27) O O<|Aa (Ay AC O O ‹_› 2 O (by omega)) O ?_
 refine Ag (dj:=27) O O<|Aa (Bj (AK _) O ‹_› (by omega)) O ?_
 refine Ag (dj:=27) O O<|Ac O<|Ag (dj:=27) O O<|B3 O<|Cn O<|Ak<|Aq O ?_ ?_
 ·intro f
  have f:¬a≤t.getD 2 default:=by have:=AD f;omega
  refine Af<|Ab O<|Ab O<|Bu<|Bx O O O ?_
  rw [show CE t a=10 by rw [CE,l,WW f];rfl]
  exact ⟨d,BT (by decide)⟩
 intro f
 have f:a≤t.getD 2 default:=by have:=AB f;omega
 have z:Il t a=true:=by rw [Il,decide_eq_true lt,decide_eq_true g,decide_eq_true f];rfl
 obtain ⟨B, -⟩:=I5 e g
 obtain ⟨C, -⟩:=I5 e f
 have y:GJ t a=[t.getD 0 default,t.getD 1 default / a,t.getD 2 default / a]:=by unfold GJ;rw [B,C]
 refine B0<|An<|Cw.tail 13 AS (by kernel_rfl)<|Bg O<|Ad (fun e b=>Ay AC O O (Sl.bs ‹_› b) 0 O (by omega)) O ?_
 refine Ad (fun e b=>Bj (AK _) O (Sl.bs ‹_› b) (by omega)) O ?_
 refine Bg O<|Ad (fun e b=>Ay AC O O (Sl.bs ‹_› b) 1 O (by omega)) O ?_
 refine Ad (fun e b=>Bj (AK _) O (Sl.bs ‹_› b) (by omega)) O ?_
 refine Bg O<|Ad (fun e b=>Dz O O (by omega) (by omega)) O<|Bg O<|Ad (fun e b=>Ay AC O O (Sl.bs ‹_› b) 2 O (by omega)) O ?_
 refine Ad (fun e b=>Bj (AK _) O (Sl.bs ‹_› b) (by omega)) O ?_
 refine Bg O<|Ad (fun e b=>Dz O O (by omega) (by omega)) O ?_
 refine Dc (fun F b=> ?_)
 have d:=d.bs b
 have c:=c.bs b
 have A:=AA d
 refine Bk (Dl (vs:=(GJ t a).map (Value.int .i64)) AC DI O (by rw [y];rfl) O O O) O ?_
 rintro x w ⟨p, -,i, -⟩
 have p:=BH p A
 have d:=d.bs i
 have c:=c.bs i
 refine Ab O<|Ab O<|Bc<|Bx O O O ?_
 rw [show CE t a=0 by simp [CE,l,z]]
 exact ⟨d,x,_,rfl,p,fun h=>absurd rfl h,fun _=>rfl⟩
theorem RY {t s:List Int} {a b:Int} (h:t.getD 1 default+2*b<s.getD 2 default∨t.getD 2 default+2*b<s.getD 3 default):Shapes.ok (FG t s a b)=false:=by
 cases hk:Shapes.ok (FG t s a b) with
 |false=>rfl
 |true=>
  have g:=((Shapes.ok_iff _).1 hk).2.1
  have e:(FG t s a b).length=3:=rfl
  have d:1≤HV (t.getD 1 default+2*b) (s.getD 2 default) a:=(AW g (k:=1) (by omega)).1
  have c:1≤HV (t.getD 2 default+2*b) (s.getD 3 default) a:=(AW g (k:=2) (by omega)).1
  unfold HV at d c
  rcases h with h|h
  ·rw [if_pos h] at d;omega
  ·rw [if_pos h] at c;omega
theorem M4 (t s:List Int) (a c:Int) (u v:Value) (W:World) (f:BS (Value.int .i64) W u t) (e:BS (Value.int .i64) W v s):
  AM prog 144 [u,v, .int .i64 a, .int .i64 c] W (fun r E=>Below W.heap.size W E∧U8 W E r (BZ t s a c) (FG t s a c)):=by
 have i:=Below.refl W.heap.size W
 refine Bb (n:=110) func144 O<|Af<|Ab O<|Ab O<|Bh<|Ac O<|Aj O O (CV u t _ f) ?_
 rintro _ w ⟨rfl,j⟩
 have i:=i.bs j
 have f:=f.bs j
 have e:=e.bs j
 refine Aa (Ck O) O<|Ac O ?_
 refine Cc 14 O ?_ ?_
 ·intro A
  refine Ae (dj:=14) O O O O<|Ae (dj:=14) O O O O<|Ae (dj:=14) O O O O<|B4 O<|Ac O<|Ae (dj:=19) O O O O<|Ae (dj:=19) O O O O<|B4 O<|Ac O<|Ae (dj:=23) O O O O<|Ae (dj:=23) O O O O<|B4 O<|Ac O<|Ae (dj:=27) O O O O<|Ae (dj:=27) O O O O<|B4 O<|Ac O<|Ae (dj:=31) O O O O<|Ae (dj:=31) O O O O<|B4 O<|Ak<|Bz O<|Af<|Ab O<|Ab O<|Bu<|Bx O O O ?_
  rw [show BZ t s a c=1 by simp [BZ,show EZ t s a c=true by simp_all [EZ]]]
  exact ⟨i,BT (by decide)⟩
 intro A
 refine Ag (dj:=14) O O<|Ac O<|Ag (dj:=14) O O<|Aj O O (CV v s _ e) ?_
 rintro _ w ⟨rfl,j⟩
 have i:=i.bs j
 have f:=f.bs j
 have e:=e.bs j
 refine Ag (dj:=14) O O<|Aa (Ck O) O<|Cn O<|Ac O ?_
 refine Cc 19 O ?_ ?_
 ·intro y
  refine Ae (dj:=19) O O O O<|Ae (dj:=19) O O O O<|B4 O<|Ac O<|Ae (dj:=23) O O O O<|Ae (dj:=23) O O O O<|B4 O<|Ac O<|Ae (dj:=27) O O O O<|Ae (dj:=27) O O O O<|B4 O<|Ac O<|Ae (dj:=31) O O O O<|Ae (dj:=31) O O O O<|B4 O<|Ak<|Bz O<|Af<|Ab O<|Ab O<|Bu<|Bx O O O ?_
  rw [show BZ t s a c=1 by simp [BZ,show EZ t s a c=true by simp_all [EZ]]]
  exact ⟨i,BT (by decide)⟩
 intro y
 refine Ag (dj:=19) O O<|Ac O<|Ag (dj:=19) O O<|B3 O<|Cn O<|Ac O ?_
 refine Cc 23 O ?_ ?_
 ·intro D
  refine Ae (dj:=23) O O O O<|Ae (dj:=23) O O O O<|B4 O<|Ac O<|Ae (dj:=27) O O O O<|Ae (dj:=27) O O O O<|B4 O<|Ac O<|Ae (dj:=31) O O O O<|Ae (dj:=31) O O O O<|B4 O<|Ak<|Bz O<|Af<|Ab O<|Ab O<|Bu<|Bx O O O ?_
  rw [show BZ t s a c=1 by simp [BZ,show EZ t s a c=true by simp_all [EZ]]]
  exact ⟨i,BT (by decide)⟩
 intro D
 refine Ag (dj:=23) O O<|Ac O<|Ag (dj:=23) O O<|Aa (Dr O O) O<|Cn O<|Ac O ?_
 refine Cc 27 O ?_ ?_
 ·intro z
  refine Ae (dj:=27) O O O O<|Ae (dj:=27) O O O O<|B4 O<|Ac O<|Ae (dj:=31) O O O O<|Ae (dj:=31) O O O O<|B4 O<|Ak<|Bz O<|Af<|Ab O<|Ab O<|Bu<|Bx O O O ?_
  rw [show BZ t s a c=1 by simp [BZ,show EZ t s a c=true by simp_all [EZ]]]
  exact ⟨i,BT (by decide)⟩
 intro z
 refine Ag (dj:=27) O O<|Ac O<|Ag (dj:=27) O O<|B3 O<|Cn O<|Ac O ?_
 refine Cc 31 O ?_ ?_
 ·intro B
  refine Ae (dj:=31) O O O O<|Ae (dj:=31) O O O O<|B4 O<|Ak<|Bz O<|Af<|Ab O<|Ab O<|Bu<|Bx O O O ?_
  rw [show BZ t s a c=1 by simp [BZ,show EZ t s a c=true by simp_all [EZ]]]
  exact ⟨i,BT (by decide)⟩
 intro B
 have R:Shapes.ok t=true:=by simpa using A
 have K:Shapes.ok s=true:=by simpa using y
 have M:1≤a:=by simpa using D
 have H:a≤8:=by simpa using z
 have U:0≤c:=by simpa using B
 refine Ag (dj:=31) O O<|Ac O<|Ag (dj:=31) O O<|Aa (Dr O O) O<|Cn O<|Ak<|Aq O ?_ ?_
 ·intro q
  refine Af<|Ab O<|Ab O<|Bu<|Bx O O O ?_
  rw [show BZ t s a c=1 by simp [BZ,show EZ t s a c=true by simp_all [EZ]]]
  exact ⟨i,BT (by decide)⟩
 intro q
 have S:c≤8:=by simpa using q
 have p:EZ t s a c=false:=by simp_all [EZ]
 clear A y D z B q
 have G:=(Shapes.ok_iff t).1 R
 have C:=(Shapes.ok_iff s).1 K
 refine B0<|An<|An<|Cv AS (by kernel_rfl)<|Bg O<|Ad (fun d b=>Au AC O (Sl.bs ‹_› b)) O ?_
 refine Ad (fun d b=>Cs O O) O<|Bg O ?_
 refine Dm 38 O ?_ ?_
 ·intro g
  refine Ar (dj:=38) O O O O<|Ar (dj:=38) O O O O<|Ar (dj:=38) O O O O<|Ad (fun d b=>Ct O O) O<|Bg O<|Ar (dj:=43) O O O O<|Ar (dj:=43) O O O O<|Ar (dj:=43) O O O O<|Ar (dj:=43) O O O O<|Ar (dj:=43) O O O O<|Ar (dj:=43) O O O O<|Ar (dj:=43) O O O O<|Ad (fun d b=>Ct O O) O<|Bg O<|Ar (dj:=52) O O O O<|Ar (dj:=52) O O O O<|Ar (dj:=52) O O O O<|Ar (dj:=52) O O O O<|Ar (dj:=52) O O O O<|Ar (dj:=52) O O O O<|Ar (dj:=52) O O O O<|Ar (dj:=52) O O O O<|Ar (dj:=52) O O O O<|Ar (dj:=52) O O O O<|Ad (fun d b=>Ct O O) O<|Bg O<|Ar (dj:=64) O O O O<|Ar (dj:=64) O O O O<|Ar (dj:=64) O O O O<|Ar (dj:=64) O O O O<|Ar (dj:=64) O O O O<|Ar (dj:=64) O O O O<|Ar (dj:=64) O O O O<|Ar (dj:=64) O O O O<|Ar (dj:=64) O O O O<|Ar (dj:=64) O O O O<|Ad (fun d b=>Ct O O) O ?_
  refine Cr (fun d b=> ?_)
  refine Ap<|B8<|Bz O<|Af<|Ab O<|Ab O<|Bu<|Bx O O O ?_
  rw [show BZ t s a c=10 by rw [BZ,p,Sb (fun h=>by simp [h] at g)];rfl]
  exact ⟨bt i b,BT (by decide)⟩
 intro I
 have lt:t.length=3:=by have:=I;simp at this;omega
 refine Ba (dj:=38) O O<|Bg O<|Ba (dj:=38) O O<|Ad (fun d b=>Au AC O (Sl.bs ‹_› b)) O ?_
 refine Ba (dj:=38) O O<|Ad (fun d b=>Cs O O) O<|Ad (fun d b=>Cz O O) O<|Bg O ?_
 refine Dm 43 O ?_ ?_
 ·intro g
  refine Ar (dj:=43) O O O O<|Ar (dj:=43) O O O O<|Ar (dj:=43) O O O O<|Ar (dj:=43) O O O O<|Ar (dj:=43) O O O O<|Ar (dj:=43) O O O O<|Ar (dj:=43) O O O O<|Ad (fun d b=>Ct O O) O<|Bg O<|Ar (dj:=52) O O O O<|Ar (dj:=52) O O O O<|Ar (dj:=52) O O O O<|Ar (dj:=52) O O O O<|Ar (dj:=52) O O O O<|Ar (dj:=52) O O O O<|Ar (dj:=52) O O O O<|Ar (dj:=52) O O O O<|Ar (dj:=52) O O O O<|Ar (dj:=52) O O O O<|Ad (fun d b=>Ct O O) O<|Bg O<|Ar (dj:=64) O O O O<|Ar (dj:=64) O O O O<|Ar (dj:=64) O O O O<|Ar (dj:=64) O O O O<|Ar (dj:=64) O O O O<|Ar (dj:=64) O O O O<|Ar (dj:=64) O O O O<|Ar (dj:=64) O O O O<|Ar (dj:=64) O O O O<|Ar (dj:=64) O O O O<|Ad (fun d b=>Ct O O) O ?_
  refine Cr (fun d b=> ?_)
  refine Ap<|B8<|Bz O<|Af<|Ab O<|Ab O<|Bu<|Bx O O O ?_
  rw [show BZ t s a c=10 by rw [BZ,p,Sa (fun h=>by simp [h] at g)];rfl]
  exact ⟨bt i b,BT (by decide)⟩
 intro J
 have L:s.length=4:=by have:=J;simp at this;omega
 have t1:=AW G.2.1 (k:=1) (by omega)
 have T:=AW G.2.1 (k:=2) (by omega)
 have Y:=AW C.2.1 (k:=0) (by omega)
 have V:=AW C.2.1 (k:=2) (by omega)
 have s3:=AW C.2.1 (k:=3) (by omega)
 refine Ba (dj:=43) O O<|Bg O<|Ba (dj:=43) O O<|Ad (fun d b=>Ay AC O O (Sl.bs ‹_› b) 0 O (by omega)) O ?_
 refine Ba (dj:=43) O O<|Ad (fun d b=>Bj (AK _) O (Sl.bs ‹_› b) (by omega)) O ?_
 refine Ba (dj:=43) O O<|Bg O<|Ba (dj:=43) O O<|Ad (fun d b=>Ay AC O O (Sl.bs ‹_› b) 1 O (by omega)) O ?_
 refine Ba (dj:=43) O O<|Ad (fun d b=>Bj (AK _) O (Sl.bs ‹_› b) (by omega)) O ?_
 refine Ba (dj:=43) O O<|Ad (fun d b=>Cs O O) O<|Ad (fun d b=>Cz O O) O<|Bg O ?_
 refine Dm 52 O ?_ ?_
 ·intro g
  refine Ar (dj:=52) O O O O<|Ar (dj:=52) O O O O<|Ar (dj:=52) O O O O<|Ar (dj:=52) O O O O<|Ar (dj:=52) O O O O<|Ar (dj:=52) O O O O<|Ar (dj:=52) O O O O<|Ar (dj:=52) O O O O<|Ar (dj:=52) O O O O<|Ar (dj:=52) O O O O<|Ad (fun d b=>Ct O O) O<|Bg O<|Ar (dj:=64) O O O O<|Ar (dj:=64) O O O O<|Ar (dj:=64) O O O O<|Ar (dj:=64) O O O O<|Ar (dj:=64) O O O O<|Ar (dj:=64) O O O O<|Ar (dj:=64) O O O O<|Ar (dj:=64) O O O O<|Ar (dj:=64) O O O O<|Ar (dj:=64) O O O O<|Ad (fun d b=>Ct O O) O ?_
  refine Cr (fun d b=> ?_)
  refine Ap<|B8<|Bz O<|Af<|Ab O<|Ab O<|Bu<|Bx O O O ?_
  rw [show BZ t s a c=10 by rw [BZ,p,RZ (fun h=>by rw [decide_eq_true h] at g;cases g)];rfl]
  exact ⟨bt i b,BT (by decide)⟩
 intro F
 have Z:IZ t s=true:=by
  have:t.getD 0 default=s.getD 1 default:=by simpa only [Bool.not_eq_false',decide_eq_true_eq] using F
  rw [IZ,decide_eq_true lt,decide_eq_true L,decide_eq_true this];rfl
 refine Ba (dj:=52) O O<|Bg O<|Ba (dj:=52) O O<|Ad (fun d b=>Ay AC O O (Sl.bs ‹_› b) 1 O (by omega)) O ?_
 refine Ba (dj:=52) O O<|Ad (fun d b=>Bj (AK _) O (Sl.bs ‹_› b) (by omega)) O ?_
 refine Ba (dj:=52) O O<|Bg O<|Ba (dj:=52) O O<|Ad (fun d b=>C6 O O (by omega)) O<|Ba (dj:=52) O O<|Ad (fun d b=>De O O (by omega)) O<|Ba (dj:=52) O O<|Bg O<|Ba (dj:=52) O O<|Ad (fun d b=>Ay AC O O (Sl.bs ‹_› b) 2 O (by omega)) O ?_
 refine Ba (dj:=52) O O<|Ad (fun d b=>Bj (AK _) O (Sl.bs ‹_› b) (by omega)) O ?_
 refine Ba (dj:=52) O O<|Ad (fun d b=>Eh O O) O<|Ad (fun d b=>Cz O O) O<|Bg O ?_
 refine Dm 64 O ?_ ?_
 ·intro g
  have g:=AD g
  refine Ar (dj:=64) O O O O<|Ar (dj:=64) O O O O<|Ar (dj:=64) O O O O<|Ar (dj:=64) O O O O<|Ar (dj:=64) O O O O<|Ar (dj:=64) O O O O<|Ar (dj:=64) O O O O<|Ar (dj:=64) O O O O<|Ar (dj:=64) O O O O<|Ar (dj:=64) O O O O<|Ad (fun d b=>Ct O O) O ?_
  refine Cr (fun d b=> ?_)
  refine Ap<|B8<|Bz O<|Af<|Ab O<|Ab O<|Bu<|Bx O O O ?_
  rw [show BZ t s a c=10 by rw [BZ,p,RY (.inl g),Bool.and_false];rfl]
  exact ⟨bt i b,BT (by decide)⟩
 intro m
 have m:=AB m
 refine Ba (dj:=64) O O<|Bg O<|Ba (dj:=64) O O<|Ad (fun d b=>Ay AC O O (Sl.bs ‹_› b) 2 O (by omega)) O ?_
 refine Ba (dj:=64) O O<|Ad (fun d b=>Bj (AK _) O (Sl.bs ‹_› b) (by omega)) O ?_
 refine Ba (dj:=64) O O<|Bg O<|Ba (dj:=64) O O<|Ad (fun d b=>C6 O O (by omega)) O<|Ba (dj:=64) O O<|Ad (fun d b=>De O O (by omega)) O<|Ba (dj:=64) O O<|Bg O<|Ba (dj:=64) O O<|Ad (fun d b=>Ay AC O O (Sl.bs ‹_› b) 3 O (by omega)) O ?_
 refine Ba (dj:=64) O O<|Ad (fun d b=>Bj (AK _) O (Sl.bs ‹_› b) (by omega)) O ?_
 refine Ba (dj:=64) O O<|Ad (fun d b=>Eh O O) O<|Ad (fun d b=>Cz O O) O ?_
 refine Cr (fun d b=> ?_)
 refine Ap<|B8<|Aq O ?_ ?_
 ·intro g
  have g:=AD g
  refine Af<|Ab O<|Ab O<|Bu<|Bx O O O ?_
  rw [show BZ t s a c=10 by rw [BZ,p,RY (.inr g),Bool.and_false];rfl]
  exact ⟨bt i b,BT (by decide)⟩
 intro l
 have l:=AB l
 have i:=i.bs b
 have f:=f.bs b
 have e:=e.bs b
 clear b I J F
 have X:=Int.ediv_le_self a (show 0≤t.getD 1 default+2*c - s.getD 2 default by omega)
 have q2:=Int.ediv_nonneg (show 0≤t.getD 1 default+2*c - s.getD 2 default by omega) (show 0≤a by omega)
 have q3:=Int.ediv_le_self a (show 0≤t.getD 2 default+2*c - s.getD 3 default by omega)
 have q4:=Int.ediv_nonneg (show 0≤t.getD 2 default+2*c - s.getD 3 default by omega) (show 0≤a by omega)
 have N:FG t s a c=[s.getD 0 default,(t.getD 1 default+2*c - s.getD 2 default) / a+1,(t.getD 2 default+2*c - s.getD 3 default) / a+1]:=by
  unfold FG HV;rw [if_neg m,if_neg l]
 refine B0<|An<|Cw.tail 29 AS (by kernel_rfl)<|Bg O<|Ad (fun d b=>Ay AC O O (Sl.bs ‹_› b) 0 O (by omega)) O ?_
 refine Ad (fun d b=>Bj (AK _) O (Sl.bs ‹_› b) (by omega)) O ?_
 refine Bg O<|Ad (fun d b=>Ay AC O O (Sl.bs ‹_› b) 1 O (by omega)) O ?_
 refine Ad (fun d b=>Bj (AK _) O (Sl.bs ‹_› b) (by omega)) O ?_
 refine Bg O<|Ad (fun d b=>C6 O O (by omega)) O<|Ad (fun d b=>De O O (by omega)) O<|Bg O<|Ad (fun d b=>Ay AC O O (Sl.bs ‹_› b) 2 O (by omega)) O ?_
 refine Ad (fun d b=>Bj (AK _) O (Sl.bs ‹_› b) (by omega)) O ?_
 refine Ad (fun d b=>Du O O (by omega)) O<|Bg O<|Ad (fun d b=>Dz O O (by omega) (by omega)) O<|Ad (fun d b=>De O O (by omega)) O<|Bg O<|Ad (fun d b=>Ay AC O O (Sl.bs ‹_› b) 2 O (by omega)) O ?_
 refine Ad (fun d b=>Bj (AK _) O (Sl.bs ‹_› b) (by omega)) O ?_
 refine Bg O<|Ad (fun d b=>C6 O O (by omega)) O<|Ad (fun d b=>De O O (by omega)) O<|Bg O<|Ad (fun d b=>Ay AC O O (Sl.bs ‹_› b) 3 O (by omega)) O ?_
 refine Ad (fun d b=>Bj (AK _) O (Sl.bs ‹_› b) (by omega)) O ?_
 refine Ad (fun d b=>Du O O (by omega)) O<|Bg O<|Ad (fun d b=>Dz O O (by omega) (by omega)) O<|Ad (fun d b=>De O O (by omega)) O ?_
 refine Dc (fun w2 b=> ?_)
 have i:=i.bs b
 have f:=f.bs b
 have e:=e.bs b
 have Q:=AA i
 refine Bk (Dl (vs:=(FG t s a c).map (Value.int .i64)) AC DI O (by rw [N];rfl) O O O) O ?_
 rintro x w ⟨o, -,j, -⟩
 have o:=BH o Q
 have i:=i.bs j
 have f:=f.bs j
 have e:=e.bs j
 refine Ab O<|Bh<|Ac O<|Aj O O (CV x (FG t s a c) _ (AQ o)) ?_
 rintro _ w ⟨rfl,j⟩
 have i:=i.bs j
 have f:=f.bs j
 have e:=e.bs j
 have o:=o.bs j
 refine Aa (Ck O) O<|Ak<|Aq O ?_ ?_
 ·intro g
  refine Af<|Ab O<|Ab O<|Bu<|Bx O O O ?_
  rw [show BZ t s a c=10 by simp_all [BZ]]
  exact ⟨i,BT (by decide)⟩
 intro g
 refine Co<|Ac O<|Ab O<|Ab O<|Bc<|Bx O O O ?_
 rw [show BZ t s a c=0 by simp_all [BZ]]
 exact ⟨i,x,_,rfl,o,fun h=>absurd rfl h,fun _=>rfl⟩
def RP (A:Nat) (x:Value) (B:Nat) (w1:World) (F:Nat→BitVec 32) (n:Nat) (w' :World):Prop:=
 ∃lv,AO w' A 33 [x,lv]∧w'.ownsRow B 21 1 lv n (((range n).map F).map i32)∧Below B w1 w'
theorem RP.bel {A B n:Nat} {x:Value} {a b:World} {F:Nat→BitVec 32} (h:RP A x B a F n b):Below B a b:=by obtain ⟨_,_,_,h⟩:=h;exact h
theorem Oe {S:List Int} {b a o y x:Nat} (f:S.getD 1 default=(b:Int)) (d:S.getD 2 default=(a:Int)) (g:y<b) (i:x<a):
  G3 S (((o*b+y)*a+x:Nat):Int)=o∧HQ S (((o*b+y)*a+x:Nat):Int)=y∧HR S (((o*b+y)*a+x:Nat):Int)=x:=by
 have h:=Rp (s:=S) (c:=(o:Int)) (y:=(y:Int)) (x:=(x:Int)) (by omega) (by omega)
 rw [f,d] at h
 have e:(((o*b+y)*a+x:Nat):Int)=((o:Int)*b+y)*a+x:=by push_cast;rfl
 rw [e]
 exact h
theorem QO {c b a o y x M:Nat} (d:o<c) (e:y<b) (h:x<a) (i:c*(b*a)≤M):(o*b+y)*a+x<M:=by
 have g:=IU d e
 have f:=IU g h
 rw [Nat.mul_assoc] at f
 omega
set_option maxHeartbeats 2000000 in
theorem Vg (t:T4) (a:Int) (W:World) (b:t.at W):
  AM prog 41 [t.v, .int .i64 a] W (fun r V=>Below W.heap.size W V∧Qx W V r (HZ t a) (GJ t.s a) (Lk t a)):=by
 have l:=Below.refl W.heap.size W
 refine Bb (n:=94) func41 O<|Af<|B5 (cs:=[t.x,t.y]) O O O ?_
 rintro T w eA_t s q -
 have l:=l.bs q
 have b:=b.bs q
 have z0:=AA l
 refine Cx AY O ?_
 rintro L w eA_r c q -
 have l:=l.bs q
 have b:=b.bs q
 have s:=s.bs q
 refine Ab O<|Bh<|Aa (B9 (AT _) (AP _) O O ‹_›) O ?_
 have z_r:=AH c
 refine Aj O O (CY t.x t.y t.s t.l _ b.1 b.2) ?_
 rintro _ w ⟨rfl,q⟩
 have l:=l.bs q
 have b:=b.bs q
 have s:=s.bs q
 have c:=c.bs q
 refine Aa (Ck O) O<|Ak<|Aq O ?_ ?_
 ·intro g
  refine Af<|C8 O<|Az (Bv (cs:=[.slice none 0 0, .slice none 0 0]) O O O O O c O) ?_
  rintro w3 ⟨c,U, -⟩
  have l:=l.grown U (AA l) (by rintro _ ⟨⟩;omega)
  refine Ab O<|Bu<|Bt O O O ‹_› underlying33 O O O ?_
  rw [show HZ t a=1 by simp_all [HZ]]
  exact ⟨l,Gw (by decide)⟩
 intro g1
 have k_t:tok t.s t.l=true:=by simpa using g1
 have hE:HZ t a=CE t.s a:=by rw [HZ,k_t];rfl
 clear g1
 rw [hE]
 have h_t1:=b.1
 have zr0:=AH c
 have zrB:=AA l
 refine Co<|Be underlying33 O (AN _)<|Aa (Ah (AF _) O ‹_› rfl) O ?_
 refine Ac O<|Aj O O (L1 t.s a t.x _ b.1) ?_
 rintro _ A ⟨q,x,m',rfl,hx,hno,hyes⟩
 have l:=l.bs q
 have b:=b.bs q
 have s:=s.bs q
 have c:=c.bs q
 refine Ac O<|Aa (As (i:=0) O O) O<|Aa (As (i:=1) O O) O<|Ab O<|Ab O<|Bh<|Ac O<|Aa (Cs O O) O<|Ak<|Aq O ?_ ?_
 ·intro g
  have g:CE t.s a≠0:=by simpa using g
  refine Af<|C8 O<|Ac O<|Az (Bv (cs:=[.slice none 0 0, .slice none 0 0]) O O O O O c O) ?_
  rintro w3 ⟨c,U, -⟩
  have l:=l.grown U (AA l) (by rintro _ ⟨⟩;omega)
  refine Ab O<|Bu<|Bt O O O ‹_› underlying33 O O O ?_
  exact ⟨l,Gw g⟩
 intro g
 have e0:CE t.s a=0:=by simpa using g
 clear g
 rw [e0]
 have hm:=hyes e0
 have ok:=KR k_t e0
 clear hno hyes e0 hE h_t1
 obtain ⟨m,rfl⟩:∃m:Nat,a=(m:Int):=⟨a.toNat,by have:=ok.w;omega⟩
 obtain ⟨S,hS⟩:∃S,S=GJ t.s (m:Int):=⟨_,rfl⟩
 have lS:S.length=3:=by rw [hS];rfl
 have S0:S.getD 0 default=t.s.getD 0 default:=by rw [hS];rfl
 have okS:Shapes.ok S=true:=by rw [hS];exact ok.ok
 have gS:=((Shapes.ok_iff _).1 okS).2.1
 rw [hm,← hS] at hx
 rw [← hS]
 clear hm
 have szS:=Shapes.size_le S
 have szo:=Shapes.size_ok okS
 rw [MB lS] at szo
 have l3:=ok.lt
 have F:=ok.w
 have g0:=AW gS (k:=0) (by omega)
 have g1:=AW gS (k:=1) (by omega)
 have g2:=AW gS (k:=2) (by omega)
 have t0:=AW ok.gt (k:=0) (by omega)
 have t1:=AW ok.gt (k:=1) (by omega)
 have t2:=AW ok.gt (k:=2) (by omega)
 have mm:1*1≤(m:Int)*(m:Int):=Int.mul_le_mul F.1 F.1 (by decide) (by omega)
 have mm2:(m:Int)*(m:Int)≤64*64:=Int.mul_le_mul F.2 F.2 (by omega) (by decide)
 have mmc:((m*m:Nat):Int)=(m:Int)*(m:Int):=Int.natCast_mul m m
 obtain ⟨d0,h0⟩:∃d:Nat,S.getD 0 default=(d:Int):=⟨_,(Int.toNat_of_nonneg (by omega)).symm⟩
 obtain ⟨I,h1⟩:∃d:Nat,S.getD 1 default=(d:Int):=⟨_,(Int.toNat_of_nonneg (by omega)).symm⟩
 obtain ⟨H,h2⟩:∃d:Nat,S.getD 2 default=(d:Int):=⟨_,(Int.toNat_of_nonneg (by omega)).symm⟩
 have hM:d0*(I*H)=(Shapes.size S).toNat:=by
  have:((d0*(I*H):Nat):Int)=Shapes.size S:=by rw [szo,h0,h1,h2];push_cast;rfl
  omega
 have zW:=AA l
 obtain ⟨K,X⟩:∃K,K=A.heap.size:=⟨_,rfl⟩
 have M:=AG hx
 have q_t:T<K:=X ▸ AH s
 have q_r:L<K:=X ▸ AH c
 have h_x:=AQ hx
 refine Co<|Cx AY O ?_
 rintro p w2 eA_o j hn2 zhn2
 have l_o:K≤p:=by omega
 refine Bl<|Ac O<|Be underlying33 O (AN _)<|Az (Dj (u:=x) (AN _) O O h_x.one' j (by decide)) ?_
 rintro w3 ⟨C,U, -⟩
 have C:AO w3 p 33 [x, .slice none 0 0]:=C
 have hK0:Below K A w3:=(X ▸ hn2:Below K A w2).grown U (by have:=hn2.size;omega) (by rintro _ ⟨⟩;omega)
 clear j U hn2 zhn2
 refine Bh<|Ab O<|Ak<|Ao ?_
 refine Bq (S:=Nat) (fun o=>[(1, .int .i64 (m:Int)),(2, .pointer (some ⟨T,0,none⟩)),(4, .pointer (some ⟨L,0,none⟩)),(6,x),(8, .pointer (some ⟨p,0,none⟩)),(9, .int .i64 (o:Int))]) (fun o V=>o≤d0∧RP p x K A (L3 t.l t.s S m) (o*I*H) V) (fun o=>d0 - o) (0) ⟨rfl,rfl,rfl,rfl,rfl,rfl,trivial⟩ ?_ ?_
 ·exact ⟨Nat.zero_le _,_,C,by rw [Nat.zero_mul,Nat.zero_mul];exact World.ownsRow_nil _ _ _ _,hK0⟩
 clear C hK0
 rintro o w4 ⟨ho,E⟩
 have B:BS (Value.int .i64) w4 x S:=Sl.stay h_x fun k e hne=>E.bel.block k (by have:=M k e;omega)
 refine An<|Af<|Ac O<|Ac O<|Aa (Ay AC O O ‹_› 0 O (by omega)) O ?_
 refine Aa (Bj (AK _) O ‹_› (by omega)) O ?_
 refine B3 O<|Ak<|Aq O ?_ ?_
 ·intro h
  have Z:o<d0:=by have:=AD h;omega
  refine B0<|An<|Ao<|Af<|Ab O<|Ak<|Ao ?_
  refine Bq (S:=Nat) (fun y=>[(1, .int .i64 (m:Int)),(2, .pointer (some ⟨T,0,none⟩)),(4, .pointer (some ⟨L,0,none⟩)),(6,x),(8, .pointer (some ⟨p,0,none⟩)),(9, .int .i64 (o:Int)),(10, .int .i64 (y:Int))]) (fun y V=>y≤I∧RP p x K A (L3 t.l t.s S m) ((o*I+y)*H) V) (fun y=>I - y) (0) ⟨rfl,rfl,rfl,rfl,rfl,rfl,rfl,trivial⟩ ?_ ?_
  ·exact ⟨Nat.zero_le _,E⟩
  clear E B
  rintro y w5 ⟨hy,E⟩
  have B:BS (Value.int .i64) w5 x S:=Sl.stay h_x fun k e hne=>E.bel.block k (by have:=M k e;omega)
  refine An<|Af<|Ac O<|Ac O<|Aa (Ay AC O O ‹_› 1 O (by omega)) O ?_
  refine Aa (Bj (AK _) O ‹_› (by omega)) O ?_
  refine B3 O<|Ak<|Aq O ?_ ?_
  ·intro h
   have R:y<I:=by have:=AD h;omega
   refine B0<|An<|Ao<|Af<|Ab O<|Ak<|Ao ?_
   refine Bq (S:=Nat) (fun v=>[(1, .int .i64 (m:Int)),(2, .pointer (some ⟨T,0,none⟩)),(4, .pointer (some ⟨L,0,none⟩)),(6,x),(8, .pointer (some ⟨p,0,none⟩)),(9, .int .i64 (o:Int)),(10, .int .i64 (y:Int)),(11, .int .i64 (v:Int))]) (fun v V=>v≤H∧RP p x K A (L3 t.l t.s S m) ((o*I+y)*H+v) V) (fun v=>H - v) (0) ⟨rfl,rfl,rfl,rfl,rfl,rfl,rfl,rfl,trivial⟩ ?_ ?_
   ·exact ⟨Nat.zero_le _,E⟩
   clear E B
   rintro v w6 ⟨hv,E⟩
   have B:BS (Value.int .i64) w6 x S:=Sl.stay h_x fun k e hne=>E.bel.block k (by have:=M k e;omega)
   refine An<|Af<|Ac O<|Ac O<|Aa (Ay AC O O ‹_› 2 O (by omega)) O ?_
   refine Aa (Bj (AK _) O ‹_› (by omega)) O ?_
   refine B3 O<|Ak<|Aq O ?_ ?_
   ·intro h
    have Q:v<H:=by have:=AD h;omega
    obtain ⟨lv,j,J,hK⟩:=E
    have b_t6:=s.bl hK q_t
    have h_t6:=KP b b (Nat.le_of_eq X.symm) hK
    have hn0:=QO Z R Q (Nat.le_of_eq hM)
    obtain ⟨n,q⟩:∃n,n=(o*I+y)*H+v:=⟨_,rfl⟩
    obtain ⟨sc,sy,sx⟩:=Oe (o:=o) h1 h2 R Q
    rw [← q] at sc sy sx hn0 J
    have my:0≤(y:Int)*(m:Int)∧(y:Int)*(m:Int)≤64*64:=⟨Int.mul_nonneg (by omega) (by omega),Int.mul_le_mul (by omega) F.2 (by omega) (by decide)⟩
    have mv:0≤(v:Int)*(m:Int)∧(v:Int)*(m:Int)≤64*64:=⟨Int.mul_nonneg (by omega) (by omega),Int.mul_le_mul (by omega) F.2 (by omega) (by decide)⟩
    have tl:((o:Int)+1)*(t.s.getD 1 default*t.s.getD 2 default)≤t.l.length:=by
     rw [ok.tl]
     exact Int.mul_le_mul_of_nonneg_right (by omega) (Int.mul_nonneg (by omega) (by omega))
    refine B0<|An<|Ao<|Af<|Aa (B9 (AT _) (AP _) O O ‹_›) O ?_
    refine Ac O<|Ac O<|Ac O<|Aa (C6 O O (by omega)) O<|Ac O<|Ac O<|Aa (C6 O O (by omega)) O<|Aj O O (Py t (o:Int) ((y:Int)*(m:Int)) ((v:Int)*(m:Int)) _ h_t6 l3 (by omega) (by omega) (by omega) (by omega) (by omega) tl) ?_
    rintro _ w7 ⟨rfl,hn7⟩
    rw [show ME t.l (t.s.getD 1 default) (t.s.getD 2 default) (o:Int) ((y:Int)*(m:Int)) ((v:Int)*(m:Int))=mx (Jj t.l t.s S m n) (Jj t.l t.s S m n 0) 0 by simp only [mx,Jj,sc,sy,sx];simp]
    refine Ab O<|Bh<|Ab O<|Ak<|Ao ?_
    refine Bq (S:=Nat) (fun k=>[(1, .int .i64 (m:Int)),(2, .pointer (some ⟨T,0,none⟩)),(4, .pointer (some ⟨L,0,none⟩)),(6,x),(8, .pointer (some ⟨p,0,none⟩)),(9, .int .i64 (o:Int)),(10, .int .i64 (y:Int)),(11, .int .i64 (v:Int)),(12,i32 (mx (Jj t.l t.s S m n) (Jj t.l t.s S m n 0) k)),(13, .int .i64 (k:Int))]) (fun k V=>k≤m*m∧Below w6.heap.size w6 V) (fun k=>m*m - k) (0) ⟨rfl,rfl,rfl,rfl,rfl,rfl,rfl,rfl,rfl,rfl,trivial⟩ ?_ ?_
    ·exact ⟨Nat.zero_le _,hn7⟩
    rintro k w8 ⟨hk,D⟩
    refine An<|Af<|Ac O<|Ac O<|Ac O<|Aa (C6 O O (by omega)) O<|B3 O<|Ak<|Aq O ?_ ?_
    ·intro h
     have Y:k<m*m:=by have:=AD h;omega
     have km:(0:Int)≤((k / m:Nat):Int)∧((k / m:Nat):Int)<m:=⟨Int.natCast_nonneg _,by have:=Nat.div_lt_of_lt_mul Y;exact_mod_cast this⟩
     have kr:(0:Int)≤((k % m:Nat):Int)∧((k % m:Nat):Int)<m:=⟨Int.natCast_nonneg _,by have:=Nat.mod_lt k (show 0<m by omega);exact_mod_cast this⟩
     obtain ⟨kd,hkd⟩:∃d:Nat,d=k / m:=⟨_,rfl⟩
     obtain ⟨ke,hke⟩:∃d:Nat,d=k % m:=⟨_,rfl⟩
     rw [← hkd] at km
     rw [← hke] at kr
     have eF:ME t.l (t.s.getD 1 default) (t.s.getD 2 default) (o:Int) ((y:Int)*(m:Int)+(kd:Int)) ((v:Int)*(m:Int)+(ke:Int))=Jj t.l t.s S m n k:=by rw [hkd,hke];simp only [Jj,sc,sy,sx]
     have b_t8:=b_t6.bs D
     have h_t8:=h_t6.bs D
     refine B0<|An<|Ao<|Cv AS (by kernel_rfl)<|Bg O<|Ad (fun A G=>B9 (AT _) (AP _) O O (AO.bs ‹_› G)) O ?_
     refine Bg O<|Bg O<|Bg O<|Ad (fun A G=>C6 O O (by omega)) O<|Bg O<|Bg O<|Ad (fun A G=>(Dz O O (by omega) (by omega)).as (cngA (Value.int .i64) (show (k:Int) / (m:Int)=(kd:Int) by rw [hkd];rfl))) O<|Ad (fun A G=>De O O (by omega)) O<|Bg O<|Bg O<|Ad (fun A G=>C6 O O (by omega)) O<|Bg O<|Bg O<|Ad (fun A G=>(El O O (by omega) (by omega)).as (cngA (Value.int .i64) (show (k:Int) % (m:Int)=(ke:Int) by rw [hke];rfl))) O<|Ad (fun A G=>De O O (by omega)) O<|C3 O O (fun A G=>(Py t (o:Int) ((y:Int)*(m:Int)+(kd:Int)) ((v:Int)*(m:Int)+(ke:Int)) A (h_t8.bs G) l3 (by omega) (by omega) (by omega) (by omega) (by omega) tl).q G)<|Ad (fun A G=>(E5 O O).as (cngA (Value.int .i32) (Og _ _).symm)) O<|Dk O ?_
     refine Cr (fun w9 G=> ?_)
     refine Bn<|Ch<|Ac O<|B7 O (by omega)<|Ab O<|Bf ?_
     exact Ap (Pw.next (k+1) ⟨rfl,rfl,rfl,rfl,rfl,rfl,rfl,rfl,cngA (fun z=>some (i32 (SM _ z))) eF,rfl,trivial⟩ (⟨Y,bt D G⟩) (by omega))
    intro h
    have Y:k=m*m:=by have:=AB h;omega
    subst Y
    have j:=j.bs D
    have J:=AL J D
    have hK8:=hK.trans (D.mono (by have:=hK.size;omega))
    refine Bp<|Al<|Al<|Bd<|Ch<|Be underlying33 O (BC _)<|Aa (Ah (BG _) O ‹_› rfl) O ?_
    refine Ac O<|Bk (Dl (vs:=[L3 t.l t.s S m n].map i32) AU DY O O O O O) O ?_
    rintro z w5 ⟨hz, -,hn5, -⟩
    have j:=j.bs hn5
    have J:=AL J hn5
    have hK5:=hK8.trans (hn5.mono (by have:=hK8.size;omega))
    refine Bk (Dp (base:=K) AU DY O (by decide) O O J (AI hz) (DE (fun _=>rfl) _) (by omega) (by omega) (by have:=hK5.size;omega)) O ?_
    rintro lv2 w10 ⟨hl6,hb6,hg6⟩
    rw [← map_append,← map_singleton (f:=L3 t.l t.s S m),← map_append,← range_succ] at hl6
    have b_o6:=j.by hg6 (HM J j (by decide))
    have hK6:=hK5.trans hb6
    refine Be underlying33 O (BC _)<|Az (Dj (u:=lv2) (BC _) O O (AI hl6).one' b_o6 Nat.one_lt_two) ?_
    rintro w11 ⟨b_o7,hg7, -⟩
    have hl7:=EG hl6 b_o6 (by decide) hg7
    have hK7:=hK6.grown hg7 (by have:=hK6.size;omega) (by rintro _ ⟨⟩;omega)
    refine Bf<|Bn<|Ch<|Ac O<|B7 O (by omega)<|Ab O<|Bf ?_
    exact Ap (Pw.next (v+1) ⟨rfl,rfl,rfl,rfl,rfl,rfl,rfl,rfl,trivial⟩ (⟨Q,lv2,b_o7,by rw [← Nat.add_assoc,← q];exact hl7,hK7⟩) (by omega))
   intro h
   have Q:v=H:=by have:=AB h;omega
   subst Q
   refine Bp<|Al<|Al<|Bd<|Bn<|Ch<|Ac O<|B7 O (by omega)<|Ab O<|Bf ?_
   exact Ap (Pw.next (y+1) ⟨rfl,rfl,rfl,rfl,rfl,rfl,rfl,trivial⟩ (⟨R,by rw [← Nat.add_assoc,Nat.succ_mul];exact E⟩) (by omega))
  intro h
  have R:y=I:=by have:=AB h;omega
  subst R
  refine Bp<|Al<|Al<|Bd<|Bn<|Ch<|Ac O<|B7 O (by omega)<|Ab O<|Bf ?_
  exact Ap (Pw.next (o+1) ⟨rfl,rfl,rfl,rfl,rfl,rfl,trivial⟩ (⟨Z,by rw [Nat.succ_mul];exact E⟩) (by omega))
 intro h
 have Z:o=d0:=by have:=AB h;omega
 subst Z
 obtain ⟨lv,j,J,hK⟩:=E
 have eL:(range (o*I*H)).map (L3 t.l t.s S m)=Lk t (m:Int):=by unfold Lk Xa;rw [← hS,Int.toNat_natCast,← hM,Nat.mul_assoc]
 have lL:(Lk t (m:Int)).length=o*I*H:=by rw [← eL];simp
 rw [eL,← lL] at J
 have N:=c.bl hK q_r
 have hx4:=CG hx (fun k e=>hK.block k (by have:=M k e;omega))
 have hB4:=l.trans (hK.mono (by omega))
 have hox:=AG J
 have hxo:=(AI J).one'
 have hxx:=(AI hx4).one'
 refine Bp<|Al<|Al<|Bd<|Cm<|Aa (B9 (AT _) (AP _) O O ‹_›) O ?_
 refine Az (Bv (cs:=[x,lv]) O O O O (by simp [hxo,hxx]) N O) ?_
 rintro w5 ⟨b_r5,U, -⟩
 have hl5:=EG J N (by decide) U
 have hx5:=EG hx4 N (by decide) U
 have hB5:=hB4.grown U (AA hB4) (by rintro _ ⟨⟩;omega)
 refine Ab O<|Bc<|Bt O O O ‹_› underlying33 O O O ?_
 exact ⟨hB5,x,lv,rfl,fun h=>absurd rfl h,fun _=>⟨.inl (BH hx5 (by omega)),BH hl5 (by omega),fun k e1 e2=>by have:=hox k e1;have:=M k e2;omega⟩⟩
set_option maxHeartbeats 4000000 in
theorem Yl (t f:T4) (st p:Int) (W:World) (m:t.at W) (j:f.at W):
  AM prog 40 [t.v,f.v, .int .i64 st, .int .i64 p] W (fun r w' =>Below W.heap.size W w' ∧Qx W w' r (Ho t f st p) (FG t.s f.s st p) (Lm t f st p)):=by
 have s:=Below.refl W.heap.size W
 refine Bb (n:=162) func40 O<|Af<|B5 (cs:=[t.x,t.y]) O O O ?_
 rintro A_t w eA_t A l -
 have s:=s.bs l
 have m:=m.bs l
 have j:=j.bs l
 refine B5 (cs:=[f.x,f.y]) O O O ?_
 rintro A_f w eA_f B l -
 have s:=s.bs l
 have m:=m.bs l
 have j:=j.bs l
 have A:=A.bs l
 have z0:=AA s
 refine Cx AY O ?_
 rintro V w eA_r q l -
 have s:=s.bs l
 have m:=m.bs l
 have j:=j.bs l
 have A:=A.bs l
 have B:=B.bs l
 refine Ab O<|Bh<|Aa (B9 (AT _) (AP _) O O ‹_›) O ?_
 have z_r:=AH q
 refine Aj O O (CY t.x t.y t.s t.l _ m.1 m.2) ?_
 rintro _ w ⟨rfl,l⟩
 have s:=s.bs l
 have m:=m.bs l
 have j:=j.bs l
 have A:=A.bs l
 have B:=B.bs l
 have q:=q.bs l
 refine Aa (Ck O) O<|Ac O ?_
 refine Cc 24 O ?_ ?_
 ·intro g
  refine Ae (dj:=24) O O O O<|Ae (dj:=24) O O O O<|Ae (dj:=24) O O O O<|B4 O<|Ak<|Bz O<|Af<|C8 O<|Az (Bv (cs:=[.slice none 0 0, .slice none 0 0]) O O O O O q O) ?_
  rintro w3 ⟨q,R, -⟩
  have s:=s.grown R (AA s) (by rintro _ ⟨⟩;omega)
  refine Ab O<|Bu<|Bt O O O ‹_› underlying33 O O O ?_
  rw [show Ho t f st p=1 by simp_all [Ho]]
  exact ⟨s,Gw (by decide)⟩
 intro g1
 have k_t:tok t.s t.l=true:=by simpa using g1
 refine Ag (dj:=24) O O<|Aa (B9 (AT _) (AP _) O O ‹_›) O ?_
 refine Ag (dj:=24) O O<|Aj O O (CY f.x f.y f.s f.l _ j.1 j.2) ?_
 rintro _ w ⟨rfl,l⟩
 have s:=s.bs l
 have m:=m.bs l
 have j:=j.bs l
 have A:=A.bs l
 have B:=B.bs l
 have q:=q.bs l
 refine Ag (dj:=24) O O<|Aa (Ck O) O<|Cn O<|Ak<|Aq O ?_ ?_
 ·intro g
  refine Af<|C8 O<|Az (Bv (cs:=[.slice none 0 0, .slice none 0 0]) O O O O O q O) ?_
  rintro w3 ⟨q,R, -⟩
  have s:=s.grown R (AA s) (by rintro _ ⟨⟩;omega)
  refine Ab O<|Bu<|Bt O O O ‹_› underlying33 O O O ?_
  rw [show Ho t f st p=1 by simp_all [Ho]]
  exact ⟨s,Gw (by decide)⟩
 intro g2
 have k_f:tok f.s f.l=true:=by simpa using g2
 have hE:Ho t f st p=BZ t.s f.s st p:=by rw [Ho,k_t,k_f];rfl
 clear g1 g2
 rw [hE]
 have h_t1:=m.1
 have h_f1:=j.1
 have zr0:=AH q
 have zrB:=AA s
 refine Co<|Be underlying33 O (AN _)<|Aa (Ah (AF _) O ‹_› rfl) O ?_
 refine Be underlying33 O (AN _)<|Aa (Ah (AF _) O ‹_› rfl) O ?_
 refine Ac O<|Ac O<|Aj O O (M4 t.s f.s st p t.x f.x _ m.1 j.1) ?_
 rintro _ c ⟨l,x,m',rfl,hx,hno,hyes⟩
 have s:=s.bs l
 have m:=m.bs l
 have j:=j.bs l
 have A:=A.bs l
 have B:=B.bs l
 have q:=q.bs l
 refine Ac O<|Aa (As (i:=0) O O) O<|Aa (As (i:=1) O O) O<|Ab O<|Ab O<|Bh<|Ac O<|Aa (Cs O O) O<|Ak<|Aq O ?_ ?_
 ·intro g
  have g:BZ t.s f.s st p≠0:=by simpa using g
  refine Af<|C8 O<|Ac O<|Az (Bv (cs:=[.slice none 0 0, .slice none 0 0]) O O O O O q O) ?_
  rintro w3 ⟨q,R, -⟩
  have s:=s.grown R (AA s) (by rintro _ ⟨⟩;omega)
  refine Ab O<|Bu<|Bt O O O ‹_› underlying33 O O O ?_
  exact ⟨s,Gw g⟩
 intro g
 have e0:BZ t.s f.s st p=0:=by simpa using g
 clear g
 rw [e0]
 have hm:=hyes e0
 have ok:=Sf k_t k_f e0
 clear hno hyes e0 hE h_t1 h_f1
 obtain ⟨S,hS⟩:∃S,S=FG t.s f.s st p:=⟨_,rfl⟩
 obtain ⟨N,hN⟩:∃N,N=MW f:=⟨_,rfl⟩
 rw [hm,← hS] at hx
 rw [← hS]
 rw [← hS,← hN] at ok
 clear hm
 have lS:=ok.lS
 have okS:=ok.ok
 have szS:=Shapes.size_le S
 have szo:=Shapes.size_ok okS
 rw [MB lS] at szo
 have l3:=ok.lt
 have l4:=ok.lf
 have g0:=AW ok.gS (k:=0) (by omega)
 have g1:=AW ok.gS (k:=1) (by omega)
 have g2:=AW ok.gS (k:=2) (by omega)
 have t0:=AW ok.gt (k:=0) (by omega)
 have t1:=AW ok.gt (k:=1) (by omega)
 have t2:=AW ok.gt (k:=2) (by omega)
 have f0:=AW ok.gf (k:=0) (by omega)
 have f1:=AW ok.gf (k:=1) (by omega)
 have f2:=AW ok.gf (k:=2) (by omega)
 have f3:=AW ok.gf (k:=3) (by omega)
 have okn:=ok.n1
 have okst:=ok.st
 have okpd:=ok.pd
 have nN:=ok.n
 have cc:=ok.c
 have oo:=ok.o
 have fl:=ok.fl
 have m12:1*1≤f.s.getD 1 default*f.s.getD 2 default:=Int.mul_le_mul f1.1 f2.1 (by decide) (by omega)
 have m12' :f.s.getD 1 default*f.s.getD 2 default≤64*64:=Int.mul_le_mul f1.2 f2.2 (by omega) (by decide)
 have m23:1*1≤f.s.getD 2 default*f.s.getD 3 default:=Int.mul_le_mul f2.1 f3.1 (by decide) (by omega)
 have m23' :f.s.getD 2 default*f.s.getD 3 default≤64*64:=Int.mul_le_mul f2.2 f3.2 (by omega) (by decide)
 have nN2:f.s.getD 1 default*f.s.getD 2 default*f.s.getD 3 default=(N:Int):=by rw [nN,Int.mul_assoc]
 obtain ⟨d0,h0⟩:∃d:Nat,S.getD 0 default=(d:Int):=⟨_,(Int.toNat_of_nonneg (by omega)).symm⟩
 obtain ⟨T,h1⟩:∃d:Nat,S.getD 1 default=(d:Int):=⟨_,(Int.toNat_of_nonneg (by omega)).symm⟩
 obtain ⟨M,h2⟩:∃d:Nat,S.getD 2 default=(d:Int):=⟨_,(Int.toNat_of_nonneg (by omega)).symm⟩
 have hM:d0*(T*M)=(Shapes.size S).toNat:=by
  have:((d0*(T*M):Nat):Int)=Shapes.size S:=by rw [szo,h0,h1,h2];push_cast;rfl
  omega
 have zW:=AA s
 obtain ⟨Q,E⟩:∃Q,Q=c.heap.size:=⟨_,rfl⟩
 have X:=AG hx
 have q_t:A_t<Q:=E ▸ AH A
 have q_f:A_f<Q:=E ▸ AH B
 have q_r:V<Q:=E ▸ AH q
 have h_x:=AQ hx
 have d1' :(f.s.drop 1).getD 0 default=f.s.getD 1 default:=by simp
 have d2' :(f.s.drop 1).getD 1 default=f.s.getD 2 default:=by simp
 have d3' :(f.s.drop 1).getD 2 default=f.s.getD 3 default:=by simp
 have ln:(f.s.drop 1).length=3:=by rw [length_drop,l4]
 refine Co<|Cx AY O ?_
 rintro D w2 eA_o C hn2 zhn2
 have l_o:Q≤D:=by omega
 refine Bl<|Ac O<|Be underlying33 O (AN _)<|Az (Dj (u:=x) (AN _) O O h_x.one' C (by decide)) ?_
 rintro w3 ⟨H,R, -⟩
 have H:AO w3 D 33 [x, .slice none 0 0]:=H
 have hK0:Below Q c w3:=(E ▸ hn2:Below Q c w2).grown R (by have:=hn2.size;omega) (by rintro _ ⟨⟩;omega)
 clear C R hn2 zhn2
 refine Bh<|Ab O<|Ak<|Ao ?_
 refine Bq (S:=Nat) (fun o=>[(2, .int .i64 st),(3, .int .i64 p),(4, .pointer (some ⟨A_t,0,none⟩)),(5, .pointer (some ⟨A_f,0,none⟩)),(8, .pointer (some ⟨V,0,none⟩)),(10,x),(12, .pointer (some ⟨D,0,none⟩)),(13, .int .i64 (o:Int))]) (fun o w' =>o≤d0∧RP D x Q c (Ja t f st p) (o*T*M) w') (fun o=>d0 - o) (0) ⟨rfl,rfl,rfl,rfl,rfl,rfl,rfl,rfl,trivial⟩ ?_ ?_
 ·exact ⟨Nat.zero_le _,_,H,by rw [Nat.zero_mul,Nat.zero_mul];exact World.ownsRow_nil _ _ _ _,hK0⟩
 clear H hK0
 rintro o w4 ⟨ho,L⟩
 have G:BS (Value.int .i64) w4 x S:=Sl.stay h_x fun k e hne=>L.bel.block k (by have:=X k e;omega)
 refine An<|Af<|Ac O<|Ac O<|Aa (Ay AC O O ‹_› 0 O (by omega)) O ?_
 refine Aa (Bj (AK _) O ‹_› (by omega)) O ?_
 refine B3 O<|Ak<|Aq O ?_ ?_
 ·intro h
  have ho' :o<d0:=by have:=AD h;omega
  refine B0<|An<|Ao<|Af<|Ab O<|Ak<|Ao ?_
  refine Bq (S:=Nat) (fun y=>[(2, .int .i64 st),(3, .int .i64 p),(4, .pointer (some ⟨A_t,0,none⟩)),(5, .pointer (some ⟨A_f,0,none⟩)),(8, .pointer (some ⟨V,0,none⟩)),(10,x),(12, .pointer (some ⟨D,0,none⟩)),(13, .int .i64 (o:Int)),(14, .int .i64 (y:Int))]) (fun y w' =>y≤T∧RP D x Q c (Ja t f st p) ((o*T+y)*M) w') (fun y=>T - y) (0) ⟨rfl,rfl,rfl,rfl,rfl,rfl,rfl,rfl,rfl,trivial⟩ ?_ ?_
  ·exact ⟨Nat.zero_le _,L⟩
  clear L G
  rintro y w5 ⟨hy,L⟩
  have G:BS (Value.int .i64) w5 x S:=Sl.stay h_x fun k e hne=>L.bel.block k (by have:=X k e;omega)
  refine An<|Af<|Ac O<|Ac O<|Aa (Ay AC O O ‹_› 1 O (by omega)) O ?_
  refine Aa (Bj (AK _) O ‹_› (by omega)) O ?_
  refine B3 O<|Ak<|Aq O ?_ ?_
  ·intro h
   have hy' :y<T:=by have:=AD h;omega
   refine B0<|An<|Ao<|Af<|Ab O<|Ak<|Ao ?_
   refine Bq (S:=Nat) (fun v=>[(2, .int .i64 st),(3, .int .i64 p),(4, .pointer (some ⟨A_t,0,none⟩)),(5, .pointer (some ⟨A_f,0,none⟩)),(8, .pointer (some ⟨V,0,none⟩)),(10,x),(12, .pointer (some ⟨D,0,none⟩)),(13, .int .i64 (o:Int)),(14, .int .i64 (y:Int)),(15, .int .i64 (v:Int))]) (fun v w' =>v≤M∧RP D x Q c (Ja t f st p) ((o*T+y)*M+v) w') (fun v=>M - v) (0) ⟨rfl,rfl,rfl,rfl,rfl,rfl,rfl,rfl,rfl,rfl,trivial⟩ ?_ ?_
   ·exact ⟨Nat.zero_le _,L⟩
   clear L G
   rintro v w6 ⟨hv,L⟩
   have G:BS (Value.int .i64) w6 x S:=Sl.stay h_x fun k e hne=>L.bel.block k (by have:=X k e;omega)
   refine An<|Af<|Ac O<|Ac O<|Aa (Ay AC O O ‹_› 2 O (by omega)) O ?_
   refine Aa (Bj (AK _) O ‹_› (by omega)) O ?_
   refine B3 O<|Ak<|Aq O ?_ ?_
   ·intro h
    have Z:v<M:=by have:=AD h;omega
    obtain ⟨lv,C,U,hK⟩:=L
    have hn0:=QO ho' hy' Z (Nat.le_of_eq hM)
    obtain ⟨n,l⟩:∃n,n=(o*T+y)*M+v:=⟨_,rfl⟩
    obtain ⟨sc,sy,sx⟩:=Oe (o:=o) h1 h2 hy' Z
    rw [← l] at sc sy sx hn0 U
    have my:0≤(y:Int)*st∧(y:Int)*st≤64*8:=⟨Int.mul_nonneg (by omega) (by omega),Int.mul_le_mul (by omega) okst.2 (by omega) (by decide)⟩
    have mv:0≤(v:Int)*st∧(v:Int)*st≤64*8:=⟨Int.mul_nonneg (by omega) (by omega),Int.mul_le_mul (by omega) okst.2 (by omega) (by decide)⟩
    have o1:0≤(o:Int)*f.s.getD 1 default∧(o:Int)*f.s.getD 1 default≤64*64:=⟨Int.mul_nonneg (by omega) (by omega),Int.mul_le_mul (by omega) f1.2 (by omega) (by decide)⟩
    have o2:0≤(o:Int)*f.s.getD 1 default*f.s.getD 2 default∧(o:Int)*f.s.getD 1 default*f.s.getD 2 default≤64*64*64:=⟨Int.mul_nonneg o1.1 (by omega),Int.mul_le_mul o1.2 f2.2 (by omega) (by decide)⟩
    have oN:(o:Int)*f.s.getD 1 default*f.s.getD 2 default*f.s.getD 3 default=(o:Int)*(N:Int):=by rw [← nN2,Int.mul_assoc (o:Int),Int.mul_assoc (o:Int)]
    have oN2:0≤(o:Int)*(N:Int):=Int.mul_nonneg (by omega) (by omega)
    have oN3:((o:Int)+1)*(N:Int)≤f.s.getD 0 default*(N:Int):=Int.mul_le_mul_of_nonneg_right (by omega) (by omega)
    have f0N:f.s.getD 0 default*(N:Int)≤64*4096:=Int.mul_le_mul f0.2 (by omega) (by omega) (by decide)
    rw [Int.add_mul,Int.one_mul] at oN3
    refine B0<|An<|Ao<|Af<|Aa (Cf (show _=some (i32 (0#32)) from rfl)) O<|Bh<|Ab O<|Ak<|Ao ?_
    refine Bq (S:=Nat) (fun k=>[(2, .int .i64 st),(3, .int .i64 p),(4, .pointer (some ⟨A_t,0,none⟩)),(5, .pointer (some ⟨A_f,0,none⟩)),(8, .pointer (some ⟨V,0,none⟩)),(10,x),(12, .pointer (some ⟨D,0,none⟩)),(13, .int .i64 (o:Int)),(14, .int .i64 (y:Int)),(15, .int .i64 (v:Int)),(16,i32 (Mm t.l f.l t.s S (f.s.drop 1) N st p n k)),(17, .int .i64 (k:Int))]) (fun k w' =>k≤N∧Below w6.heap.size w6 w') (fun k=>N - k) (0) ⟨rfl,rfl,rfl,rfl,rfl,rfl,rfl,rfl,rfl,rfl,rfl,rfl,trivial⟩ ?_ ?_
    ·exact ⟨Nat.zero_le _,Below.refl _ _⟩
    rintro k w8 ⟨hk,F⟩
    have J:=hK.trans (F.mono (by have:=hK.size;omega))
    have b_f8:=B.bl J q_f
    have h_f8:=KP j j (Nat.le_of_eq E.symm) J
    have h_f81:=h_f8.1
    refine An<|An<|Cv AS (by kernel_rfl)<|Bg O<|Ad (fun c a=>Cd underlying33 O (AN _)) O<|Ad (fun c a=>Ah (AF _) O (AO.bs ‹_› a) O) O ?_
    refine Ad (fun c a=>Ay AC O O (Sl.bs ‹_› a) 1 O (by omega)) O ?_
    refine Ad (fun c a=>Bj (AK _) O (Sl.bs ‹_› a) (by omega)) O ?_
    refine Ad (fun c a=>Cd underlying33 O (AN _)) O<|Ad (fun c a=>Ah (AF _) O (AO.bs ‹_› a) O) O ?_
    refine Ad (fun c a=>Ay AC O O (Sl.bs ‹_› a) 2 O (by omega)) O ?_
    refine Ad (fun c a=>Bj (AK _) O (Sl.bs ‹_› a) (by omega)) O ?_
    refine Ad (fun c a=>C6 O O (by omega)) O<|Ad (fun c a=>Cd underlying33 O (AN _)) O<|Ad (fun c a=>Ah (AF _) O (AO.bs ‹_› a) O) O ?_
    refine Ad (fun c a=>Ay AC O O (Sl.bs ‹_› a) 3 O (by omega)) O ?_
    refine Ad (fun c a=>Bj (AK _) O (Sl.bs ‹_› a) (by omega)) O ?_
    refine Ad (fun c a=>(C6 O O (by omega)).as (cngA (Value.int .i64) nN2)) O<|Ad (fun c a=>Eh O O) O ?_
    refine Cr (fun w7 a=> ?_)
    refine Ap<|B8<|Aq O ?_ ?_
    ·intro h
     have hk' :k<N:=by have:=AD h;omega
     have hk0:(0:Int)≤(k:Int):=by omega
     have hn9:=bt F a
     clear a
     have hK9:=hK.trans (hn9.mono (by have:=hK.size;omega))
     have b_f9:=B.bl hK9 q_f
     have b_t9:=A.bl hK9 q_t
     have h_f9:=KP j j (Nat.le_of_eq E.symm) hK9
     have h_t9:=KP m m (Nat.le_of_eq E.symm) hK9
     have h_f91:=h_f9.1
     have jc:0≤G3 (f.s.drop 1) k∧G3 (f.s.drop 1) k<f.s.getD 1 default:=by rw [← d1'];exact Ni ok.okf ln (by have:=Shapes.size_le (f.s.drop 1);unfold MW at hN;omega)
     have jy:0≤HQ (f.s.drop 1) k∧HQ (f.s.drop 1) k<64:=by
      have h1:=Int.emod_nonneg ((k:Int) / (f.s.drop 1).getD 2 default) (b:=(f.s.drop 1).getD 1 default) (by omega)
      have h2:=Int.emod_lt_of_pos ((k:Int) / (f.s.drop 1).getD 2 default) (b:=(f.s.drop 1).getD 1 default) (by omega)
      unfold HQ;omega
     have jx:0≤HR (f.s.drop 1) k∧HR (f.s.drop 1) k<64:=by
      have h1:=Int.emod_nonneg (k:Int) (b:=(f.s.drop 1).getD 2 default) (by omega)
      have h2:=Int.emod_lt_of_pos (k:Int) (b:=(f.s.drop 1).getD 2 default) (by omega)
      unfold HR;omega
     have tl:(G3 (f.s.drop 1) k+1)*(t.s.getD 1 default*t.s.getD 2 default)≤t.l.length:=by
      rw [ok.tl,ok.c]
      exact Int.mul_le_mul_of_nonneg_right (by omega) (Int.mul_nonneg (by omega) (by omega))
     obtain ⟨K,hKK⟩:∃K:Nat,(o:Int)*(N:Int)+(k:Int)=(K:Int):=⟨_,(Int.toNat_of_nonneg (by omega)).symm⟩
     have hKl:K<f.l.length:=by omega
     have eK:(G3 S (n:Int)).toNat*N+k=K:=by
      rw [sc,Int.toNat_natCast]
      have h2:((o*N+k:Nat):Int)=(K:Int):=by push_cast;exact hKK
      exact_mod_cast h2
     have eS:Mm t.l f.l t.s S (f.s.drop 1) N st p n k+ME t.l (t.s.getD 1 default) (t.s.getD 2 default) (G3 (f.s.drop 1) k) ((y:Int)*st - p+HQ (f.s.drop 1) k) ((v:Int)*st - p+HR (f.s.drop 1) k)*f.l.getD K default=Mm t.l f.l t.s S (f.s.drop 1) N st p n (k+1):=by
      rw [← eK,← sy,← sx];rfl
     refine B0<|An<|Ao<|An<|Cv AS (by kernel_rfl)<|Bg O<|Ad (fun c a=>Cd underlying33 O (AN _)) O<|Ad (fun c a=>Ah (AF _) O (AO.bs ‹_› a) O) O ?_
     refine Ad (fun c a=>Ay AC O O (Sl.bs ‹_› a) 2 O (by omega)) O ?_
     refine Ad (fun c a=>Bj (AK _) O (Sl.bs ‹_› a) (by omega)) O ?_
     refine Ad (fun c a=>Cd underlying33 O (AN _)) O<|Ad (fun c a=>Ah (AF _) O (AO.bs ‹_› a) O) O ?_
     refine Ad (fun c a=>Ay AC O O (Sl.bs ‹_› a) 3 O (by omega)) O ?_
     refine Ad (fun c a=>Bj (AK _) O (Sl.bs ‹_› a) (by omega)) O ?_
     refine Ad (fun c a=>C6 O O (by omega)) O<|Ad (fun c a=>(Dz O O (by omega) (by omega)).as (cngA (Value.int .i64) (show _=G3 (f.s.drop 1) k by unfold G3;rw [d2',d3']))) O<|Dk O ?_
     refine Cr (fun w9 a=> ?_)
     refine Ap<|B8<|An ?_
     have hn10:=bt hn9 a
     have b_f10:=b_f9.bs a
     have h_f101:=h_f91.bs a
     have b_t10:=b_t9.bs a
     have h_f10:=h_f9.bs a
     have h_t10:=h_t9.bs a
     clear a
     refine Cv AS (by kernel_rfl)<|Bg O<|Ad (fun c a=>Cd underlying33 O (AN _)) O<|Ad (fun c a=>Ah (AF _) O (AO.bs ‹_› a) O) O ?_
     refine Ad (fun c a=>Ay AC O O (Sl.bs ‹_› a) 3 O (by omega)) O ?_
     refine Ad (fun c a=>Bj (AK _) O (Sl.bs ‹_› a) (by omega)) O ?_
     refine Ad (fun c a=>Dz O O (by omega) (by omega)) O<|Ad (fun c a=>Cd underlying33 O (AN _)) O<|Ad (fun c a=>Ah (AF _) O (AO.bs ‹_› a) O) O ?_
     refine Ad (fun c a=>Ay AC O O (Sl.bs ‹_› a) 2 O (by omega)) O ?_
     refine Ad (fun c a=>Bj (AK _) O (Sl.bs ‹_› a) (by omega)) O ?_
     refine Ad (fun c a=>(El O O (Int.ediv_nonneg (by omega) (by omega)) (by omega)).as (cngA (Value.int .i64) (show _=HQ (f.s.drop 1) k by unfold HQ;rw [d2',d3']))) O<|Dk O ?_
     refine Cr (fun w10 a=> ?_)
     refine Ap<|B8<|An ?_
     have hn11:=bt hn10 a
     have b_f11:=b_f10.bs a
     have b_t11:=b_t10.bs a
     have h_f111:=h_f101.bs a
     have I:=h_f10.2.bs a
     have h_t11:=h_t10.bs a
     clear a
     refine Bw<|Ac O<|Be underlying33 O (AN _)<|Aa (Ah (AF _) O ‹_› rfl) O ?_
     refine Aa (Ay AC O O ‹_› 3 O (by omega)) O ?_
     refine Aa (Bj (AK _) O ‹_› (by omega)) O ?_
     refine Aa ((El O O (by omega) (by omega)).as (cngA (Value.int .i64) (show _=HR (f.s.drop 1) k by unfold HR;rw [d3']))) O<|Ab O<|Ak<|Cv AS (by kernel_rfl)<|Bg O<|Ad (fun c a=>B9 (AT _) (AP _) O O (AO.bs ‹_› a)) O ?_
     refine Bg O<|Bg O<|Bg O<|Ad (fun c a=>C6 O O (by omega)) O<|Bg O<|Ad (fun c a=>Du O O (by omega)) O<|Bg O<|Ad (fun c a=>De O O (by omega)) O<|Bg O<|Bg O<|Ad (fun c a=>C6 O O (by omega)) O<|Bg O<|Ad (fun c a=>Du O O (by omega)) O<|Bg O<|Ad (fun c a=>De O O (by omega)) O<|C3 O O (fun c a=>(Py t (G3 (f.s.drop 1) k) ((y:Int)*st - p+HQ (f.s.drop 1) k) ((v:Int)*st - p+HR (f.s.drop 1) k) c (h_t11.bs a) l3 (by omega) (by omega) (by omega) (by omega) (by omega) tl).q a)<|Ad (fun c a=>Cd underlying33 O (BC _)) O<|Ad (fun c a=>Ah (BG _) O (AO.bs ‹_› a) O) O ?_
     refine Bg O<|Ad (fun c a=>Cd underlying33 O (AN _)) O<|Ad (fun c a=>Ah (AF _) O (AO.bs ‹_› a) O) O ?_
     refine Ad (fun c a=>Ay AC O O (Sl.bs ‹_› a) 1 O (by omega)) O ?_
     refine Ad (fun c a=>Bj (AK _) O (Sl.bs ‹_› a) (by omega)) O ?_
     refine Ad (fun c a=>C6 O O (by omega)) O<|Ad (fun c a=>Cd underlying33 O (AN _)) O<|Ad (fun c a=>Ah (AF _) O (AO.bs ‹_› a) O) O ?_
     refine Ad (fun c a=>Ay AC O O (Sl.bs ‹_› a) 2 O (by omega)) O ?_
     refine Ad (fun c a=>Bj (AK _) O (Sl.bs ‹_› a) (by omega)) O ?_
     refine Ad (fun c a=>C6 O O (by omega)) O<|Ad (fun c a=>Cd underlying33 O (AN _)) O<|Ad (fun c a=>Ah (AF _) O (AO.bs ‹_› a) O) O ?_
     refine Ad (fun c a=>Ay AC O O (Sl.bs ‹_› a) 3 O (by omega)) O ?_
     refine Ad (fun c a=>Bj (AK _) O (Sl.bs ‹_› a) (by omega)) O ?_
     refine Ad (fun c a=>(C6 O O (by omega)).as (cngA (Value.int .i64) oN)) O<|Bg O<|Ad (fun c a=>De O O (by omega)) O<|Ad (fun c a=>Ay AU O O (Sl.bs I a) K hKK hKl) O<|Ad (fun c a=>Bj (CF _) O (Sl.bs I a) hKl) O<|Ad (fun c a=>En O O) O<|Ad (fun c a=>D7 O O) O<|Dk O ?_
     refine Cr (fun w11 a=> ?_)
     refine Bn<|Ch<|Ac O<|B7 O (by omega)<|Ab O<|Bf ?_
     exact Ap (Pw.next (k+1) ⟨rfl,rfl,rfl,rfl,rfl,rfl,rfl,rfl,rfl,rfl,cngA (fun z=>some (i32 z)) eS,rfl,trivial⟩ (⟨hk',bt hn11 a⟩) (by omega))
    intro h
    have hk' :k=N:=by have:=AB h;omega
    have F:=bt F a
    clear J b_f8 h_f8 h_f81 a
    subst hk'
    rw [show Mm t.l f.l t.s S (f.s.drop 1) k st p n k=Ja t f st p n by unfold Ja;rw [← hS,← hN]]
    have C:=C.bs F
    have U:=AL U F
    have J:=hK.trans (F.mono (by have:=hK.size;omega))
    refine Bp<|Al<|Al<|Bd<|Ch<|Be underlying33 O (BC _)<|Aa (Ah (BG _) O ‹_› rfl) O ?_
    refine Ac O<|Bk (Dl (vs:=[Ja t f st p n].map i32) AU DY O O O O O) O ?_
    rintro z w5 ⟨hz, -,hn5, -⟩
    have C:=C.bs hn5
    have U:=AL U hn5
    have hK5:=J.trans (hn5.mono (by have:=J.size;omega))
    refine Bk (Dp (base:=Q) AU DY O (by decide) O O U (AI hz) (DE (fun _=>rfl) _) (by omega) (by omega) (by have:=hK5.size;omega)) O ?_
    rintro lv2 w10 ⟨hl6,hb6,hg6⟩
    rw [← map_append,← map_singleton (f:=Ja t f st p),← map_append,← range_succ] at hl6
    have b_o6:=C.by hg6 (HM U C (by decide))
    have hK6:=hK5.trans hb6
    refine Be underlying33 O (BC _)<|Az (Dj (u:=lv2) (BC _) O O (AI hl6).one' b_o6 Nat.one_lt_two) ?_
    rintro w11 ⟨b_o7,hg7, -⟩
    have hl7:=EG hl6 b_o6 (by decide) hg7
    have hK7:=hK6.grown hg7 (by have:=hK6.size;omega) (by rintro _ ⟨⟩;omega)
    refine Bf<|Bn<|Ch<|Ac O<|B7 O (by omega)<|Ab O<|Bf ?_
    exact Ap (Pw.next (v+1) ⟨rfl,rfl,rfl,rfl,rfl,rfl,rfl,rfl,rfl,rfl,trivial⟩ (⟨Z,lv2,b_o7,by rw [← Nat.add_assoc,← l];exact hl7,hK7⟩) (by omega))
   intro h
   have Z:v=M:=by have:=AB h;omega
   subst Z
   refine Bp<|Al<|Al<|Bd<|Bn<|Ch<|Ac O<|B7 O (by omega)<|Ab O<|Bf ?_
   exact Ap (Pw.next (y+1) ⟨rfl,rfl,rfl,rfl,rfl,rfl,rfl,rfl,rfl,trivial⟩ (⟨hy',by rw [← Nat.add_assoc,Nat.succ_mul];exact L⟩) (by omega))
  intro h
  have hy' :y=T:=by have:=AB h;omega
  subst hy'
  refine Bp<|Al<|Al<|Bd<|Bn<|Ch<|Ac O<|B7 O (by omega)<|Ab O<|Bf ?_
  exact Ap (Pw.next (o+1) ⟨rfl,rfl,rfl,rfl,rfl,rfl,rfl,rfl,trivial⟩ (⟨ho',by rw [Nat.succ_mul];exact L⟩) (by omega))
 intro h
 have ho' :o=d0:=by have:=AB h;omega
 subst ho'
 obtain ⟨lv,C,U,hK⟩:=L
 have eL:(range (o*T*M)).map (Ja t f st p)=Lm t f st p:=by unfold Lm;rw [← hS,← hM,Nat.mul_assoc]
 have lL:(Lm t f st p).length=o*T*M:=by rw [← eL];simp
 rw [eL,← lL] at U
 have Y:=q.bl hK q_r
 have hx4:=CG hx (fun k e=>hK.block k (by have:=X k e;omega))
 have hB4:=s.trans (hK.mono (by omega))
 have hox:=AG U
 have hxo:=(AI U).one'
 have hxx:=(AI hx4).one'
 refine Bp<|Al<|Al<|Bd<|Cm<|Aa (B9 (AT _) (AP _) O O ‹_›) O ?_
 refine Az (Bv (cs:=[x,lv]) O O O O (by simp [hxo,hxx]) Y O) ?_
 rintro w5 ⟨b_r5,R, -⟩
 have hl5:=EG U Y (by decide) R
 have hx5:=EG hx4 Y (by decide) R
 have hB5:=hB4.grown R (AA hB4) (by rintro _ ⟨⟩;omega)
 refine Ab O<|Bc<|Bt O O O ‹_› underlying33 O O O ?_
 exact ⟨hB5,x,lv,rfl,fun h=>absurd rfl h,fun _=>⟨.inl (BH hx5 (by omega)),BH hl5 (by omega),fun k e1 e2=>by have:=hox k e1;have:=X k e2;omega⟩⟩

set_option maxRecDepth 100000
theorem V8 (u:Value) (l:List Int) (x:Int) (w:World) (b:BS (Value.int .i64) w u l):AM prog 243 [u, .int .i64 x] w (fun r c=>(∃j,r= .int .i64 j∧decide (0≤j)=l.contains x)∧c=w):=by
 have f:=b.le
 refine Bb (n:=19) func243 O<|Af<|Ab O<|Bh<|Ac O<|Aa (Au AC O ‹_›) O ?_
 refine Ac O<|Ak<|Ao ?_
 refine Bq (S:=Nat) (fun i=>[(0,u),(1, .int .i64 x),(7, .int .i64 (l.length:Int)),(8, .int .i64 (i:Int))]) (fun i c=>i≤l.length∧(l.take i).contains x=false∧c=w) (fun i=>l.length - i) (0) ⟨rfl,rfl,rfl,rfl,trivial⟩ ?_ ?_
 ·exact ⟨Nat.zero_le _,rfl,rfl⟩
 rintro i k ⟨m,d,rfl⟩
 refine Af<|B3 O<|Ak<|An<|Aq O ?_ ?_
 ·intro h
  have a:i<l.length:=by have:=AD h;omega
  have e1:l.take (i+1)=l.take i++[l.getD i default]:=by rw [take_succ_eq_append_getElem a];simp [a]
  refine B0<|An<|Ao<|Af<|Ac O<|Ab O<|Bl<|Ac O<|Ac O<|Ac O<|Aa (Ay AC O O ‹_› _ O (by omega)) O ?_
  refine Aa (Bj (AK _) O ‹_› (by omega)) O ?_
  refine Aa (Da O O) O<|Ak<|Aq O ?_ ?_
  ·intro g
   have g:=AD g
   refine Af<|Ac O<|Ab O<|Bc<|Bi<|Av<|Av<|Bi<|Av<|Ax O O ?_
   refine ⟨⟨(i:Int),rfl, ?_⟩,rfl⟩
   have e:x ∈ l:=by rw [g];simp [a]
   rw [decide_eq_true (by omega),List.contains_iff_mem.2 e]
  intro g
  have g:=AB g
  refine Cp<|Bn<|Ch<|B7 O (by omega)<|Ac O<|Bf ?_
  exact Ap (Pw.next (i+1) ⟨rfl,rfl,rfl,rfl,trivial⟩ (⟨a,by rw [e1,contains_append,d,Bool.false_or,contains_cons,beq_false_of_ne g];rfl,rfl⟩) (by omega))
 intro h
 have a:i=l.length:=by have:=AB h;omega
 subst a
 rw [take_length] at d
 refine Bp<|Al<|Al<|Bd<|Cm<|Ab O<|Bc<|Ax O O ?_
 exact ⟨⟨-1,rfl,by rw [d];rfl⟩,rfl⟩
theorem Ju (u:Value) (l:List Int) (x:Int) (w:World) (a:BS (Value.int .i64) w u l):AM prog 216 [u, .int .i64 x] w (fun r c=>r= .bool (l.contains x)∧Below w.heap.size w c):=by
 refine Bb (n:=9) func216 O<|Af<|Ab O<|Bl<|Ac O<|Ac O<|Aj O O (V8 u l x w a) ?_
 rintro _ _ ⟨⟨j,rfl,b⟩,rfl⟩
 exact Aa (Ds rfl rfl) rfl<|Ab rfl<|Bc<|Ax rfl rfl<|⟨cngA Value.bool b,Below.refl _ _⟩
end Go.Proofs.YtmipoeanpnnjoaaGreatDoor

namespace Go.Proofs.YtmipoeanpnnjoaaGreatDoor
open Go Go.Dd Go.RowKit List
set_option maxRecDepth 100000
theorem Hn {d w c:World} {a:T4} {B:Nat} (p:a.at d) (h:a.at w) (f:d.heap.size≤B) (g:Below B w c):a.at c:=
 ⟨Sl.stay h.1 fun k e b=>g.block k (Nat.lt_of_lt_of_le (Sl.blk p.1 b k e) f),Sl.stay h.2 fun k e b=>g.block k (Nat.lt_of_lt_of_le (Sl.blk p.2 b k e) f)⟩
def CN (w:World) (v:Value) (ts:List T4):Prop:=Sl w 2 v ts.length (cellsOf ts)∧∀t ∈ ts,t.at w
theorem CN.bs {w a:World} {v:Value} {ts:List T4} (h:CN w v ts) (g:Below w.heap.size w a):CN a v ts:=⟨h.1.bs g,fun t b=>(h.2 t b).bs g⟩
theorem CN.stay {c w b:World} {v:Value} {ts:List T4} {B:Nat} (p:CN c v ts) (h:CN w v ts) (d:c.heap.size≤B) (g:Below B w b):CN b v ts:=
 ⟨Sl.stay h.1 fun k e a=>g.block k (Nat.lt_of_lt_of_le (Sl.blk p.1 a k e) d),fun t f=>Hn (p.2 t f) (h.2 t f) d g⟩
theorem CN.slice {w:World} {v:Value} {ts:List T4} (h:CN w v ts) {i:Nat} (d:i<ts.length):∃ad c k,v= .slice (some ad) c k:=by
 obtain ⟨_,a,cap,rfl,_,_,b,_⟩:=h.1
 cases a with
 |none=>have:=b rfl;omega
 |some ad=>exact ⟨_,_,_,rfl⟩
theorem Hi {ts:List T4} {i:Nat} (h:i<ts.length):∃t:T4,t=ts[i]∧t ∈ ts∧(cellsOf ts)[i*2]? =some t.x∧(cellsOf ts)[i*2+1]? =some t.y:=
 ⟨ts[i],rfl,getElem_mem h,(CW h).1,(CW h).2⟩
theorem FA {xs:List Value} {o:Nat} {x y:Value} (a:xs[o]? =some x) (b:xs[o+1]? =some y):∀i,i<2→∃q,[x,y][i]? =some q∧xs[o+i]? =some q:=fun i c=>by
 rcases (show i=0∨i=1 by omega) with rfl|rfl
 ·exact ⟨_,rfl,a⟩
 ·exact ⟨_,rfl,b⟩
end Go.Proofs.YtmipoeanpnnjoaaGreatDoor
