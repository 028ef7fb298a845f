/- Texts of this proof, one behind the other: Mov, Pl, Cel, Bkn, Map, Box, Del, Ret, ShapesCode, TensorsCode, MathsCode, MathsShiftCode, Twins, TensorsLaw, MathsLaw, RefShape, RefCode. -/
import Derived.Test.YtmipoeanpnnjoaaGreatDoorPk1
import Derived.Lib.AppendZerosOnto
import Derived.Laws.Pointers
import Derived.MapKept
import Derived.OwnWalk

namespace Go.Dd
open Go Go.RowKit List
def FU (f:Nat→Int):Nat→Int
 |0=>0
 |n+1=>FU f n+f n
theorem QW {f g:Nat→Int}:∀{n:Nat},(∀i,i<n→f i≤g i)→FU f n≤FU g n
 |0,_=>Int.le_refl _
 |n+1,h=>by
  have a:=QW (n:=n) fun i b=>h i (by omega)
  have c:=h n (by omega)
  simp only [FU];omega
theorem LP {f:Nat→Int}:∀{n:Nat},(∀i,i<n→0≤f i)→0≤FU f n
 |0,_=>Int.le_refl _
 |n+1,h=>by
  have a:=LP (n:=n) fun i b=>h i (by omega)
  have c:=h n (by omega)
  simp only [FU];omega
theorem R5 {f:Nat→Int} {n m:Nat} (b:n≤m) (h:∀i,i<m→0≤f i):FU f n≤FU f m:=by
  induction m with
  | zero => obtain rfl : n = 0 := by omega
            exact Int.le_refl _
  |succ m ih=>
    rcases Nat.lt_or_ge n (m+1) with a|a
    · have d:=ih (by omega) fun i e=>h i (by omega)
      have c:=h m (by omega)
      simp only [FU];omega
    · obtain rfl:n=m+1:=by omega
      exact Int.le_refl _
theorem LQ {f g:Nat→Int}:∀{n:Nat},(∀i,i<n→f i=g i)→FU f n=FU g n
 |0,_=>rfl
 |n+1,h=>by simp only [FU];rw [LQ (n:=n) fun i a=>h i (by omega),h n (by omega)]
def HW (f:Nat→Int):List Nat→Int
 |[]=>0
 |x::l=>f x+HW f l
theorem Iu (f:Nat→Int):∀(l m:List Nat),HW f (l++m)=HW f l+HW f m
 |[],m=>by simp [HW]
 |x::l,m=>by simp only [cons_append,HW];rw [Iu f l m];omega
theorem Ku {f:Nat→Int} {l m:List Nat} (h:l.Perm m):HW f l=HW f m:=by
 induction h with
 |nil=>rfl
 |cons x _ ih=>simp only [HW];rw [ih]
 |swap x y l=>simp only [HW];omega
 |trans _ _ h1 h2=>rw [h1,h2]
theorem HI (f:Nat→Int):∀n,HW f (range n)=FU f n
 |0=>rfl
 |n+1=>by rw [range_succ,Iu,HI f n];simp [FU,HW]
theorem MO (f:Nat→Int) (l:List Nat):∀n,n≤l.length→FU (fun j=>f (l.getD j default)) n=HW f (l.take n)
 |0,_=>by simp [FU,HW]
 |n+1,h=>by
  rw [FU,MO f l n (by omega),take_succ_eq_append_getElem (by omega),Iu]
  have:n<l.length:=by omega
  simp [HW,this]
theorem O0 (f:Nat→Int) (l:List Nat):FU (fun j=>f (l.getD j default)) l.length=HW f l:=by rw [MO f l _ (AX _),take_length]
theorem MA {s:List Int}:∀{n:Nat},n≤s.length→FU (fun k=>(s.getD k default - 1)*Shapes.prod (s.drop (k+1))) n=Shapes.prod s - Shapes.prod (s.drop n)
 |0,_=>by simp [FU]
 |n+1,h=>by
  rw [FU,MA (n:=n) (by omega),Shapes.prod_drop (s:=s) (k:=n) (by omega),Int.sub_mul,Int.one_mul];omega
theorem Ru {l m:List Int} (h:l.Perm m):Shapes.prod l=Shapes.prod m:=by
 induction h with
 |nil=>rfl
 |cons x _ ih=>simp only [Shapes.prod];rw [ih]
 |swap x y l=>simp only [Shapes.prod];rw [← Int.mul_assoc,← Int.mul_assoc,Int.mul_comm x y]
 |trans _ _ h1 h2=>rw [h1,h2]
theorem Iz {s:List Int} (h:Shapes.good s) {k:Nat} (a:k<s.length):1≤s.getD k default∧s.getD k default≤64:=by
 have:s.getD k default ∈ s:=by simp [a]
 exact h _ this
def Kj (o:List Int) (j:Nat):Bool:=decide (0≤o.getD j default) && decide (o.getD j default<(o.length:Int)) && !(o.take j).contains (o.getD j default)
def DL (o:List Int):Bool:=(range o.length).all (Kj o)
theorem Hx {o:List Int}:DL o=true↔∀j,j<o.length→Kj o j=true:=by
 unfold DL
 rw [all_eq_true]
 exact ⟨fun h j a=>h j (List.mem_range.2 a),fun h j a=>h j (List.mem_range.1 a)⟩
theorem L4 {o:List Int} {j:Nat} (a:j<o.length) (h:Kj o j=false):DL o=false:=by
 cases hk:DL o with
 |false=>rfl
 |true=>rw [Hx.1 hk j a] at h;cases h
theorem Gl {o:List Int} (h:DL o=true) {j:Nat} (a:j<o.length):0≤o.getD j default∧o.getD j default<(o.length:Int):=by
 have:=Hx.1 h j a
 simp only [Kj,Bool.and_eq_true,decide_eq_true_eq] at this
 exact this.1
theorem P1 {o:List Int} (h:DL o=true) {i j:Nat} (g:i<j) (c:j<o.length):o.getD i default≠o.getD j default:=by
 intro e
 have:=Hx.1 h j c
 simp only [Kj,Bool.and_eq_true,Bool.not_eq_true'] at this
 have a:=this.2
 have b:o.getD j default ∈ o.take j:=by
  rw [← e]
  have d:i<o.length:=by omega
  have f:i<(o.take j).length:=by rw [length_take];omega
  have:(o.take j)[i]=o.getD i default:=by simp [d]
  rw [← this]
  exact getElem_mem f
 have:(o.take j).contains (o.getD j default)=true:=by simpa using b
 rw [this] at a
 cases a
def Hy (o:List Int):List Nat:=o.map Int.toNat
theorem Yq:∀a:Fin 1,[a.val].isPerm [0]=true:=by decide
theorem Yp:∀a b:Fin 2,a≠b→[a.val,b.val].isPerm [0,1]=true:=by decide
theorem Yo:∀a b c:Fin 3,a≠b→a≠c→b≠c→[a.val,b.val,c.val].isPerm [0,1,2]=true:=by decide+kernel
theorem Xb:∀a b c d:Fin 4,(a==b||a==c||a==d||b==c||b==d||c==d||[a.val,b.val,c.val,d.val].isPerm [0,1,2,3])=true:=by decide+kernel
theorem Yn (a b c d:Fin 4) (h:a≠b) (f:a≠c) (j:a≠d) (g:b≠c) (i:b≠d) (e:c≠d):[a.val,b.val,c.val,d.val].isPerm [0,1,2,3]=true:=by
 have:=Xb a b c d
 rw [beq_false_of_ne h,beq_false_of_ne f,beq_false_of_ne j,beq_false_of_ne g,beq_false_of_ne i,beq_false_of_ne e] at this
 exact this
theorem Hr {n:Nat} {a b:Fin n} (h:a.val≠b.val):a≠b:=fun e=>h (cngA Fin.val e)
theorem Iq {o:List Int} (h:DL o=true) (m:o.length≤4):(Hy o).Perm (range o.length):=by
 have f:∀{j:Nat},j<o.length→(o.getD j default).toNat<o.length:=fun k=>by have:=Gl h k;omega
 have g:∀{i j:Nat},i<j→j<o.length→(o.getD i default).toNat≠(o.getD j default).toNat:=fun l k e=>by
  have p:=Gl h (j:=_) (Nat.lt_trans l k)
  have n:=Gl h k
  exact P1 h l k (by omega)
 match o,m, @f, @g with
 |[],_,_,_=>exact List.Perm.refl _
 |[a],_,f,_=>exact List.isPerm_iff.1 (Yq ⟨_,f (j:=0) (by simp)⟩)
 |[a,b],_,f,g=>exact List.isPerm_iff.1 (Yp ⟨_,f (j:=0) (by simp)⟩ ⟨_,f (j:=1) (by simp)⟩ (Hr (g (i:=0) (j:=1) (by simp) (by simp))))
 |[a,b,c],_,f,g=>exact List.isPerm_iff.1 (Yo ⟨_,f (j:=0) (by simp)⟩ ⟨_,f (j:=1) (by simp)⟩ ⟨_,f (j:=2) (by simp)⟩ (Hr (g (i:=0) (j:=1) (by simp) (by simp))) (Hr (g (i:=0) (j:=2) (by simp) (by simp))) (Hr (g (i:=1) (j:=2) (by simp) (by simp))))
 |[a,b,c,d],_,f,g=>exact List.isPerm_iff.1 (Yn ⟨_,f (j:=0) (by simp)⟩ ⟨_,f (j:=1) (by simp)⟩ ⟨_,f (j:=2) (by simp)⟩ ⟨_,f (j:=3) (by simp)⟩ (Hr (g (i:=0) (j:=1) (by simp) (by simp))) (Hr (g (i:=0) (j:=2) (by simp) (by simp))) (Hr (g (i:=0) (j:=3) (by simp) (by simp))) (Hr (g (i:=1) (j:=2) (by simp) (by simp))) (Hr (g (i:=1) (j:=3) (by simp) (by simp))) (Hr (g (i:=2) (j:=3) (by simp) (by simp))))
 |_::_::_::_::_::_,m,_,_=>simp at m
def turn (s o:List Int):List Int:=o.map fun k=>s.getD k.toNat default
theorem BP (s o:List Int):(turn s o).length=o.length:=by simp [turn]
theorem GF {s o:List Int} {j:Nat} (h:j<o.length):(turn s o).getD j default=s.getD (o.getD j default).toNat default:=by simp [turn,h]
theorem Pz (s:List Int):(range s.length).map (fun k=>s.getD k default)=s:=by
 apply ext_getElem (by simp)
 intro i b a
 simp [a]
theorem Rn {s o:List Int} (h:DL o=true) (a:o.length=s.length) (b:s.length≤4):Shapes.prod (turn s o)=Shapes.prod s:=by
 have p:=(Iq h (by omega)).map fun k=>s.getD k default
 rw [a,Pz] at p
 have e:turn s o=(Hy o).map fun k=>s.getD k default:=by simp [turn,Hy]
 rw [e]
 exact Ru p
theorem GE {s o:List Int} (hs:Shapes.ok s=true) (h:DL o=true) (b:o.length=s.length):Shapes.ok (turn s o)=true:=by
 have S:=(Shapes.ok_iff s).1 hs
 rw [Shapes.ok_iff,BP,Rn h b S.1.2,b]
 refine ⟨S.1, ?_,S.2.2⟩
 intro y f
 obtain ⟨k,c,rfl⟩:=List.mem_map.1 f
 obtain ⟨j,a,e⟩:=getElem_of_mem c
 have g:=Gl h a
 rw [show o.getD j default=k by simp [a,e]] at g
 have d:k.toNat<s.length:=by omega
 refine S.2.1 _ ?_
 simp [d]
def WA (s o at' :List Int) (j:Nat):Int:=at'.getD j default*Shapes.prod (s.drop ((o.getD j default).toNat+1))
def NN (s o at' :List Int) (n:Nat):Int:=FU (WA s o at') n
theorem Nb {s o a:List Int} (hs:Shapes.ok s=true) {j:Nat} (h:0≤a.getD j default):0≤WA s o a j:=Int.mul_nonneg h (by have:=(Shapes.ok_prod hs ((o.getD j default).toNat+1)).1;omega)
theorem Sn {s o a:List Int} (hs:Shapes.ok s=true) (h:DL o=true) (g:o.length=s.length) (i:Shapes.inn (turn s o) a=true):0≤NN s o a o.length∧NN s o a o.length<Shapes.prod s:=by
 have S:=(Shapes.ok_iff s).1 hs
 have c:∀j,j<o.length→0≤a.getD j default∧a.getD j default<s.getD (o.getD j default).toNat default:=fun j b=>by
  have:=Shapes.inn_at i (k:=j) (by rw [BP];exact b)
  rwa [GF b] at this
 refine ⟨LP fun j b=>Nb hs (c j b).1, ?_⟩
 have p:=Iq h (by omega)
 have e:FU (fun j=>(fun k=>(s.getD k default - 1)*Shapes.prod (s.drop (k+1))) ((Hy o).getD j default)) (Hy o).length=Shapes.prod s - 1:=by
  refine (O0 (fun k=>(s.getD k default - 1)*Shapes.prod (s.drop (k+1))) (Hy o)).trans ?_
  rw [Ku p,HI,g,MA (AX _),drop_length];rfl
 have d:(Hy o).length=o.length:=by simp [Hy]
 rw [d] at e
 have:NN s o a o.length≤Shapes.prod s - 1:=by
  rw [← e]
  refine QW fun j b=> ?_
  have f:(Hy o).getD j default=(o.getD j default).toNat:=by simp [Hy,b]
  dsimp only
  rw [f]
  unfold WA
  exact Int.mul_le_mul_of_nonneg_right (by have:=c j b;omega) (by have:=(Shapes.ok_prod hs ((o.getD j default).toNat+1)).1;omega)
 omega
theorem W9 {s o a:List Int} (hs:Shapes.ok s=true) (h:DL o=true) (e:o.length=s.length) (d:Shapes.inn (turn s o) a=true) {n:Nat} (i:n≤o.length):0≤NN s o a n∧NN s o a n≤4096:=by
 have S:=(Shapes.ok_iff s).1 hs
 have b:∀j,j<o.length→0≤a.getD j default:=fun j c=>(Shapes.inn_at d (k:=j) (by rw [BP];exact c)).1
 have l:=R5 (f:=WA s o a) i fun j c=>Nb hs (b j c)
 have g:=Sn hs h e d
 unfold NN at g ⊢
 exact ⟨LP fun j c=>Nb hs (b j (by omega)),by have:=S.2.2;omega⟩
def UI (s:List Int) (l:List (BitVec 32)) (o:List Int):List (BitVec 32):=(range (Shapes.size (turn s o)).toNat).map fun i:Nat=>l.getD (NN s o (Shapes.place (turn s o) (i:Int)) o.length).toNat default
def BK (s:List Int) (k:Nat):List Int:=if s.length=1 then [1] else s.take k++s.drop (k+1)
def RS (s:List Int) (l:List (BitVec 32)) (k i j:Nat):BitVec 32:=l.getD (i / (Shapes.prod (s.drop (k+1))).toNat*(Shapes.prod (s.drop (k+1))).toNat*(s.getD k default).toNat+i % (Shapes.prod (s.drop (k+1))).toNat+j*(Shapes.prod (s.drop (k+1))).toNat) default
def QC (s:List Int) (l:List (BitVec 32)) (k:Nat):List (BitVec 32):=(range (Shapes.size (BK s k)).toNat).map fun i=>sm (s.getD k default).toNat (RS s l k i)
theorem Jh {s:List Int} {k:Nat} (h:k<s.length):Shapes.prod s=Shapes.prod (s.take k)*(s.getD k default*Shapes.prod (s.drop (k+1))):=by
 rw [← Shapes.prod_drop h,← Shapes.prod_append,take_append_drop]
theorem HB {s:List Int} {k:Nat} (h:k<s.length):Shapes.prod (BK s k)=Shapes.prod (s.take k)*Shapes.prod (s.drop (k+1)):=by
 unfold BK
 split
 ·rename_i a
  obtain rfl:k=0:=by omega
  rw [take_zero,drop_of_length_le (by omega)];rfl
 ·exact Shapes.prod_append _ _
theorem Gj {s:List Int} {k:Nat} (hs:Shapes.ok s=true) (h:k<s.length):Shapes.ok (BK s k)=true:=by
 have S:=(Shapes.ok_iff s).1 hs
 rw [Shapes.ok_iff]
 have g:=Shapes.prod_pos (s:=s.take k) fun x a=>S.2.1 x (mem_of_mem_take a)
 have f:=(Shapes.ok_prod hs (k+1)).1
 have d:=Iz S.2.1 h
 refine ⟨?_, ?_, ?_⟩
 ·unfold BK
  split
  ·simp
  ·rw [length_append,length_take,length_drop];omega
 ·unfold BK
  split
  ·intro x a;simp at a;subst a;omega
  ·intro x a
   rcases List.mem_append.1 a with a|a
   ·exact S.2.1 x (mem_of_mem_take a)
   ·exact S.2.1 x (mem_of_mem_drop a)
 ·rw [HB h]
  have e:=Jh h
  have c:1*Shapes.prod (s.drop (k+1))≤s.getD k default*Shapes.prod (s.drop (k+1)):=Int.mul_le_mul_of_nonneg_right d.1 (by omega)
  have b:Shapes.prod (s.take k)*(1*Shapes.prod (s.drop (k+1)))≤Shapes.prod (s.take k)*(s.getD k default*Shapes.prod (s.drop (k+1))):=Int.mul_le_mul_of_nonneg_left c (by omega)
  rw [Int.one_mul] at b
  omega
theorem Wi {P a n i j:Nat} (g:i<P*a) (c:j<n):i / a*a*n+i % a+j*a<P*(n*a):=by
 obtain ⟨f,d, -⟩:=Wx g
 have b:=IU (IU f c) d
 have e:(i / a*n+j)*a+i % a=i / a*a*n+i % a+j*a:=by
  rw [Nat.add_mul,Nat.mul_assoc (i / a) n a,Nat.mul_comm n a,← Nat.mul_assoc];omega
 rw [e] at b
 rw [← Nat.mul_assoc P n a]
 exact b
theorem Rq {l:List (BitVec 32)} {i:Nat} {a:BitVec 32} (h:i<l.length) (e:l.getD i default=a):l.set i a=l:=by
 have:l[i]=a:=by rw [← e];simp [h]
 rw [← this]
 exact set_getElem_self h
theorem JM {l:List (BitVec 32)} {i:Nat} {a:BitVec 32} (h:i<l.length):(l.set i a).getD i default=a:=by simp [h]
end Go.Dd

namespace Go.Dd
open Go Go.RowKit
open List hiding prod prod_append
namespace Shapes
theorem MD {a j:Int}:∀{s:List Int},good s→∀b:Int,place s (b*a*prod s+j)=place s (b*0+j)
 |[],_,_=>rfl
 |x::s,g,b=>by
  have e:=prod_pos (good_cons.1 g).2
  have d:=(good_cons.1 g).1
  have e1:b*a*prod (x::s)+j=b*a*x*prod s+j:=by simp only [prod];rw [Int.mul_assoc (b*a)]
  have c:=MD (a:=a*x) (j:=j) (good_cons.1 g).2 b
  rw [← Int.mul_assoc] at c
  simp only [place,e1,c]
  congr 1
  rw [show b*a*x*prod s+j=j+prod s*(b*a*x) by rw [Int.mul_comm (prod s)];omega,Int.add_mul_ediv_left _ _ (by omega),show j / prod s+b*a*x=j / prod s+x*(b*a) by rw [Int.mul_comm x],Int.add_mul_emod_self_left,Int.mul_zero,Int.zero_add]
theorem P0 {a j:Int} {s:List Int} (g:good s):place s (a*prod s+j)=place s j:=by
 have:=MD (a:=a) (j:=j) g 1
 rwa [Int.one_mul,Int.mul_zero,Int.zero_add] at this
theorem place_idx:∀{s p:List Int},good s→inn s p=true→place s (idx s p)=p
 |[],[],_,_=>rfl
 |x::s,a::p,g,h=>by
  simp only [inn,Bool.and_eq_true,decide_eq_true_eq] at h
  have i:=idx_lt (good_cons.1 g).2 h.2
  simp only [idx,place]
  rw [P0 (good_cons.1 g).2,place_idx (good_cons.1 g).2 h.2]
  congr 1
  rw [show a*prod s+idx s p=idx s p+prod s*a by rw [Int.mul_comm];omega,Int.add_mul_ediv_left _ _ (by omega),Int.ediv_eq_zero_of_lt i.1 i.2,Int.zero_add,Int.emod_eq_of_lt h.1.1 h.1.2]
 |[],_::_,_,h=>by simp [inn] at h
 |_::_,[],_,h=>by simp [inn] at h
theorem inn_append {t q:List Int}:∀{s p:List Int},p.length=s.length→inn (s++t) (p++q)=(inn s p && inn t q)
 |[],[],_=>rfl
 |x::s,a::p,h=>by
  simp only [cons_append,inn]
  rw [inn_append (s:=s) (p:=p) (by simpa using h)]
  simp only [Bool.and_assoc]
 |[],_::_,h=>by simp at h
 |_::_,[],h=>by simp at h
theorem idx_append {t q:List Int}:∀{s p:List Int},p.length=s.length→idx (s++t) (p++q)=idx s p*prod t+idx t q
 |[],[],_=>by simp [idx]
 |x::s,a::p,h=>by
  simp only [cons_append,idx]
  rw [idx_append (s:=s) (p:=p) (by simpa using h),prod_append,Int.add_mul,← Int.mul_assoc,Int.add_assoc]
 |[],_::_,h=>by simp at h
 |_::_,[],h=>by simp at h
theorem inn_iff:∀{s p:List Int},inn s p=true↔p.length=s.length∧∀k,k<s.length→0≤p.getD k default∧p.getD k default<s.getD k default
 |[],[]=>by simp [inn]
 |[],_::_=>by simp [inn]
 |_::_,[]=>by simp [inn]
 |x::s,a::p=>by
  simp only [inn,Bool.and_eq_true,decide_eq_true_eq,inn_iff (s:=s) (p:=p),length_cons]
  constructor
  ·rintro ⟨c,b,d⟩
   refine ⟨by omega,fun k e=> ?_⟩
   match k with
   |0=>simpa using c
   |k+1=>simpa using d k (by omega)
  ·rintro ⟨c,b⟩
   exact ⟨by simpa using b 0 (by omega),by omega,fun k e=>by simpa using b (k+1) (by omega)⟩
theorem O7 {s q:List Int} (h:q.length=s.length):∀n,n≤s.length→idx s q=FU (fun k=>q.getD k default*prod (s.drop (k+1))) n+idx (s.drop n) (q.drop n)
 |0,_=>by simp [FU]
 |n+1,hn=>by
  rw [O7 h n (by omega),idx_drop (by omega) h,FU,Int.add_assoc]
end Shapes
open Shapes
def pl (s:List Int) (l:List (BitVec 32)) (p:List Int):BitVec 32:=l.getD (idx s p).toNat default
def mk (s:List Int) (f:List Int→BitVec 32):List (BitVec 32):=(range (prod s).toNat).map fun i:Nat=>f (place s (i:Int))
theorem I9 (s:List Int) (f:List Int→BitVec 32):(mk s f).length=(prod s).toNat:=by simp [mk]
theorem Wm {s p:List Int} {f:List Int→BitVec 32} (g:good s) (h:inn s p=true):pl s (mk s f) p=f p:=by
 have i:=idx_lt g h
 have a:(idx s p).toNat<(prod s).toNat:=by omega
 have e:((idx s p).toNat:Int)=idx s p:=Int.toNat_of_nonneg i.1
 unfold pl mk
 rw [getD_eq_getElem?_getD,getElem?_map,getElem?_range a]
 simp only [Option.map_some,Option.getD_some]
 rw [e,place_idx g h]
theorem Tj {s:List Int} {l m:List (BitVec 32)} (g:good s) (f:l.length=(prod s).toNat) (d:m.length=(prod s).toNat) (h:∀p,inn s p=true→pl s l p=pl s m p):l=m:=by
 refine ext_getElem (by omega) fun i b a=> ?_
 have c:=prod_pos g
 have e:idx s (place s (i:Int))=(i:Int):=by rw [idx_place (by omega) g,Int.emod_eq_of_lt (by omega) (by omega)]
 have:=h (place s (i:Int)) (place_in (by omega) g)
 unfold pl at this
 rw [e,Int.toNat_natCast] at this
 simpa [b,a] using this
theorem Oa {s o q:List Int} (c:DL o=true) (f:o.length=s.length) (g:s.length≤4) (d:q.length=s.length):NN s o (turn q o) o.length=idx s q:=by
 have e:NN s o (turn q o) o.length=FU (fun j=>(fun k=>q.getD k default*prod (s.drop (k+1))) ((Hy o).getD j default)) (Hy o).length:=by
  rw [show (Hy o).length=o.length by simp [Hy]]
  refine LQ fun j b=> ?_
  have a:(Hy o).getD j default=(o.getD j default).toNat:=by simp [Hy,b]
  dsimp only
  rw [a]
  unfold WA
  rw [GF b]
 rw [e]
 refine (O0 (fun k=>q.getD k default*prod (s.drop (k+1))) (Hy o)).trans ?_
 rw [Ku (Iq c (by omega)),HI,f,O7 d s.length (AX _),drop_length]
 simp [idx]
theorem NZ {s o q:List Int} (b:DL o=true) (d:o.length=s.length) (c:inn s q=true):inn (turn s o) (turn q o)=true:=by
 have h:=inn_iff.1 c
 refine inn_iff.2 ⟨by rw [BP,BP],fun k a=> ?_⟩
 rw [BP] at a
 have:=Gl b a
 rw [GF a,GF a]
 exact h.2 _ (by omega)
theorem So {s:List Int} {l:List (BitVec 32)} {o:List Int} (hs:ok s=true) (b:DL o=true) (a:o.length=s.length):UI s l o=mk (turn s o) fun p=>l.getD (NN s o p o.length).toNat default:=by
 unfold UI mk
 rw [size_ok (GE hs b a)]
theorem XZ {s o q:List Int} {l:List (BitVec 32)} (hs:ok s=true) (b:DL o=true) (a:o.length=s.length) (c:inn s q=true):pl (turn s o) (UI s l o) (turn q o)=pl s l q:=by
 have S:=(ok_iff s).1 hs
 have T:=(ok_iff _).1 (GE hs b a)
 rw [So hs b a,Wm T.2.1 (NZ b a c),Oa b a S.1.2 (inn_length c)]
 rfl
def wo (s:List Int) (k:Nat):List Int:=s.take k++s.drop (k+1)
def ins (k:Nat) (j:Int) (q:List Int):List Int:=q.take k++j::q.drop k
theorem JZ {s:List Int} {k:Nat} (h:k<s.length):(wo s k).length=s.length - 1:=by
 unfold wo;rw [length_append,length_take,length_drop];omega
theorem KL {s:List Int} {k:Nat} (h:good s):good (wo s k):=good_append.2 ⟨fun x a=>h x (mem_of_mem_take a),good_drop h _⟩
theorem MX {s:List Int} {k:Nat} (h:k<s.length):prod (wo s k)=prod (BK s k):=by rw [HB h];exact prod_append _ _
theorem Jb {s:List Int} {k:Nat} (h:s.length≠1):BK s k=wo s k:=by unfold BK;rw [if_neg h];rfl
theorem GV {s:List Int} {k:Nat} (h:k<s.length):s=s.take k++s.getD k default::s.drop (k+1):=by
 have e:s.getD k default=s[k]:=by simp [h]
 rw [e,← drop_eq_getElem_cons h,take_append_drop]
theorem Sc {s r:List Int} {k:Nat} (c:k<s.length) (h:inn (wo s k) r=true):r.length=s.length - 1∧(r.take k).length=(s.take k).length∧inn (s.take k) (r.take k)=true∧inn (s.drop (k+1)) (r.drop k)=true:=by
 have a:=inn_length h
 rw [JZ c] at a
 have b:(r.take k).length=(s.take k).length:=by rw [length_take,length_take];omega
 have e:inn (wo s k) r=inn (s.take k++s.drop (k+1)) (r.take k++r.drop k):=by rw [take_append_drop];rfl
 rw [e,inn_append b,Bool.and_eq_true] at h
 exact ⟨a,b,h.1,h.2⟩
theorem SA {X a n C j:Nat} (b:C<a):(X*a+C) / a*a*n+(X*a+C) % a+j*a=X*(n*a)+j*a+C:=by
 have e1:(X*a+C) / a=X:=by rw [Nat.mul_comm,Nat.mul_add_div (by omega),Nat.div_eq_of_lt b];omega
 have e2:(X*a+C) % a=C:=by rw [Nat.mul_comm,Nat.mul_add_mod,Nat.mod_eq_of_lt b]
 rw [e1,e2,Nat.mul_assoc,Nat.mul_comm a n];omega
theorem Pp {s:List Int} {l:List (BitVec 32)} {k:Nat} (hs:ok s=true) (a:k<s.length):(QC s l k).length=(prod (wo s k)).toNat:=by
 unfold QC
 rw [length_map,length_range,size_ok (Gj hs a),MX a]
theorem Ye {s r:List Int} {l:List (BitVec 32)} {k:Nat} (hs:ok s=true) (b:k<s.length) (p:inn (wo s k) r=true):
  pl (wo s k) (QC s l k) r=sm (s.getD k default).toNat fun j=>pl s l (ins k (j:Int) r):=by
 have S:=(ok_iff s).1 hs
 obtain ⟨D,o,u,w⟩:=Sc b p
 have A:=idx_lt (KL (k:=k) S.2.1) p
 have c:=idx_lt (good_drop S.2.1 (k+1)) w
 have x:=idx_lt (fun y v=>S.2.1 y (mem_of_mem_take v)) u
 have d:=Iz S.2.1 b
 have e1:idx (wo s k) r=idx (s.take k) (r.take k)*prod (s.drop (k+1))+idx (s.drop (k+1)) (r.drop k):=by
  rw [← idx_append o,take_append_drop];rfl
 have e2:∀j:Int,idx s (ins k j r)=idx (s.take k) (r.take k)*(s.getD k default*prod (s.drop (k+1)))+(j*prod (s.drop (k+1))+idx (s.drop (k+1)) (r.drop k)):=fun j=>by
  have e:idx s (ins k j r)=idx (s.take k++s.getD k default::s.drop (k+1)) (r.take k++j::r.drop k):=by rw [← GV b];rfl
  rw [e,idx_append o];rfl
 obtain ⟨i,t⟩:∃i,i=(idx (wo s k) r).toNat:=⟨_,rfl⟩
 have g:i<(size (BK s k)).toNat:=by rw [size_ok (Gj hs b),← MX b];omega
 unfold pl
 rw [← t]
 unfold QC
 rw [getD_eq_getElem?_getD,getElem?_map,getElem?_range g]
 simp only [Option.map_some,Option.getD_some]
 refine Gy fun j B=> ?_
 unfold RS
 congr 1
 obtain ⟨C,h⟩:=Int.eq_ofNat_of_zero_le c.1
 obtain ⟨X,q⟩:=Int.eq_ofNat_of_zero_le x.1
 obtain ⟨a,m⟩:=Int.eq_ofNat_of_zero_le (show 0≤prod (s.drop (k+1)) by omega)
 obtain ⟨n,z⟩:=Int.eq_ofNat_of_zero_le (show 0≤s.getD k default by omega)
 have f:i=X*a+C:=by
  rw [t,e1,q,m,h]
  exact (cngA Int.toNat (show (X:Int)*a+C=((X*a+C:Nat):Int) by push_cast;rfl)).trans (Int.toNat_natCast _)
 rw [e2,q,z,m,h,show (X:Int)*((n:Int)*a)+((j:Int)*a+C)=((X*(n*a)+j*a+C:Nat):Int) by push_cast;rw [Int.add_assoc],Int.toNat_natCast,Int.toNat_natCast,Int.toNat_natCast,f]
 exact SA (by omega)
theorem Lx (a:Nat) (f:Nat→BitVec 32):∀n:Nat,sm (n*a) f=sm n fun j=>sm a fun i=>f (j*a+i)
 |0=>by rw [Nat.zero_mul];rfl
 |n+1=>by rw [Nat.succ_mul,SN,Lx a f n];rfl
def J0 (l:List (BitVec 32)):BitVec 32:=sm l.length fun i=>l.getD i default
end Go.Dd

namespace Go.Dd
open Go Go.RowKit List
def GW (xs:List Value) (o:Nat) (ds:List Value):List Value:=xs.take o++ds++xs.drop (o+ds.length)
theorem I4 {xs ds:List Value} {o:Nat} (h:o+ds.length≤xs.length):(GW xs o ds).length=xs.length:=by
 simp only [GW,length_append,length_take,length_drop];omega
theorem HF {xs ds:List Value} {o i:Nat} (h:o+ds.length≤xs.length):(GW xs o ds)[i]? =if i<o then xs[i]? else if i<o+ds.length then ds[i - o]? else xs[i]? :=by
 have a:(xs.take o).length=o:=by rw [length_take];omega
 unfold GW
 by_cases hi:i<o
 ·rw [if_pos hi,append_assoc,getElem?_append_left (by omega),getElem?_take,if_pos hi]
 ·rw [if_neg hi]
  by_cases hj:i<o+ds.length
  ·rw [if_pos hj,getElem?_append_left (by rw [length_append];omega),getElem?_append_right (by omega),a]
  ·rw [if_neg hj,getElem?_append_right (by rw [length_append];omega),length_append,a,getElem?_drop]
   congr 1;omega
theorem QD {xs:List Value} {o:Nat} {u:Value} (h:o<xs.length):GW xs o [u]=xs.set o u:=by
 apply ext_getElem?
 intro i
 rw [HF (by simp;omega),getElem?_set]
 by_cases h1:i<o
 ·rw [if_pos h1,if_neg (by omega)]
 ·rw [if_neg h1]
  by_cases h2:i=o
  ·subst h2;simp [h]
  ·rw [if_neg (by simp;omega),if_neg (fun e=>h2 e.symm)]
theorem Lu {xs ds:List Value} {o m:Nat} (h:o+ds.length≤m) (a:m≤xs.length):(GW xs o ds).take m=GW (xs.take m) o ds:=by
 apply ext_getElem?
 intro i
 rw [getElem?_take,HF (by omega),HF (by rw [length_take];omega),getElem?_take]
 by_cases h1:i<m
 ·rw [if_pos h1,if_pos h1]
 ·rw [if_neg h1,if_neg h1,if_neg (by omega),if_neg (by omega)]
def Hg {α:Type} (f:α→List Value) (l:List α):List Value:=(l.map f).flatten
section
variable {α : Type} {f : α → List Value} {k : Nat}
theorem H0 {a:α} {l:List α}:Hg f (a::l)=f a++Hg f l:=rfl
theorem Lc:∀{l:List α},(∀a ∈ l,(f a).length=k)→(Hg f l).length=l.length*k
 |[],_=>by simp [Hg]
 |a::l,h=>by
  rw [H0,length_append,h a (by simp),Lc (fun b c=>h b (mem_cons_of_mem _ c)),length_cons,Nat.succ_mul];omega
theorem IE:∀{l:List α} {j i:Nat},(∀a ∈ l,(f a).length=k)→(c:j<l.length)→i<k→(Hg f l)[j*k+i]? =(f l[j])[i]?
 |a::l,0,i,h,_,hi=>by
  rw [H0,Nat.zero_mul,Nat.zero_add,getElem?_append_left (by rw [h a (by simp)];exact hi)];rfl
 |a::l,j+1,i,h,c,hi=>by
  rw [H0,getElem?_append_right (by rw [h a (by simp),Nat.succ_mul];omega),h a (by simp),show (j+1)*k+i - k=j*k+i by rw [Nat.succ_mul];omega,IE (fun b d=>h b (mem_cons_of_mem _ d)) (by simpa using c) hi];rfl
theorem OG:∀{l:List α} {j:Nat},(∀a ∈ l,(f a).length=k)→(c:j<l.length)→((Hg f l).drop (j*k)).take k=f l[j]
 |a::l,0,h,_=>by
  rw [H0,Nat.zero_mul,drop_zero,take_append_of_le_length (by rw [h a (by simp)];omega),take_of_length_le (by rw [h a (by simp)];omega)];rfl
 |a::l,j+1,h,c=>by
  have e:(f a).length=k:=h a (by simp)
  rw [H0,drop_append,e,drop_of_length_le (by rw [e,Nat.succ_mul];omega),nil_append,show (j+1)*k - k=j*k by rw [Nat.succ_mul];omega,OG (fun b d=>h b (mem_cons_of_mem _ d)) (by simpa using c)];rfl
theorem X2 {l:List α} {j i:Nat} (a:j<l.length) (b:i<k):j*k+i<l.length*k:=by
 have:=Nat.mul_le_mul_right k (show j+1≤l.length from a)
 rw [Nat.succ_mul] at this;omega
theorem X3 {l:List α} {j i:Nat} (a:j<l.length) (b:i≤k):j*k+i≤l.length*k:=by
 have:=Nat.mul_le_mul_right k (show j+1≤l.length from a)
 rw [Nat.succ_mul] at this;omega
theorem VB {l:List α} {j i:Nat} {ds:List Value} {b:α} (h:∀a ∈ l,(f a).length=k) (hj:j<l.length) (hi:i+ds.length≤k) (hb:GW (f l[j]) i ds=f b):GW (Hg f l) (j*k+i) ds=Hg f (l.set j b):=by
  have hl:=Lc h
  have hlj:(f l[j]).length=k:=h _ (getElem_mem hj)
  have hbk:(f b).length=k:=by rw [← hb,I4 (by omega),hlj]
  have h' :∀a ∈ l.set j b,(f a).length=k:=fun a ha=>by
    rcases mem_or_eq_of_mem_set ha with h1|h1
    · exact h a h1
    · subst h1;exact hbk
  have hle:=X3 (k:=k) hj hi
  apply ext_getElem?
  intro m
  rw [HF (by rw [hl];omega)]
  by_cases hm:m<l.length*k
  · have hk : 0 < k := by rcases Nat.eq_zero_or_pos k with h0 | h0; · rw [h0] at hm; simp at hm
                          · exact h0
    obtain ⟨q,hq⟩:∃q,q=m / k:=⟨_,rfl⟩
    obtain ⟨r,hr⟩:∃r,r=m % k:=⟨_,rfl⟩
    have hmq:m=q*k+r:=by rw [hq,hr,Nat.mul_comm];exact (Nat.div_add_mod m k).symm
    have hrk:r<k:=by rw [hr];exact Nat.mod_lt m hk
    have hql:q<l.length:=by rw [hq];exact Nat.div_lt_of_lt_mul (by rw [Nat.mul_comm];exact hm)
    have hx:(Hg f l)[m]? =(f l[q])[r]? :=by rw [hmq];exact IE h hql hrk
    have hy:(Hg f (l.set j b))[m]? =(f ((l.set j b)[q]'(by simpa using hql)))[r]? :=by rw [hmq];exact IE h' (by simpa using hql) hrk
    rw [hx,hy]
    by_cases hjq:q=j
    · subst hjq
      rw [getElem_set_self,← hb,HF (by omega)]
      by_cases h1:r<i
      · rw [if_pos (by omega),if_pos h1]
      · rw [if_neg (by omega),if_neg h1]
        by_cases h2:r<i+ds.length
        · rw [if_pos (by omega),if_pos h2];congr 1;omega
        · rw [if_neg (by omega),if_neg h2]
    · rw [getElem_set_ne (fun e=>hjq e.symm)]
      rcases Nat.lt_or_gt_of_ne hjq with h1|h1
      · have:=Nat.mul_le_mul_right k (show q+1≤j from h1)
        rw [Nat.succ_mul] at this
        rw [if_pos (by omega)]
      · have:=Nat.mul_le_mul_right k (show j+1≤q from h1)
        rw [Nat.succ_mul] at this
        rw [if_neg (by omega),if_neg (by omega)]
  · rw [if_neg (by omega),if_neg (by omega),getElem?_eq_none (by omega),getElem?_eq_none (by rw [Lc h',length_set];omega)]
end
theorem LY:∀(vs:List Value) (k off:Nat) (a:Array Value),off+k+vs.length≤a.size→(vs.zipIdx k).foldl (fun cs x=>cs.setIfInBounds (off+x.2) x.1) a=(GW a.toList (off+k) vs).toArray
 |[],k,off,a,_=>by simp [GW]
 |v::vs,k,off,a,h=>by
  have b:off+k<a.size:=by simp at h;omega
  rw [zipIdx_cons,foldl_cons,LY vs (k+1) off _ (by simp at h ⊢;omega)]
  congr 1
  simp only [Array.toList_setIfInBounds]
  apply ext_getElem?
  intro i
  rw [HF (by simp at h ⊢;omega),HF (by simp at h ⊢;omega),getElem?_set]
  simp only [Array.length_toList,length_cons]
  by_cases c1:i<off+k
  ·rw [if_pos (by omega),if_pos c1,if_neg (by omega)]
  ·rw [if_neg c1]
   by_cases c2:i=off+k
   ·subst c2
    rw [if_pos (by omega),if_pos rfl,if_pos b,if_pos (by omega),Nat.sub_self,getElem?_cons_zero]
   ·rw [if_neg (show ¬i<off+(k+1) by omega)]
    by_cases c3:i<off+k+(vs.length+1)
    ·rw [if_pos (show i<off+(k+1)+vs.length by omega),if_pos c3,show i - (off+k)=(i - (off+(k+1)))+1 by omega,getElem?_cons_succ]
    ·rw [if_neg (show ¬i<off+(k+1)+vs.length by omega),if_neg (show ¬off+k=i by omega),if_neg c3]
theorem TT {place:Nat→Option (Nat×Nat)} {a:Array Value} {i off:Nat} {v:Value} {ds:List Value} (b:v.cells=ds.toArray) (d:place i=some (off,ds.length)) (h:off+ds.length≤a.size):Instr.fill place a [(i,v)]=some (GW a.toList off ds).toArray:=by
 have g:=LY ds 0 off a (by omega)
 have e:v.cells.zipIdx.foldl (fun cs (c,j)=>cs.setIfInBounds (off+j) c) a=(GW a.toList off ds).toArray:=by
  rw [b]
  have:ds.toArray.zipIdx=(ds.zipIdx).toArray:=by simp
  rw [this,foldl_toArray]
  simpa using g
 unfold Instr.fill
 simp only [d,b,size_toArray]
 rw [if_neg (by simp;omega)]
 rw [b] at e
 rw [e]
 rfl
theorem UQ {xs ds:List Value} (h:xs.length=ds.length):GW xs 0 ds=ds:=by
 unfold GW
 rw [take_zero,nil_append,drop_of_length_le (by omega),append_nil]
section
variable {P : Program} {n : Nat} {E : CS} {w : World} {ty t e : TypeId} {x : Operand} {sz : Nat}
theorem Dw {cs i:List Value} {a:Nat} (g:GM P t e sz) (j:HP P e i a) (l:ev E x=some (.agg cs.toArray)) (c:cs.length=sz) (d:0<sz) (h:sz≤16777216):
  Xw P n E (.buildSlice t 1 #[(0,x)]) ty w (fun v b=>b.ownsRow w.heap.size e sz v 1 cs∧v= .slice (some ⟨w.heap.size,0,none⟩) 1 1∧Below w.heap.size w b∧b.heap.size=w.heap.size+1):=by
 subst c
 refine Em (ps:=[(0,x)]) (vs:=[(0, .agg cs.toArray)]) g j (by simp [pev,l]) d Nat.zero_lt_one (by omega) ?_ (by omega)
 rw [TT (off:=0) (ds:=cs) rfl (by simp) (by simp)]
 rw [UQ (by simp)]
end
theorem FO {w:World} {base:Nat} {T:TypeId} {sz n g:Nat} {v:Value} {xs:List Value} (h:w.ownsRow base T sz v n xs) (l:v.ownBlock=some g):
  ∃cap a,v= .slice (some ⟨g,0,none⟩) n cap∧AO w g T a∧a.take (n*sz)=xs∧n≤cap∧cap≤maxLen∧a.length=cap*sz∧base≤g:=by
 rcases h.2 with ⟨rfl,_⟩|⟨o,cap,a,rfl,m,i,d,c,j,b⟩
 ·cases l
 ·obtain rfl:o=g:=by simpa [Value.ownBlock] using l
  exact ⟨cap,a.toList,rfl,by unfold AO;simpa using i,b,d,c,by simpa using j,m⟩
theorem J9 {w:World} {base:Nat} {T:TypeId} {sz n g cap:Nat} {a:List Value} (h:AO w g T a) (b:a.length=cap*sz) (c:n≤cap) (i:cap≤maxLen) (d:base≤g):w.ownsRow base T sz (.slice (some ⟨g,0,none⟩) n cap) n (a.take (n*sz)):=
 ⟨by rw [length_take,b];exact Nat.min_eq_left (Nat.mul_le_mul_right _ c), .inr ⟨g,cap,a.toArray,rfl,d,h,c,i,by simpa using b,by simp⟩⟩
section
variable {P : Program} {n : Nat} {E : CS} {w : World} {e ty t : TypeId} {x y z : Operand} {u v : Value}
theorem F4 {k:IntKind} {m:Int} {base sz c g:Nat} {T:TypeId} {xs:List Value} (l:GM P t e sz) (r:ev E x=some v) (i:ev E y=some (.int k m)) (h:w.ownsRow base T sz v c xs) (o:v.ownBlock=some g) (j:Nat) (b:m=(j:Int)) (d:j<c):
  Ex P n E (.indexAddr t x y) ty w (.pointer (some ⟨g,j*sz,none⟩)):=by
 obtain ⟨cap,a,rfl, -⟩:=FO h o
 refine (Ci l r i (AI h) j b d).as ?_
 simp [CI,add_lit]
theorem Ex.ldO {base sz c g o:Nat} {T:TypeId} {xs:List Value} (d:(isAgg e).run P w= .ok false w) (m:ev E x=some (.pointer (some ⟨g,o,none⟩))) (h:w.ownsRow base T sz v c xs) (l:v.ownBlock=some g) (a:xs[o]? =some u):Ex P n E (.load e x) ty w u:=by
 obtain ⟨cap,i,rfl,j,b, -⟩:=FO h l
 refine Ah d m j ?_
 rw [← b,getElem?_take] at a
 split at a
 ·exact a
 ·cases a
theorem Xu.stAt {b o k:Nat} {T:TypeId} {cs ds:List Value} (hs:(P.info? e).map (·.size)=some k) (g:ds.length=k) (C:ev E x=some (.pointer (some ⟨b,o,none⟩))) (B:ev E y=some (.agg ds.toArray)) (d:ds.all (·.oneCell')=true) (h:AO w b T cs) (A:o+ds.length≤cs.length):
  Xu P n E (.store e x y) ty w (fun j=>AO j b T (GW cs o ds)∧w.grownBy j (some b)∧j.heap.size=w.heap.size):=fun a r=>by
 subst g
 have c:=run_storeCells_at P b o T ds 0 cs.toArray w h (by simpa using A) (fun v l=>List.all_eq_true.1 d v l)
 simp only [Nat.add_zero] at c
 refine ⟨w.setRow b (GW cs o ds).toArray,fun _ _ _ _=> ?_,setRow_heap w b _ _ _ _ h,⟨rfl,rfl,rfl,by simp [World.setRow],fun k _ g=>setRow_other w b k _ (fun e=>g (by simp [e]))⟩,by simp [World.setRow]⟩
 cases hq:P.info? e with
 |none=>simp [hq] at hs
 |some i=>
  have m:ds.length=i.size:=by simp [hq] at hs;omega
  have l:(storeVar e ⟨b,o,none⟩ (.agg ds.toArray)).run P w= .ok () (w.setRow b (GW cs o ds).toArray):=by
   simp [storeVar,sizeOf,typeInfo,hq,Value.cells,m,c,GW]
  simp [execOp,r.ev C,r.ev B,Instr.storeAt,Instr.sureAddr,l]
theorem Xu.stAO {base sz c g o k:Nat} {T:TypeId} {xs ds:List Value} (hs:(P.info? e).map (·.size)=some k) (F:ds.length=k) (L:ev E x=some (.pointer (some ⟨g,o,none⟩))) (K:ev E y=some (.agg ds.toArray)) (d:ds.all (·.oneCell')=true) (h:w.ownsRow base T sz v c xs) (D:v.ownBlock=some g) (Q:o+ds.length≤xs.length):
  Xu P n E (.store e x y) ty w (fun b=>b.ownsRow base T sz v c (GW xs o ds)∧w.grownBy b (some g)∧b.heap.size=w.heap.size):=fun a M=>by
 have A:=h.1
 obtain ⟨cap,j,rfl,C,i,m,B,r,G⟩:=FO h D
 have l:c*sz≤j.length:=by rw [r];exact Nat.mul_le_mul_right _ m
 obtain ⟨b,H,N,I,J⟩:=Xu.stAt (ty:=ty) hs F L K d C (by omega) a M
 refine ⟨b,H, ?_,I,J⟩
 have:=J9 (base:=base) (sz:=sz) (n:=c) (cap:=cap) N (by rw [I4 (by omega)];exact r) m B G
 rwa [Lu (by omega) l,i] at this
theorem Xu.stO1 {base sz c g o:Nat} {T:TypeId} {xs:List Value} (j:(sizeOf e).run P w= .ok 1 w) (M:ev E x=some (.pointer (some ⟨g,o,none⟩))) (L:ev E y=some u) (d:u.oneCell' =true) (h:w.ownsRow base T sz v c xs) (G:v.ownBlock=some g) (Q:o<xs.length):
  Xu P n E (.store e x y) ty w (fun b=>b.ownsRow base T sz v c (GW xs o [u])∧w.grownBy b (some g)∧b.heap.size=w.heap.size):=fun a N=>by
 have C:=h.1
 obtain ⟨cap,l,rfl,F,i,r,D,A,H⟩:=FO h G
 have m:c*sz≤l.length:=by rw [A];exact Nat.mul_le_mul_right _ r
 obtain ⟨b,I,B,J,K⟩:=Dj (P:=P) (ty:=ty) j M L d F (by omega) a N
 refine ⟨b,I, ?_,J,K⟩
 rw [← QD (by omega)] at B
 have:=J9 (base:=base) (sz:=sz) (n:=c) (cap:=cap) B (by rw [I4 (by simp;omega)];exact A) r D H
 rwa [Lu (by simp;omega) m,i] at this
end
section
variable {P : Program} {n : Nat} {E : CS} {w : World} {ty t s : TypeId} {x y : Operand} {p q : BitVec 64}
end

section
variable {P : Program} {n : Nat} {E : CS} {w : World} {e ty t : TypeId} {x y z : Operand} {u v : Value}
theorem Xu.stKA {c j k:Nat} {base sz:Nat} {T:TypeId} {xs ds:List Value} (hs:(P.info? e).map (·.size)=some k) (r:ds.length=k) (B:ev E x=some (CI v j)) (A:ev E y=some (.agg ds.toArray)) (b:ds.all (·.oneCell')=true) (h:BM w base T sz v c xs) (H:0<c) (D:j+ds.length≤xs.length):
  Xu P n E (.store e x y) ty w (fun f=>BM f base T sz v c (GW xs j ds)∧w.grownBy f v.ownBlock∧f.heap.size=w.heap.size):=fun a C=>by
 rcases h with h|⟨g,m,rfl,o,G,s,F,rfl⟩
 ·rcases h.2 with ⟨_,I⟩|⟨g,cap,m,rfl,_⟩
  ·omega
  ·have d:ev E x=some (.pointer (some ⟨g,j,none⟩)):=by simpa [CI,add_lit] using B
   obtain ⟨f,i,q,l,p⟩:=Xu.stAO (P:=P) (ty:=ty) hs r d A b h rfl D a C
   exact ⟨f,i, .inl q,l,p⟩
 ·have d:ev E x=some (.pointer (some ⟨g,j,none⟩)):=by simpa [CI,add_lit] using B
  rw [length_take] at D
  obtain ⟨f,i,q,l,p⟩:=Xu.stAt (P:=P) (ty:=ty) hs r d A b G (by omega) a C
  exact ⟨f,i, .inr ⟨g,_,rfl,o,q,by rw [I4 (by omega)];exact s,F,by rw [Lu (by omega) s]⟩,l,p⟩
end
theorem BM.ty {w:World} {base sz k g:Nat} {T:TypeId} {v:Value} {xs:List Value} (h:BM w base T sz v k xs) (c:v.ownBlock=some g):∃cs,AO w g T cs:=by
 rcases h with h|⟨d,a,rfl,_,b,_⟩
 ·obtain ⟨_,a,_,b,_⟩:=FO h c
  exact ⟨a,b⟩
 ·obtain rfl:d=g:=by simpa [Value.ownBlock] using c
  exact ⟨a,b⟩
theorem KA {U p q:World} {base sz:Nat} {E:TypeId} {v g G:Value} {k m:Nat} {xs N:List Value} (C:BM U base E sz v k xs) (r:BM q base E sz G m N) (R:p.grownBy q g.ownBlock)
  (f:G.ownBlock=g.ownBlock∨((∀b,G.ownBlock=some b→p.heap.size≤b)∧Below p.heap.size p q)) (L:Sl p sz v k xs) (H:N.take (k*sz)=xs):Sl q sz v k xs:=by
 rcases f with e|⟨_,Q⟩
 ·obtain ⟨I,B,cap,rfl,D,A,J,S⟩:=L
  cases B with
  |none=>exact ⟨I,none,cap,rfl,D,A,J,fun a K=>by cases K⟩
  |some ad=>
   have l:ad=⟨ad.block,0,none⟩:=by
    rcases C with C|⟨T,o,c,_⟩
    ·rcases C.2 with ⟨c,_⟩|⟨b,i,o,c,_⟩
     ·cases c
     ·cases c;rfl
    ·cases c;rfl
   by_cases hgo:g.ownBlock=some ad.block
   ·rw [hgo] at e
    obtain ⟨_,B,i,d,_,_,_,V⟩:=r.sl
    have F:B=some ad:=by
     rcases r with r|⟨T,o,c,_⟩
     ·rcases r.2 with ⟨c,_⟩|⟨W,M,_,c,_⟩
      ·rw [c] at e;cases e
      ·rw [c] at d e
       cases d
       simp only [Value.ownBlock,Option.some.injEq] at e
       rw [l,e]
     ·rw [c] at d e
      cases d
      simp only [Value.ownBlock,Option.some.injEq] at e
      rw [l,e]
    refine ⟨I,some ad,cap,rfl,D,A,J,fun a K j u s=>V a (by rw [F];exact K) j u ?_⟩
    rw [← H,getElem?_take] at s
    split at s
    ·exact s
    ·cases s
   ·exact Sl.by ⟨I,some ad,cap,rfl,D,A,J,S⟩ R (.inr fun h=>hgo h.symm)
 ·exact L.bs Q
theorem Tk {w:World} {base sz n m:Nat} {e:TypeId} {v:Value} {xs:List Value} (h:w.ownsRow base e sz v n xs) (i:m≤n):w.ownsRow base e sz (cut v sz 0 m) m (xs.take (m*sz)):=by
 obtain ⟨q,k⟩:=h
 have f:m*sz≤n*sz:=Nat.mul_le_mul_right _ i
 refine ⟨by rw [length_take];omega, ?_⟩
 rcases k with ⟨rfl,rfl⟩|⟨b,cap,a,rfl,o,p,d,c,g,l⟩
 ·obtain rfl:m=0:=by omega
  exact .inl ⟨rfl,rfl⟩
 ·refine .inr ⟨b,cap,a, ?_,o,p,Nat.le_trans i d,c,g, ?_⟩
  ·show Value.slice (if cap=0 then _ else Option.map _ _) (m - 0) (cap - 0)=_
   have j:(if cap=0 then some (⟨b,0,none⟩:Addr) else (some (⟨b,0,none⟩:Addr)).map (·.add (0*sz)))=some ⟨b,0,none⟩:=by
    split
    ·rfl
    ·simp [add_lit]
   rw [j];rfl
  ·rw [← l,take_take,Nat.min_eq_left f]
def Mj (sz k:Nat) (cs:List (List Value)):Prop:=cs.length=k∧∀c ∈ cs,c.length=sz
theorem Mj.len {sz k:Nat} {cs:List (List Value)} (h:Mj sz k cs):cs.flatten.length=k*sz:=by
 obtain ⟨rfl,h⟩:=h
 induction cs with
 |nil=>simp
 |cons c cs ih=>
  rw [flatten_cons,length_append,ih fun x a=>h x (mem_cons_of_mem _ a),h c (by simp),length_cons,Nat.succ_mul];omega
theorem Mj.snoc {sz k:Nat} {cs:List (List Value)} {c:List Value} (h:Mj sz k cs) (b:c.length=sz):Mj sz (k+1) (cs++[c]):=
 ⟨by rw [length_append,h.1];rfl,fun x a=>by
  rcases List.mem_append.1 a with a|a
  ·exact h.2 x a
  ·rw [List.mem_singleton.1 a];exact b⟩
theorem Mj.nil (sz:Nat):Mj sz 0 []:=⟨rfl,fun _ h=>by cases h⟩
theorem Mj.take {sz k m:Nat} {cs:List (List Value)} (h:Mj sz (k+m) cs):Mj sz k (cs.take k):=⟨by rw [length_take,h.1];omega,fun c a=>h.2 c (mem_of_mem_take a)⟩
theorem Mj.at {sz k:Nat}:∀{cs:List (List Value)},Mj sz k cs→∀{j:Nat} (a:j<cs.length) {i:Nat},i<sz→cs.flatten[j*sz+i]? =cs[j][i]?
 |[],_,j,a,_,_=>by cases a
 |c::cs,h,0,_,i,hi=>by
  rw [flatten_cons,Nat.zero_mul,Nat.zero_add,getElem?_append_left (by rw [h.2 c (by simp)];exact hi)];rfl
 |c::cs,h,j+1,a,i,hi=>by
  have b:=h.2 c (by simp)
  have:Mj sz cs.length cs:=⟨rfl,fun x d=>h.2 x (mem_cons_of_mem _ d)⟩
  rw [flatten_cons,getElem?_append_right (by rw [b,Nat.succ_mul];omega),b,show (j+1)*sz+i - sz=j*sz+i by rw [Nat.succ_mul];omega,this.at (by simpa using a) hi];rfl
theorem Mj.cells {sz k:Nat} {cs:List (List Value)} (h:Mj sz k cs) {j:Nat} (a:j<cs.length):∀i,i<sz→∃q,cs[j][i]? =some q∧cs.flatten[j*sz+i]? =some q:=fun i b=>by
 have c:=h.2 _ (getElem_mem a)
 exact ⟨cs[j][i]'(by omega),getElem?_eq_getElem _,by rw [h.at a b];exact getElem?_eq_getElem _⟩
theorem E7 {sz k m:Nat} {cs:List (List Value)} (h:Mj sz (k+m) cs):cs.flatten.take (k*sz)=(cs.take k).flatten:=by
 have e:cs.flatten=(cs.take k).flatten++(cs.drop k).flatten:=by rw [← flatten_append,take_append_drop]
 have:=h.take.len
 rw [e,take_append_of_le_length (by omega),take_of_length_le (by omega)]
theorem Of {sz k i:Nat} {xs:List Value} {ds:List (List Value)} {c:List Value} (g:xs.length=k*sz) (b:Mj sz i ds) (d:c.length=sz) (f:i<k):GW (ds.flatten++xs.drop (i*sz)) (i*sz) c=(ds++[c]).flatten++xs.drop ((i+1)*sz):=by
 have a:=b.len
 unfold GW
 rw [take_append_of_le_length (by rw [a];exact AX _),take_of_length_le (by rw [a];exact AX _),drop_append,drop_of_length_le (by rw [a];omega),nil_append,a,drop_drop,d,flatten_append]
 congr 1
 ·simp
 ·congr 1;rw [Nat.succ_mul];omega
theorem OJ {sz k i:Nat} {xs:List Value} {ds:List (List Value)} (c:xs.length=k*sz) (a:Mj sz i ds) (b:i≤k):(ds.flatten++xs.drop (i*sz)).length=k*sz:=by
 have:=a.len
 have:i*sz≤k*sz:=Nat.mul_le_mul_right _ b
 rw [length_append,length_drop];omega
structure H6 (B:Nat) (I:TypeId) (Φ:Int→World→List Value→Prop):Prop where
 of:∀{n:Int} {w w' :World} {c:List Value} {S:Nat→Prop},Φ n w c→BY S w w' →(∀b,S b→b<B∨∃T cs,AO w b T cs∧T≠I)→Φ n w' c
theorem H6.chg {B:Nat} {I:TypeId} {Φ:Int→World→List Value→Prop} (h:H6 B I Φ) {n:Int} {w a:World} {c:List Value} {S:Nat→Prop} (f:Φ n w c) (g:BY S w a) (d:∀b,S b→b<B):Φ n a c:=h.of f g fun b e=> .inl (d b e)
theorem H6.bs {B:Nat} {I:TypeId} {Φ:Int→World→List Value→Prop} (h:H6 B I Φ) {n:Int} {w a:World} {c:List Value} (b:Φ n w c) (g:Below w.heap.size w a):Φ n a c:=h.of b (S:=fun _=>False) (BY.of_below g) (fun _ h=>h.elim)
structure IX (Φ:Int→World→List Value→Prop) (sz:Nat) (n:Int) (w:World) (k:Nat) (cs:List (List Value)):Prop where
 els:Mj sz k cs
 each:∀c ∈ cs,Φ n w c
theorem IX.nil (Φ:Int→World→List Value→Prop) (sz:Nat) (n:Int) (w:World):IX Φ sz n w 0 []:=⟨Mj.nil sz,fun _ h=>by cases h⟩
theorem IX.snoc {Φ:Int→World→List Value→Prop} {sz k:Nat} {n:Int} {w:World} {cs:List (List Value)} {c:List Value} (h:IX Φ sz n w k cs) (b:c.length=sz) (d:Φ n w c):IX Φ sz n w (k+1) (cs++[c]):=
 ⟨h.els.snoc b,fun x a=>by
  rcases List.mem_append.1 a with a|a
  ·exact h.each x a
  ·rw [List.mem_singleton.1 a];exact d⟩
theorem IX.chg {Φ:Int→World→List Value→Prop} {B sz k:Nat} {I:TypeId} {n:Int} {w a:World} {S:Nat→Prop} {cs:List (List Value)} (h:IX Φ sz n w k cs) (st:H6 B I Φ) (g:BY S w a) (d:∀b,S b→b<B):IX Φ sz n a k cs:=⟨h.els,fun c f=>st.chg (h.each c f) g d⟩
theorem IX.bs {Φ:Int→World→List Value→Prop} {B sz k:Nat} {I:TypeId} {n:Int} {w a:World} {cs:List (List Value)} (h:IX Φ sz n w k cs) (st:H6 B I Φ) (g:Below w.heap.size w a):IX Φ sz n a k cs:=⟨h.els,fun c b=>st.bs (h.each c b) g⟩
theorem IX.by {Φ:Int→World→List Value→Prop} {B sz k:Nat} {I:TypeId} {n:Int} {w a:World} {g:Option Nat} {cs:List (List Value)} (h:IX Φ sz n w k cs) (st:H6 B I Φ) (f:w.grownBy a g) (d:∀b,g=some b→b<B∨∃T cs,AO w b T cs∧T≠I):IX Φ sz n a k cs:=
 ⟨h.els,fun c i=>st.of (h.each c i) (S:=fun b=>g=some b) ((BY.refl _ _).grown f fun b e=> .inl e) d⟩
theorem IX.take {Φ:Int→World→List Value→Prop} {sz k m:Nat} {n:Int} {w:World} {cs:List (List Value)} (h:IX Φ sz n w (k+m) cs):IX Φ sz n w k (cs.take k):=⟨h.els.take,fun c a=>h.each c (mem_of_mem_take a)⟩
def G0 (w:World) (base:Nat) (E:TypeId) (sz:Nat) (Φ:Int→World→List Value→Prop) (hs:List Hd):Prop:=∀h ∈ hs,∃cs,IX Φ sz h.n w h.k cs∧BM w base E sz h.v h.k cs.flatten
theorem G0.chg {w a:World} {base sz B:Nat} {E I:TypeId} {Φ:Int→World→List Value→Prop} {hs:List Hd} {S:Nat→Prop} (h:G0 w base E sz Φ hs) (st:H6 B I Φ) (g:BY S w a) (j:∀b,S b→b<B) (f:∀b,BL hs b→¬S b):G0 a base E sz Φ hs:=fun x c=>by
 obtain ⟨cs,i,d⟩:=h x c
 exact ⟨cs,i.chg st g j,d.chg g fun b e=>f b ⟨x,c,e⟩⟩
theorem G0.blk {w:World} {base sz:Nat} {E:TypeId} {Φ:Int→World→List Value→Prop} {hs:List Hd} (h:G0 w base E sz Φ hs) {b:Nat} (c:BL hs b):base≤b∧b<w.heap.size:=by
 obtain ⟨x,d,e⟩:=c
 obtain ⟨_,_,a⟩:=h x d
 exact a.lt b e
structure FY (w:World) (sz:Nat) (Φ:Int→World→List Value→Prop) (h:Hd):Prop where
 l:∃cs,IX Φ sz h.n w h.k cs∧Sl w sz h.v h.k cs.flatten
 g:∃cs,IX Φ sz h.n w (h.k+40) cs∧Sl w sz h.g (h.k+40) cs.flatten
theorem FY.chg {w a:World} {sz B:Nat} {I:TypeId} {Φ:Int→World→List Value→Prop} {h:Hd} {S:Nat→Prop} (t:FY w sz Φ h) (st:H6 B I Φ) (g:BY S w a) (c:∀b,S b→b<B) (j:∀b,h.v.ownBlock=some b→b<w.heap.size→¬S b) (f:∀b,h.g.ownBlock=some b→b<w.heap.size→¬S b):FY a sz Φ h:=by
 obtain ⟨⟨cs,i,l⟩,⟨ds,k,d⟩⟩:=t
 exact ⟨⟨cs,i.chg st g c,l.chg g j⟩,⟨ds,k.chg st g c,d.chg g f⟩⟩
theorem FY.bs {w a:World} {sz B:Nat} {I:TypeId} {Φ:Int→World→List Value→Prop} {h:Hd} (t:FY w sz Φ h) (st:H6 B I Φ) (g:Below w.heap.size w a):FY a sz Φ h:=by
 obtain ⟨⟨cs,c,f⟩,⟨ds,d,b⟩⟩:=t
 exact ⟨⟨cs,c.bs st g,f.bs g⟩,⟨ds,d.bs st g,b.bs g⟩⟩
theorem EA.tallN {l g m:World} {B sz:Nat} {I:TypeId} {Φ:Int→World→List Value→Prop} {hs ts:List Hd} {S:Nat→Prop} (h:EA l hs ts) (st:H6 B I Φ) (r:∀t ∈ ts,FY g sz Φ t) (c:BY S g m) (q:∀b,S b→b<B) (k:∀b,BL hs b→¬S b) (o:∀b,l.heap.size≤b→¬S b):∀t ∈ ts,FY m sz Φ t:=fun t f=>by
 obtain ⟨j,i,rfl⟩:=List.mem_iff_getElem.1 f
 have a:j<hs.length:=by rw [← h.len];exact i
 obtain ⟨e1,_,_,p⟩:=h.all j a i
 refine (r _ f).chg st c q (fun b e _=>k b ⟨_,getElem_mem a,by rw [← e1];exact e⟩) fun b e _=> ?_
 rcases p b e with d|d
 ·exact k b ⟨_,getElem_mem a,d⟩
 ·exact o b d
def On (B:Nat) (I:TypeId) (n:Int) (w:World) (c:List Value):Prop:=∃x,c=[x, .slice none 0 0]∧BS (Value.int .i64) w x [-n]∧∀b,x.ownBlock=some b→B≤b∧∃cs,AO w b I cs
theorem Lf {w:World} {b:Nat} {T U:TypeId} {cs ds:List Value} (h:AO w b T cs) (k:AO w b U ds):T=U:=by
 unfold AO at h k
 rw [h] at k
 cases k;rfl
theorem DH (B:Nat) (I:TypeId):H6 B I (On B I):=⟨fun ⟨x,e,k,c⟩ g i=>by
 have d:∀b,x.ownBlock=some b→¬_:=fun b e hs=>by
  obtain ⟨f,ds,a⟩:=c b e
  rcases i b hs with h|⟨T,cs,l,j⟩
  ·omega
  ·exact j (Lf l a)
 refine ⟨x,e,Sl.chg k g fun b e _ hs=>d b e hs,fun b e=> ?_⟩
 obtain ⟨f,ds,a⟩:=c b e
 exact ⟨f,ds,a.chg g (d b e)⟩⟩
theorem No {B:Nat} {I:TypeId} {n:Int} {w:World} {c:List Value} (h:On B I n w c):c.length=2∧c.all (·.oneCell')=true:=by
 obtain ⟨x,rfl,a,_⟩:=h
 exact ⟨rfl,by rw [all_cons,Sl.one' a];rfl⟩
def Oo (n:Int) (_:World) (c:List Value):Prop:=c=[b8 0#8, .slice none 0 0, .slice none 0 0, .int .i64 (-n), .int .i64 0]
theorem DN (B:Nat) (I:TypeId):H6 B I Oo:=⟨fun h _ _=>h⟩
theorem Np {n:Int} {w:World} {c:List Value} (h:Oo n w c):c.length=5∧c.all (·.oneCell')=true:=by
 rw [h];exact ⟨rfl,rfl⟩
end Go.Dd

namespace Go.Dd
open Go Go.RowKit
open List hiding get tail
def Ow (P:Program) (n:Nat) (E:CS) (o:Oper) (w:World) (R:Value→World→Prop):Prop:=
 ∀a,CK n E a→∀(K:Act→World→Prop) (Q:CH),(∀v w',R v w' →K (a.put o.dst v) w')→o.wp P a w K Q
section
variable {P : Program} {Q : CH} {n : Nat} {E : CS} {w : World} {ty : TypeId} {pos : String} {af : Array Edge} {op : Op} {R : Value → World → Prop} {gd : Option (Nat × Bool)}
theorem Ow.val {d:Nat} {v:Value} (h:Ex P n E op ty w v) (e:R v w):Ow P n E ⟨some d,op,ty,pos,af,gd⟩ w R:=fun a c K Q b=>by
 unfold Oper.wp;rw [h a c];exact b _ _ e
theorem Ow.mk {d:Nat} {c:Value→World→Prop} (h:Xw P n E op ty w c) (k:∀v b,c v b→R v b):Ow P n E ⟨some d,op,ty,pos,af,gd⟩ w R:=fun a e K Q i=>by
 obtain ⟨v,b,g,f⟩:=h a e
 unfold Oper.wp;rw [g];exact i _ _ (k _ _ f)
theorem Dx {c:World→Prop} (h:Xu P n E op ty w c) (k:∀b,c b→R undef b):Ow P n E ⟨none,op,ty,pos,af,gd⟩ w R:=fun a e K Q i=>by
 obtain ⟨b,g,f⟩:=h a e
 unfold Oper.wp;rw [g];exact i _ _ (k _ f)
theorem Ev {d:Nat} {f:FuncId} {args:List Value} {c:Value→World→Prop} (h:Xc P n E op ty w f args) (g:AM P f args w c) (k:∀v b,c v b→R v b):Ow P n E ⟨some d,op,ty,pos,af,gd⟩ w R:=fun a i K Q m=>by
 unfold Oper.wp;rw [h a i]
 exact g.2.mono fun e b ⟨v,j,l⟩=>by subst j;exact m _ _ (k _ _ l)
end
def BW (o:Oper):List Nat:=(o.after.toList.filter (Region.binds .any)).map (·.on)
def JP (l0:List Oper) (val:Nat→Value):List Nat→CS
 |[]=>[]
 |j::js=>match (ED l0 j).bind (·.dst) with
  |some d=>(d,val j)::JP l0 val js
  |none=>JP l0 val js
def BD (R:Nat→Oper→Prop):Nat→List Oper→Prop
 |_,[]=>True
 |k,o::l=>R k o∧BD R (k+1) l
theorem Ce {R:Nat→Oper→Prop} {k:Nat} {o:Oper} {l:List Oper} (h:R k o) (t:BD R (k+1) l):BD R k (o::l):=⟨h,t⟩
theorem Fa {R:Nat→Oper→Prop} {k:Nat}:BD R k []:=trivial
def M0 (L:Nat→Bool) (i:Nat):Nat→Bool:=fun j=>Nat.beq i j||L j
def DM (l:List Oper):List Nat:=l.filterMap (·.dst)
def L6:List Nat→Bool
 |[]=>true
 |x::l=> !l.contains x && L6 l
def T8 (l0:List Oper) (n:Nat):Bool:=
 (l0.zipIdx.all fun p=>p.1.guard.isNone && (BW p.1).all (fun j=>Nat.blt j p.2)) && (DM l0).all (fun d=>Nat.blt d n) && L6 (DM l0)
def Px (l0:List Oper) (n:Nat):Bool:=
 (l0.zipIdx.all fun p=>(match p.1.guard with
  |none=>true
  |some (j,_)=>(BW p.1).contains j && ((ED l0 j).bind (·.dst)).isSome) && (BW p.1).all (fun j=>Nat.blt j p.2)) && (DM l0).all (fun d=>Nat.blt d n) && L6 (DM l0)
theorem JC {l:List Oper} {i:Nat} {o:Oper} (h:ED l i=some o):o ∈ l:=by
 rw [← DC] at h;exact mem_of_getElem? h
theorem Mg {R:Nat→Oper→Prop} {o:Oper}:∀(l:List Oper) (k i:Nat),BD R k l→ED l i=some o→R (k+i) o:=by
 intro l
 induction l with
 |nil=>intro k i _ e;simp [ED] at e
 |cons q l ih=>
  intro k i h e
  cases i with
  |zero=>
   have:q=o:=by simpa [ED] using e
   rw [← this];exact h.1
  |succ i=>
   have:=ih (k+1) i h.2 (by simpa [ED] using e)
   rwa [show k+1+i=k+(i+1) by omega] at this
theorem Ir:∀{l:List Nat},L6 l=true→l.Nodup
 |[],_=>nodup_nil
 |x::l,h=>by
  simp only [L6,Bool.and_eq_true,Bool.not_eq_true'] at h
  exact List.nodup_cons.2 ⟨by simpa using h.1,Ir h.2⟩
theorem VE {o q:Oper} {d:Nat} (g:o.dst=some d) (m:q.dst=some d):∀(l:List Oper) (i j:Nat),(DM l).Nodup→ED l i=some o→ED l j=some q→i=j:=by
 intro l
 induction l with
 |nil=>intro i j _ h;simp [ED] at h
 |cons x l ih=>
  intro i j p f c
  have b:∀{k:Nat} {r:Oper},ED l k=some r→r.dst=some d→d ∈ DM l:=fun s v=>List.mem_filterMap.2 ⟨_,JC s,v⟩
  have a:(DM l).Nodup∧(x.dst=some d→d ∉ DM l):=by
   cases hx:x.dst with
   |none=>exact ⟨by simpa [DM,hx] using p,fun h=>by cases h⟩
   |some e=>
    have:(e::DM l).Nodup:=by simpa [DM,hx] using p
    exact ⟨(List.nodup_cons.1 this).2,fun h=>by cases h;exact (List.nodup_cons.1 this).1⟩
  cases i with
  |zero=>
   have e1:x=o:=by simpa [ED] using f
   cases j with
   |zero=>rfl
   |succ j=>exact absurd (b (by simpa [ED] using c) m) (a.2 (by rw [e1];exact g))
  |succ i=>
   cases j with
   |zero=>
    have e1:x=q:=by simpa [ED] using c
    exact absurd (b (by simpa [ED] using f) g) (a.2 (by rw [e1];exact m))
   |succ j=>rw [ih i j a.1 (by simpa [ED] using f) (by simpa [ED] using c)]
section
variable {P : Program} {Q : CH} {n : Nat} {E : CS} {w : World} {l0 : List Oper}
theorem Kw {val:Nat→Value} {a:Act} (h:CK n E a):∀(c:List Nat),(∀j ∈ c,∀o d,ED l0 j=some o→o.dst=some d→a.tmps[d]? =some (val j))→CK n (JP l0 val c++E) a
 |[],_=>h
 |j::c,hv=>by
  have b:=Kw h c (fun k g=>hv k (mem_cons_of_mem _ g))
  unfold JP
  cases hj:(ED l0 j).bind (·.dst) with
  |none=>exact b
  |some d=>
   obtain ⟨o,l,f⟩:∃o,ED l0 j=some o∧o.dst=some d:=by
    cases hn:ED l0 j with
    |none=>rw [hn] at hj;cases hj
    |some o=>rw [hn] at hj;exact ⟨o,rfl,hj⟩
   refine ⟨b.dfr,b.size,fun i v e=> ?_⟩
   simp only [cons_append,Dd.get] at e
   split at e
   ·rename_i m
    have:d=i:=Nat.eq_of_beq_eq_true m
    subst this;cases e
    exact hv j (by simp) o d l f
   ·exact b.has i v e
structure YL {St:Type} (l0:List Oper) (n:Nat) (E:CS) (val:St→Nat→Value) (I:St→(Nat→Bool)→World→Prop) (s:St) (listed:Array Bool) (a:Act) (w:World):Prop where
 size:listed.size=l0.length
 fits:CK n E a
 vals:∀j o d,ED l0 j=some o→listed.getD j false=true→o.dst=some d→a.tmps[d]? =some (val s j)
 closed:∀j o,ED l0 j=some o→listed.getD j false=true→∀e ∈ BW o,listed.getD e false=true
 inv:I s (fun i=>listed.getD i false) w
theorem Kr {l:List Oper} {i:Nat} {o:Oper} (h:ED l i=some o):i<l.length:=by
 rw [← DC] at h
 exact (List.getElem?_eq_some_iff.1 h).1
theorem L8 {o:Oper} {j:Nat}:j ∈ BW o↔∃e ∈ o.after,Region.binds .any e=true∧e.on=j:=by
 unfold BW
 simp only [mem_map,mem_filter,Array.mem_toList_iff]
 exact ⟨fun ⟨e,⟨a,b⟩,c⟩=>⟨e,a,b,c⟩,fun ⟨e,a,b,c⟩=>⟨e,⟨a,b⟩,c⟩⟩
theorem Kg {i:Nat} {a:Array Bool} (hs:a.size=l0.length):i ∈ Region.ready .any l0.toArray a↔a.getD i false=false∧∃o,ED l0 i=some o∧∀e ∈ BW o,a.getD e false=true:=by
 rw [mem_ready]
 constructor
 ·rintro ⟨g,o,b,f⟩
  rw [getElem?_toArray,DC] at b
  have:=Kr b
  refine ⟨by rw [← FS (by omega)];exact g,o,b,fun j l=> ?_⟩
  obtain ⟨e,c,h,rfl⟩:=L8.1 l
  exact f e c h
 ·rintro ⟨g,o,b,f⟩
  have:=Kr b
  exact ⟨by rw [FS (by omega)];exact g,o,by rw [getElem?_toArray,DC];exact b,fun e c h=>f _ (L8.2 ⟨e,c,h,rfl⟩)⟩
theorem Lv {a:Array Bool} (hs:a.size=l0.length) (f:∀i o,ED l0 i=some o→∀j ∈ BW o,j<i):∀(m i:Nat),i<m→i<l0.length→a.getD i false=false→Region.ready .any l0.toArray a≠[]
 |0,_,h,_,_=>by omega
 |m+1,i,hm,hi,hl=>by
  obtain ⟨o,g⟩:∃o,ED l0 i=some o:=⟨l0[i],by rw [← DC,getElem?_eq_getElem hi]⟩
  by_cases hall:∀e ∈ BW o,a.getD e false=true
  ·intro p
   have:i ∈ Region.ready .any l0.toArray a:=(Kg hs).2 ⟨hl,o,g,hall⟩
   rw [p] at this;cases this
  ·obtain ⟨e,b⟩:=Classical.not_forall.1 hall
   obtain ⟨b,c⟩:=Classical.not_imp.1 b
   have l:=f i o g e b
   exact Lv hs f m e (by omega) (by omega) (by cases h:a.getD e false with
    |false=>rfl
    |true=>exact absurd h c)
theorem O3 {St:Type} {val:St→Nat→Value} {I:St→(Nat→Bool)→World→Prop} (hd:∀i o,ED l0 i=some o→(∀j g,o.guard=some (j,g)→j ∈ BW o∧∃dj,(ED l0 j).bind (·.dst)=some dj)∧∀j ∈ BW o,j<i) (hn:∀i o d,ED l0 i=some o→o.dst=some d→d<n) (C:(DM l0).Nodup) (hE:∀i o d,ED l0 i=some o→o.dst=some d→get E d=none)
  (X:∀i o,ED l0 i=some o→∀s L w,I s L w→L i=false→(∀e ∈ BW o,L e=true)→(∀j q,ED l0 j=some q→L j=true→∀e ∈ BW q,L e=true)→(∀j g,o.guard=some (j,g)→val s j= .bool g)∧
   Ow P n (JP l0 (val s) (BW o)++E) o w (fun v w' =>∃V,I V (M0 L i) w' ∧(∀j,L j=true→val V j=val s j)∧(o.dst.isSome=true→v=val V i)))
  (fin:∀s L w,I s L w→(∀i,i<l0.length→L i=true)→Pw n (JP l0 (val s) (range l0.length)++E) (Q .normal) w):
  ∀(f:Nat) (s:St) (b:Array Bool) (a:Act) (w:World),YL l0 n E val I s b a w→((range l0.length).filter fun i=> !b.getD i false).length=f→wpAny P .any l0.toArray Q f b a w:=by
 intro f
 induction f with
 |zero=>
  intro s b a w h hf
  have hall:∀i,i<l0.length→b.getD i false=true:=fun i hi=>by
   cases r:b.getD i false with
   |true=>rfl
   |false=>
    have T:i ∈ (range l0.length).filter fun i=> !b.getD i false:=List.mem_filter.2 ⟨List.mem_range.2 hi,by simp [r]⟩
    rw [List.length_eq_zero_iff.1 hf] at T
    cases T
  have hr:Region.ready .any l0.toArray b=[]:=by
   cases hr:Region.ready .any l0.toArray b with
   |nil=>rfl
   |cons i rs=>
    have hi:i ∈ Region.ready .any l0.toArray b:=by rw [hr];simp
    obtain ⟨J,o,m, -⟩:=(Kg h.size).1 hi
    rw [hall i (Kr m)] at J;cases J
  refine ⟨hr,fin s _ w h.inv hall a (Kw h.fits _ fun j U o d m G=>h.vals j o d m (hall j (Kr m)) G)⟩
 |succ f ih=>
  intro s b a w h hf
  refine ⟨fun h0=> ?_,fun i hi=> ?_⟩
  ·exfalso
   obtain ⟨i,T⟩:∃i,i ∈ (range l0.length).filter fun i=> !b.getD i false:=by
    cases r:(range l0.length).filter fun i=> !b.getD i false with
    |nil=>rw [r] at hf;cases hf
    |cons i _=>exact ⟨i,by simp⟩
   obtain ⟨J,N⟩:=List.mem_filter.1 T
   exact Lv h.size (fun i o m=>(hd i o m).2) (i+1) i (by omega) (List.mem_range.1 J) (by simpa using N) h0
  ·obtain ⟨J,o,m,N⟩:=(Kg h.size).1 hi
   have W:=Kr m
   have st:=X i o m s _ w h.inv J N h.closed
   have hgd:=st.1
   have st:=st.2 a (Kw h.fits _ fun j U q d A c=>h.vals j q d A (N j U) c)
   unfold wpOp
   rw [getElem?_toArray,DC,m]
   simp only
   have H:Region.wanted o (yielded l0.toArray a.tmps)=true:=by
    unfold Region.wanted
    cases hog:o.guard with
    |none=>rfl
    |some p=>
     obtain ⟨j,g⟩:=p
     obtain ⟨U,dj,F⟩:=(hd i o m).1 j g hog
     obtain ⟨q,A,c⟩:∃q,ED l0 j=some q∧q.dst=some dj:=by
      cases hn:ED l0 j with
      |none=>rw [hn] at F;cases F
      |some q=>rw [hn] at F;exact ⟨q,rfl,F⟩
     have hv:=h.vals j q dj A (N j U) c
     have hy:yielded l0.toArray a.tmps j=some g:=by
      unfold yielded
      rw [getElem?_toArray,DC,F]
      simp [hv,hgd j g hog]
     simp only [hy]
     simp
   rw [if_pos H]
   refine .inl (st _ Q ?_)
   rintro v w' ⟨V,hI,Z,hv⟩
   have hsz:i<b.size:=by rw [h.size];exact W
   have D:∀j,(b.setIfInBounds i true).getD j false=M0 (fun i=>b.getD i false) i j:=fun j=>by
    unfold M0
    by_cases hij:i=j
    ·subst hij;simp [hsz]
    ·have:Nat.beq i j=false:=by
      cases hb:Nat.beq i j with
      |false=>rfl
      |true=>exact absurd (Nat.eq_of_beq_eq_true hb) hij
     rw [this,Bool.false_or,getD_set_ne false hij]
   refine ih V _ _ w' ⟨by simp [h.size], ?_, ?_, ?_, ?_⟩ ?_
   ·cases G:o.dst with
    |none=>exact h.fits
    |some d=>
     refine ⟨h.fits.dfr,by simp [Act.put,h.fits.size],fun k u hu=> ?_⟩
     have Y:d≠k:=fun e=>by subst e;rw [hE i o d m G] at hu;cases hu
     simp only [Act.put,Array.getElem?_setIfInBounds,if_neg Y]
     exact h.fits.has k u hu
   ·intro j q d A r c
    rw [D] at r
    by_cases hij:i=j
    ·subst hij
     obtain rfl:q=o:=Option.some.inj (A.symm.trans m)
     rw [hv (by rw [c];rfl),c]
     have:=hn i q d A c
     simp [Act.put,h.fits.size,this]
    ·have K:b.getD j false=true:=by
      unfold M0 at r
      have:Nat.beq i j=false:=by
       cases hb:Nat.beq i j with
       |false=>rfl
       |true=>exact absurd (Nat.eq_of_beq_eq_true hb) hij
      rw [this,Bool.false_or] at r;exact r
     have B:=Z j K
     cases G:o.dst with
     |none=>rw [B];exact h.vals j q d A K c
     |some e=>
      have Y:e≠d:=fun e' =>by subst e';exact hij (VE G c _ _ _ C m A)
      simp only [Act.put,Array.getElem?_setIfInBounds,if_neg Y]
      rw [B];exact h.vals j q d A K c
   ·intro j q A r e he
    rw [D] at r ⊢
    unfold M0 at r ⊢
    by_cases hij:i=j
    ·subst hij
     obtain rfl:q=o:=Option.some.inj (A.symm.trans m)
     rw [Bool.or_eq_true];exact .inr (N e he)
    ·have:Nat.beq i j=false:=by
      cases hb:Nat.beq i j with
      |false=>rfl
      |true=>exact absurd (Nat.eq_of_beq_eq_true hb) hij
     rw [this,Bool.false_or] at r
     rw [Bool.or_eq_true];exact .inr (h.closed j q A r e he)
   ·have:(fun j=>(b.setIfInBounds i true).getD j false)=M0 (fun i=>b.getD i false) i:=funext D
    rw [this];exact hI
   ·have key:∀(l:List Nat),l.Nodup→i ∈ l→(l.filter fun j=> !(b.setIfInBounds i true).getD j false).length+1=(l.filter fun j=> !b.getD j false).length:=by
     intro l
     induction l with
     |nil=>intro _ h;cases h
     |cons j l ihl=>
      intro C T
      obtain ⟨U,C⟩:=List.nodup_cons.1 C
      by_cases hij:i=j
      ·subst hij
       have e1:(l.filter fun j=> !(b.setIfInBounds i true).getD j false)=l.filter fun j=> !b.getD j false:=filter_congr fun k Y=>by
        have:i≠k:=fun e=>by subst e;exact U Y
        rw [getD_set_ne false this]
       have e2:(b.setIfInBounds i true).getD i false=true:=by simp [hsz]
       rw [filter_cons,filter_cons,e2,J,e1]
       simp
      ·have:=ihl C ((List.mem_cons.1 T).resolve_left hij)
       rw [filter_cons,filter_cons,getD_set_ne false hij]
       split
       ·simp only [length_cons];omega
       ·exact this
    have:=key _ nodup_range (List.mem_range.2 W)
    omega
theorem R7 (h:T8 l0 n=true):(∀i o,ED l0 i=some o→o.guard=none∧∀j ∈ BW o,j<i)∧(∀i o d,ED l0 i=some o→o.dst=some d→d<n)∧(DM l0).Nodup:=by
 simp only [T8,Bool.and_eq_true,all_eq_true] at h
 obtain ⟨⟨g,f⟩,l⟩:=h
 refine ⟨fun i o b=> ?_,fun i o d b c=> ?_,Ir l⟩
 ·have a:(o,i) ∈ l0.zipIdx:=by
   rw [mem_zipIdx_iff_getElem?,DC];exact b
  have:=g _ a
  refine ⟨by simpa using this.1,fun j e=>by have:=this.2 j e;simpa [Nat.blt_eq] using this⟩
 ·have a:d ∈ DM l0:=List.mem_filterMap.2 ⟨o,JC b,c⟩
  have:=f d a
  simpa [Nat.blt_eq] using this
theorem MP (h:Px l0 n=true):(∀i o,ED l0 i=some o→(∀j g,o.guard=some (j,g)→j ∈ BW o∧∃dj,(ED l0 j).bind (·.dst)=some dj)∧∀j ∈ BW o,j<i)∧(∀i o d,ED l0 i=some o→o.dst=some d→d<n)∧(DM l0).Nodup:=by
 simp only [Px,Bool.and_eq_true,all_eq_true] at h
 obtain ⟨⟨m,l⟩,p⟩:=h
 refine ⟨fun i o b=> ?_,fun i o d b e=> ?_,Ir p⟩
 ·have a:(o,i) ∈ l0.zipIdx:=by
   rw [mem_zipIdx_iff_getElem?,DC];exact b
  have:=m _ a
  refine ⟨fun j g q=> ?_,fun j f=>by have:=this.2 j f;simpa [Nat.blt_eq] using this⟩
  have c:=this.1
  simp only [q,Bool.and_eq_true] at c
  exact ⟨by simpa using c.1,Option.isSome_iff_exists.1 c.2⟩
 ·have a:d ∈ DM l0:=List.mem_filterMap.2 ⟨o,JC b,e⟩
  have:=l d a
  simpa [Nat.blt_eq] using this
def Kn (l:List Oper) (E:CS):CS:=E.filter fun p=> !(DM l).contains p.1
theorem JL {l:List Oper}:∀(E:CS) (i:Nat),get (Kn l E) i=if (DM l).contains i then none else get E i
 |[],i=>by simp [Kn,Dd.get]
 |(j,v)::E,i=>by
  have b:=JL (l:=l) E i
  unfold Kn at*
  rw [filter_cons]
  by_cases hj:(DM l).contains j=true
  ·simp only [hj,Bool.not_true,Bool.false_eq_true,if_false]
   rw [b]
   split
   ·rfl
   ·rename_i h
    have:j≠i:=fun e=>h (e ▸ hj)
    rw [DZ v E this]
  ·have a:(DM l).contains j=false:=by simpa using hj
   simp only [a,Bool.not_false,if_true]
   by_cases e:j=i
   ·subst e
    rw [CR,CR,if_neg hj]
   ·rw [DZ v _ e,DZ v _ e,b]
theorem Cw.invG {K:Nat} {l:List Oper} {St:Type} (val:St→Nat→Value) (I:St→(Nat→Bool)→World→Prop) (D:St) (C:P.follows .mixedOrders=true) (T:Px l n=true)
  (H:∀m,Below w.heap.size w m→I D (fun _=>false) m)
  (c:BD (fun i o=>∀s L w,I s L w→L i=false→(∀e ∈ BW o,L e=true)→(∀j q,ED l j=some q→L j=true→∀e ∈ BW q,L e=true)→(∀j g,o.guard=some (j,g)→val s j= .bool g)∧
   Ow P n (JP l (val s) (BW o)++Kn l E) o w (fun v m=>∃r,I r (M0 L i) m∧(∀j,L j=true→val r j=val s j)∧(o.dst.isSome=true→v=val r i))) 0 l)
  (A:∀s L w,I s L w→(∀i,i<l.length→L i=true)→Pw n (JP l (val s) (range l.length)++Kn l E) (Q .normal) w):Cw P Q n (.region K l.toArray true) E w:=fun a f=>by
 obtain ⟨J,G,N⟩:=MP T
 refine wp_region_any C ?_
 have p:∀i,(Array.replicate l.length false).getD i false=false:=fun i=>getD_replicate_false _ _
 have f:CK n (Kn l E) a:=⟨f.dfr,f.size,fun i v h=>f.has i v (by
  rw [JL] at h
  split at h
  ·cases h
  ·exact h)⟩
 refine O3 (val:=val) (I:=I) J G N (fun i o d B F=> ?_) (fun i o B=>by have:=Mg _ _ _ c B;rwa [Nat.zero_add] at this) A _ D _ a _ ⟨by simp,f,fun j o d _ b=> ?_,fun j o _ b=> ?_, ?_⟩ ?_
 ·have C:d ∈ DM l:=List.mem_filterMap.2 ⟨o,JC B,F⟩
  rw [JL,if_pos (by simpa using C)]
 ·have:=p j;simp only [size_toArray] at b;rw [this] at b;cases b
 ·have:=p j;simp only [size_toArray] at b;rw [this] at b;cases b
 ·have:(fun i=>(Array.replicate l.toArray.size false).getD i false)=fun _=>false:=funext fun i=>by simpa using p i
  rw [this];exact H _ (EX w)
 ·have:((range l.length).filter fun i=> !(Array.replicate l.toArray.size false).getD i false)=range l.length:=List.filter_eq_self.2 fun i _=>by
   have:=p i;simp only [size_toArray];rw [this];rfl
  rw [this];simp
theorem I1 {R a:Nat→Oper→Prop}:∀(l:List Oper) (k:Nat),(∀i o,ED l i=some o→R (k+i) o→a (k+i) o)→BD R k l→BD a k l
 |[],_,_,_=>trivial
 |o::l,k,h,⟨h1,h2⟩=>⟨h 0 o rfl h1,I1 l (k+1) (fun i q b c=>by have:=h (i+1) q b (by rwa [show k+1+i=k+(i+1) by omega] at c);rwa [show k+1+i=k+(i+1) by omega]) h2⟩
theorem Xr (h:T8 l0 n=true):Px l0 n=true:=by
 simp only [T8,Px,Bool.and_eq_true,all_eq_true] at h ⊢
 refine ⟨⟨fun p a=>⟨?_,(h.1.1 p a).2⟩,h.1.2⟩,h.2⟩
 have:=(h.1.1 p a).1
 cases hg:p.1.guard with
 |none=>rfl
 |some q=>rw [hg] at this;cases this
theorem Cw.inv {F:Nat} {l:List Oper} {St:Type} (val:St→Nat→Value) (I:St→(Nat→Bool)→World→Prop) (m:St) (K:P.follows .mixedOrders=true) (p:T8 l n=true)
  (A:∀b,Below w.heap.size w b→I m (fun _=>false) b)
  (a:BD (fun i o=>∀s L w,I s L w→L i=false→(∀e ∈ BW o,L e=true)→(∀j q,ED l j=some q→L j=true→∀e ∈ BW q,L e=true)→
   Ow P n (JP l (val s) (BW o)++Kn l E) o w (fun v b=>∃c,I c (M0 L i) b∧(∀j,L j=true→val c j=val s j)∧(o.dst.isSome=true→v=val c i))) 0 l)
  (f:∀s L w,I s L w→(∀i,i<l.length→L i=true)→Pw n (JP l (val s) (range l.length)++Kn l E) (Q .normal) w):Cw P Q n (.region F l.toArray true) E w:=
 Cw.invG val I m K (Xr p) A (I1 l 0 (fun i o G H s L w C r J B=>⟨fun j g h=>(by
  have D:=((R7 p).1 i o G).1
  rw [D] at h;cases h),H s L w C r J B⟩) a) f
end
def FE (w:World) (M:Nat) (d:TypeDesc) (S:Value→Value→Prop):Prop:=
 ∃es c,w.heap[M]? =some (.map es c)∧(∀x ∈ es.toList,MapKept.IsKey d x.key)∧∀k v,(∃x ∈ es.toList,x.key=k∧x.val=v)↔S k v
theorem FE.lt {w:World} {M:Nat} {d:TypeDesc} {S:Value→Value→Prop} (h:FE w M d S):M<w.heap.size:=by
 obtain ⟨a,c,h, -⟩:=h;exact (Array.getElem?_eq_some_iff.1 h).1
theorem FE.bs {w a:World} {M:Nat} {d:TypeDesc} {S:Value→Value→Prop} (h:FE w M d S) (g:Below w.heap.size w a):FE a M d S:=by
 have b:=h.lt
 obtain ⟨f,c,h,e⟩:=h
 exact ⟨f,c,by rw [g.block M b];exact h,e⟩
theorem FE.congr {w:World} {M:Nat} {d:TypeDesc} {S T:Value→Value→Prop} (h:FE w M d S) (b:∀k v,S k v↔T k v):FE w M d T:=by
 obtain ⟨e,c,h,a,f⟩:=h
 exact ⟨e,c,h,a,fun k v=>(f k v).trans (b k v)⟩
section
variable {P : Program} {n : Nat} {E : CS} {w : World} {ty : TypeId} {t kt et : TypeId} {d : TypeDesc} {M : Nat} {S : Value → Value → Prop} {x y z : Operand} {k u : Value}
theorem Gc:Xw P n E (.makeMap t none) ty w (fun v b=>v= .map (some w.heap.size)∧FE b w.heap.size d (fun _ _=>False)∧Below w.heap.size w b∧b.heap.size=w.heap.size+1):=fun a c=>by
 refine ⟨.map (some w.heap.size),w.alloc (.map #[] 0),fun _ _ _ _=> ?_,rfl,⟨#[],0,(MapKept.heap_alloc w _).1,by simp,by simp⟩,GR w _,by simp⟩
 have:(Instr.makeMap t none).run P w= .ok (.map (some w.heap.size)) (w.alloc (.map #[] 0)):=rfl
 simp [execOp,this]
theorem Dv (K:P.underlying t=some (.map kt et)) (C:P.underlying kt=some d) (f:ev E x=some (.map (some M))) (I:ev E y=some k) (G:ev E z=some u) (q:MapKept.IsKey d k) (h:FE w M d S) (l:∀v,¬S k v):
  Xu P n E (.insert t x y z) ty w (fun m=>FE m M d (fun r v' =>S r v' ∨(r=k∧v' =u))∧w.grownBy m (some M)∧m.heap.size=w.heap.size):=fun a A=>by
 obtain ⟨s,c,i,g,B⟩:=h
 obtain ⟨H, -⟩|⟨j,e, -,L,p⟩:=MapKept.findNow_spec q s.toList 0 g
 ·refine ⟨{w with heap:=w.heap.setIfInBounds M (.map (s.push {key:=k,val:=u,born:=c}) (c+1))},fun _ _ _ _=> ?_,⟨_,_,(MapKept.heap_set i).1,fun x f=> ?_,fun r v' => ?_⟩,⟨rfl,rfl,rfl,by simp,fun b _ o=>(MapKept.heap_set i).2 b (fun e=>o (by rw [e]))⟩,by simp⟩
  ·have J:(Instr.mapUpdate t (.map (some M)) k u).run P w= .ok () {w with heap:=w.heap.setIfInBounds M (.map (s.push {key:=k,val:=u,born:=c}) (c+1))}:=by
    unfold Instr.mapUpdate
    simp only [Sem.run_bind,run_underlying K,Result.andThen,MapKept.run_getObj_map i,MapKept.run_checkKey C q,MapKept.run_findKey C H,MapKept.run_setObj_map _ i]
   simp [execOp,A.ev f,A.ev I,A.ev G,J]
  ·rw [Array.toList_push,mem_append] at f
   rcases f with f|f
   ·exact g x f
   ·rw [List.mem_singleton.1 f];exact q
  ·rw [Array.toList_push]
   constructor
   ·rintro ⟨x,f,rfl,rfl⟩
    rcases List.mem_append.1 f with f|f
    ·exact .inl ((B _ _).1 ⟨x,f,rfl,rfl⟩)
    ·rw [List.mem_singleton.1 f];exact .inr ⟨rfl,rfl⟩
   ·rintro (h|⟨rfl,rfl⟩)
    ·obtain ⟨x,f,F,D⟩:=(B _ _).2 h
     exact ⟨x,mem_append_left _ f,F,D⟩
    ·exact ⟨_,mem_append_right _ (List.mem_singleton.2 rfl),rfl,rfl⟩
 ·exact absurd ((B k e.val).1 ⟨e,mem_of_getElem? L,p,rfl⟩) (l _)
theorem Jg (o:P.underlying t=some (.map kt et)) (a:P.underlying kt=some d) (m:MapKept.IsKey d k) (h:FE w M d S) (b:Bool) {z:Value} (D:(zeroValue et).run P w= .ok z w):
  (∃v,S k v∧(Instr.lookup t (.map (some M)) k b).run P w= .ok (if b then .tuple #[v, .bool true] else v) w)∨((∀v,¬S k v)∧(Instr.lookup t (.map (some M)) k b).run P w= .ok (if b then .tuple #[z, .bool false] else z) w):=by
 obtain ⟨B,c,q,g,p⟩:=h
 obtain ⟨i,f⟩|⟨j,e,i,r,l⟩:=MapKept.findNow_spec m B.toList 0 g
 ·right
  refine ⟨fun v s=> ?_, ?_⟩
  ·obtain ⟨x,C,A, -⟩:=(p k v).2 s
   exact f x C A
  ·unfold Instr.lookup
   simp only [Sem.run_bind,run_underlying o,Result.andThen,MapKept.run_getObj_map q,MapKept.run_checkKey a m,MapKept.run_findKey a i,D,Sem.run_pure]
 ·left
  refine ⟨e.val,(p _ _).1 ⟨e,mem_of_getElem? r,l,rfl⟩, ?_⟩
  unfold Instr.lookup
  simp only [Sem.run_bind,run_underlying o,Result.andThen,MapKept.run_getObj_map q,MapKept.run_checkKey a m,MapKept.run_findKey a i,Sem.run_pure]
theorem Ex.look2 {v:Value} (g:P.underlying t=some (.map kt et)) (f:P.underlying kt=some d) (p:ev E x=some (.map (some M))) (l:ev E y=some k) (j:MapKept.IsKey d k) (h:FE w M d S) (q:∃i z,P.info? et=some i∧i.zero=some z) (m:S k v) (o:∀v',S k v' →v' =v):Ex P n E (.lookup t x y true) ty w (.tuple #[v, .bool true]):=fun a e _ _ _ _=>by
 obtain ⟨i,z,b,c⟩:=q
 rcases Jg g f j h true (z:=z) (by simp [zeroValue,typeInfo,b,c]) with ⟨v',b,c⟩|⟨b, -⟩
 ·rw [o v' b] at c
  simp [execOp,e.ev p,e.ev l,c]
 ·exact absurd m (b v)
theorem Ex.look2n {i:TypeInfo} {z:Value} (g:P.underlying t=some (.map kt et)) (f:P.underlying kt=some d) (o:ev E x=some (.map (some M))) (l:ev E y=some k) (j:MapKept.IsKey d k) (h:FE w M d S) (c:P.info? et=some i) (b:i.zero=some z) (m:∀v,¬S k v):Ex P n E (.lookup t x y true) ty w (.tuple #[z, .bool false]):=fun a e _ _ _ _=>by
 rcases Jg g f j h true (z:=z) (by simp [zeroValue,typeInfo,c,b]) with ⟨v',c,b⟩|⟨-,b⟩
 ·exact absurd c (m v')
 ·simp [execOp,e.ev o,e.ev l,b]
theorem Ex.look1 {v:Value} (g:P.underlying t=some (.map kt et)) (f:P.underlying kt=some d) (p:ev E x=some (.map (some M))) (l:ev E y=some k) (j:MapKept.IsKey d k) (h:FE w M d S) (q:∃i z,P.info? et=some i∧i.zero=some z) (m:S k v) (o:∀v',S k v' →v' =v):Ex P n E (.lookup t x y false) ty w v:=fun a e _ _ _ _=>by
 obtain ⟨i,z,b,c⟩:=q
 rcases Jg g f j h false (z:=z) (by simp [zeroValue,typeInfo,b,c]) with ⟨v',b,c⟩|⟨b, -⟩
 ·rw [o v' b] at c
  simp [execOp,e.ev p,e.ev l,c]
 ·exact absurd m (b v)
end
end Go.Dd

namespace Go.Dd
open Go Go.RowKit List
section
variable {P : Program} {Q : CH} {n : Nat} {E : CS} {w : World} {l : List Oper}
theorem Aw.invG {St:Type} (val:St→Nat→Value) (I:St→(Nat→Bool)→World→Prop) (t:St) (D:Px l n=true) (z:I t (fun _=>false) w)
  (b:BD (fun i o=>∀s L w,I s L w→L i=false→(∀e ∈ BW o,L e=true)→(∀j q,ED l j=some q→L j=true→∀e ∈ BW q,L e=true)→(∀j g,o.guard=some (j,g)→val s j= .bool g)∧
   Ow P n (JP l (val s) (BW o)++Kn l E) o w (fun v x=>∃m,I m (M0 L i) x∧(∀j,L j=true→val m j=val s j)∧(o.dst.isSome=true→v=val m i))) 0 l)
  (p:∀s L w,I s L w→(∀i,i<l.length→L i=true)→Pw n (JP l (val s) (range l.length)++Kn l E) (Q .normal) w):Aw P l Q n l.length (Array.replicate l.length false) E w:=fun a f=>by
 obtain ⟨A,y,B⟩:=MP D
 have k:∀i,(Array.replicate l.length false).getD i false=false:=fun i=>getD_replicate_false _ _
 have f:CK n (Kn l E) a:=⟨f.dfr,f.size,fun i v h=>f.has i v (by
  rw [JL] at h
  split at h
  ·cases h
  ·exact h)⟩
 refine O3 (val:=val) (I:=I) A y B (fun i o d r u=> ?_) (fun i o r=>by have:=Mg _ _ _ b r;rwa [Nat.zero_add] at this) p _ t _ a _ ⟨by simp,f,fun j o d _ c=> ?_,fun j o _ c=> ?_, ?_⟩ ?_
 ·have C:d ∈ DM l:=List.mem_filterMap.2 ⟨o,JC r,u⟩
  rw [JL,if_pos (by simpa using C)]
 ·have:=k j;rw [this] at c;cases c
 ·have:=k j;rw [this] at c;cases c
 ·have:(fun i=>(Array.replicate l.length false).getD i false)=fun _=>false:=funext fun i=>by simpa using k i
  rw [this];exact z
 ·have:((range l.length).filter fun i=> !(Array.replicate l.length false).getD i false)=range l.length:=List.filter_eq_self.2 fun i _=>by
   have:=k i;rw [this];rfl
  rw [this];simp
inductive Kd where
 |val
 |alloc (T:TypeId) (zs:List Value)
 |st (j k:Nat)
 |stc (j:Nat) (cs:List Value)
def Kd.to:Kd→Option Nat
 | .st j _=>some j
 | .stc j _=>some j
 |_=>none
def Kd.cells (s:Nat→Value):Kd→List Value
 | .st _ k=>(s k).cells.toList
 | .stc _ cs=>cs
 |_=>[]
def DW (kd:List Kd) (i:Nat):Kd:=kd.getD i .val
def II (kd:List Kd) (j i:Nat):Bool:=(DW kd i).to==some j
def R6 (TS:List TypeId):Kd→Bool
 | .alloc T _=>TS.contains T
 |_=>false
def Wr:Kd→Bool
 | .val=>true
 |_=>false
def X9 (kd:List Kd) (TS:List TypeId) (l:List Oper):Bool:=
 Nat.beq kd.length l.length && l.zipIdx.all fun p=>(match DW kd p.2 with
  | .val=>p.1.dst.isSome
  | .alloc T _=>TS.contains T && p.1.dst.isSome
  | .st j k=>(BW p.1).contains j && (BW p.1).contains k && R6 TS (DW kd j) && p.1.dst.isNone && Wr (DW kd k)
  | .stc j _=>(BW p.1).contains j && R6 TS (DW kd j) && p.1.dst.isNone) && ((DW kd p.2).to.isNone||(range l.length).all fun i=> !II kd ((DW kd p.2).to.getD 0) i||Nat.beq i p.2) && (BW p.1).all fun j=>Nat.blt j l.length
def GB (A:Nat):Value:= .pointer (some ⟨A,0,none⟩)
def Qu (P:Program) (n:Nat) (E:CS) (w0:World) (Φ:Nat→Value→World→Prop) (kd:List Kd) (s:Nat→Value) (w:World) (i:Nat) (o:Oper):Kd→Prop
 | .val=>Ow P n E o w (fun v w' =>Below w.heap.size w w' ∧Φ i v w')
 | .alloc T zs=>Ow P n E o w (fun v w' =>v=GB w.heap.size∧AO w' w.heap.size T zs∧Below w.heap.size w w')
 | .st j k=>match DW kd j with
  | .alloc T zs=>∀A,s j=GB A→w0.heap.size≤A→AO w A T zs→Φ k (s k) w→Ow P n E o w (fun _ w' =>AO w' A T (s k).cells.toList∧w.grownBy w' (some A))
  |_=>False
 | .stc j cs=>match DW kd j with
  | .alloc T zs=>∀A,s j=GB A→w0.heap.size≤A→AO w A T zs→Ow P n E o w (fun _ w' =>AO w' A T cs∧w.grownBy w' (some A))
  |_=>False
def OM (kd:List Kd) (s:Nat→Value) (L:Nat→Bool) (m j:Nat) (zs cs:List Value):Prop:=(∀i,i<m→II kd j i=true→L i=true→cs=(DW kd i).cells s)∧((∀i,i<m→II kd j i=true→L i=false)→cs=zs)
structure Zi (w0:World) (l:List Oper) (Φ:Nat→Value→World→Prop) (kd:List Kd) (s:Nat→Value) (L:Nat→Bool) (w:World):Prop where
 below:Below w0.heap.size w0 w
 vals:∀j,L j=true→j<l.length→DW kd j= .val→Φ j (s j) w
 boxes:∀j T zs,L j=true→j<l.length→DW kd j= .alloc T zs→∃A cs,s j=GB A∧w0.heap.size≤A∧AO w A T cs∧OM kd s L l.length j zs cs
 apart:∀i j T zs U ys A B,L i=true→L j=true→DW kd i= .alloc T zs→DW kd j= .alloc U ys→s i=GB A→s j=GB B→i<l.length→j<l.length→i≠j→A≠B
theorem CT {L:Nat→Bool} {i j:Nat}:M0 L i j=true↔i=j∨L j=true:=by
 unfold M0
 rw [Bool.or_eq_true]
 exact ⟨fun h=>h.imp (fun h=>Nat.eq_of_beq_eq_true h) id,fun h=>h.imp (fun h=>by subst h;exact Nat.beq_refl i) id⟩
theorem Nl {A B:Nat} (h:GB A=GB B):A=B:=by
 unfold GB at h;cases h;rfl
theorem T7 {k:Kd} (h:Wr k=true):k= .val:=by
 cases k with
 |val=>rfl
 |_=>cases h
theorem NJ {b:List Kd} {e:List TypeId} (h:X9 b e l=true) {i:Nat} {o:Oper} (p:ED l i=some o):
  (match DW b i with
  | .val=>o.dst.isSome=true
  | .alloc T _=>T ∈ e∧o.dst.isSome=true
  | .st j k=>j ∈ BW o∧k ∈ BW o∧R6 e (DW b j)=true∧o.dst=none∧DW b k= .val
  | .stc j _=>j ∈ BW o∧R6 e (DW b j)=true∧o.dst=none)∧(∀j,(DW b i).to=some j→∀k,k<l.length→II b j k=true→k=i)∧∀j ∈ BW o,j<l.length:=by
 simp only [X9,Bool.and_eq_true,all_eq_true] at h
 have m:(o,i) ∈ l.zipIdx:=by
  rw [mem_zipIdx_iff_getElem?,DC];exact p
 have f:=h.2 _ m
 refine ⟨?_,fun j d k c q=> ?_,fun j d=>by have:=f.2 j d;simpa [Nat.blt_eq] using this⟩
 ·have a:=f.1.1
  cases c:DW b i with
  |val=>rw [c] at a;exact a
  |alloc T zs=>rw [c] at a;simpa using a
  |st j k=>rw [c] at a;simp only [Bool.and_eq_true,contains_iff_mem,Option.isNone_iff_eq_none] at a;exact ⟨a.1.1.1.1,a.1.1.1.2,a.1.1.2,a.1.2,T7 a.2⟩
  |stc j cs=>rw [c] at a;simp only [Bool.and_eq_true,contains_iff_mem,Option.isNone_iff_eq_none] at a;exact ⟨a.1.1,a.1.2,a.2⟩
 ·have a:=f.1.2
  rw [Bool.or_eq_true] at a
  rcases a with a|a
  ·rw [d] at a;cases a
  ·rw [d] at a
   have g:=List.all_eq_true.1 a k (List.mem_range.2 c)
   simp only [Option.getD_some,q,Bool.not_true,Bool.false_or] at g
   exact Nat.eq_of_beq_eq_true g
theorem LU {b:List TypeId} {k:Kd} (h:R6 b k=true):∃T a,k= .alloc T a∧T ∈ b:=by
 cases k with
 |alloc T a=>exact ⟨T,a,rfl,by simpa [R6] using h⟩
 |_=>cases h
theorem Aw.boxes (C:List Kd) (TS:List TypeId) (Φ:Nat→Value→World→Prop) (hB:Px l n=true) (hK:X9 C TS l=true) (stab:∀i v w H,Φ i v w→Below w.heap.size w H→Φ i v H)
  (stabT:∀i v w1 w2 A T cs,Φ i v w1→AO w1 A T cs→w.heap.size≤A→T ∈ TS→w1.grownBy w2 (some A)→Φ i v w2)
  (step:BD (fun i o=>∀(s:Nat→Value) H,Below w.heap.size w H→(∀j ∈ BW o,DW C j= .val→Φ j (s j) H)→(∀j g,o.guard=some (j,g)→s j= .bool g)∧Qu P n (JP l s (BW o)++Kn l E) w Φ C s H i o (DW C i)) 0 l)
  (fin:∀s H,Below w.heap.size w H→(∀i,i<l.length→DW C i= .val→Φ i (s i) H)→
   (∀j T p,j<l.length→DW C j= .alloc T p→∃A cs,s j=GB A∧w.heap.size≤A∧AO H A T cs∧OM C s (fun _=>true) l.length j p cs)→
   (∀i j T p U I A B,DW C i= .alloc T p→DW C j= .alloc U I→s i=GB A→s j=GB B→i<l.length→j<l.length→i≠j→A≠B)→Pw n (JP l s (range l.length)++Kn l E) (Q .normal) H):Aw P l Q n l.length (Array.replicate l.length false) E w:=by
 refine Aw.invG (St:=Nat→Value) (fun s j=>s j) (Zi w l Φ C) (fun _=>undef) hB ⟨Below.refl _ _,fun j h=>(by cases h),fun j T p h=>(by cases h),fun i j T p U I A B h=>(by cases h)⟩ (I1 l 0 (fun i o ho hr s L H t hl hd hcl=> ?_) step) (fun s L H t hall=>fin s H t.below (fun i hi r=>t.vals i (hall i hi) hi r)
  (fun j T p y r=> ?_) (fun i j T p U I A B hi y h1 J li lj u=>t.apart i j T p U I A B (hall i li) (hall j lj) hi y h1 J li lj u))
 ·rw [Nat.zero_add i] at hr hl ⊢
  have hi:=Kr ho
  obtain ⟨k1,k2,k3⟩:=NJ hK ho
  have hdl:=k3
  obtain ⟨h1,J⟩:=hr s H t.below (fun j y r=>t.vals j (hd j y) (hdl j y) r)
  refine ⟨h1, ?_⟩
  -- what is done stays as it is
  have old:∀(v:Value) j,L j=true→(if i=j then v else s j)=s j:=fun v j y=>by
   by_cases e:i=j
   ·subst e;rw [hl] at y;cases y
   ·rw [if_neg e]
  have cel:∀(v:Value) j,L j=true→j<l.length→(DW C j).cells (fun j=>if i=j then v else s j)=(DW C j).cells s:=fun v j y f=>by
   obtain ⟨q,hq⟩:∃q,ED l j=some q:=⟨l[j],by rw [← DC,getElem?_eq_getElem f]⟩
   have:=(NJ hK hq).1
   cases r:DW C j with
   |st j' k=>
    rw [r] at this
    show ((if i=k then v else s k):Value).cells.toList=(s k).cells.toList
    rw [old v k (hcl j q hq y k this.2.1)]
   |_=>rfl
  have G:∀(v:Value) j p cs,(DW C i).to≠some j→OM C s L l.length j p cs→OM C (fun j=>if i=j then v else s j) (M0 L i) l.length j p cs:=fun v j p cs u ⟨c1,c2⟩=>by
   refine ⟨fun m z x hL=> ?_,fun hno=>c2 fun m z x=> ?_⟩
   ·have N:i≠m:=fun e=>by subst e;exact u (by simpa [II] using x)
    have hL' :L m=true:=(CT.1 hL).resolve_left N
    rw [c1 m z x hL',cel v m hL' z]
   ·have:=hno m z x
    cases h:L m with
    |false=>rfl
    |true=>rw [CT.2 (.inr h)] at this;cases this
  cases r:DW C i with
  |val=>
   rw [r] at J G k1
   refine fun a M K Q R=>J a M K Q fun v F ⟨W,g2⟩=>R v F ?_
   refine ⟨fun j=>if i=j then v else s j,⟨t.below.trans (W.mono (AA t.below)),fun j y f d=> ?_,fun j T p y f d=> ?_,fun a b T p U I A B M hb X Y h5 h6 la lb u=> ?_⟩,old v,fun _=>by simp⟩
   ·show Φ j (if i=j then v else s j) F
    by_cases e:i=j
    ·subst e;rw [if_pos rfl];exact g2
    ·rw [if_neg e];exact stab _ _ _ _ (t.vals j ((CT.1 y).resolve_left e) f d) W
   ·have e:i≠j:=fun e=>by subst e;rw [r] at d;cases d
    obtain ⟨A,cs,V,S,Z,q4⟩:=t.boxes j T p ((CT.1 y).resolve_left e) f d
    exact ⟨A,cs,by show (if i=j then v else s j)=_;rw [if_neg e];exact V,S,Z.bs W,G v j p cs (fun h=>by cases h) q4⟩
   ·have e1:i≠a:=fun e=>by subst e;rw [r] at X;cases X
    have e2:i≠b:=fun e=>by subst e;rw [r] at Y;cases Y
    simp only [if_neg e1] at h5
    simp only [if_neg e2] at h6
    exact t.apart a b T p U I A B ((CT.1 M).resolve_left e1) ((CT.1 hb).resolve_left e2) X Y h5 h6 la lb u
  |alloc T0 zs0=>
   rw [r] at J G k1
   refine fun a M K Q R=>J a M K Q fun v F ⟨g0,g2,W⟩=>R v F ?_
   refine ⟨fun j=>if i=j then v else s j,⟨t.below.trans (W.mono (AA t.below)),fun j y f d=> ?_,fun j T p y f d=> ?_,fun a b T p U I A B M hb X Y h5 h6 la lb u=> ?_⟩,old v,fun _=>by simp⟩
   ·have e:i≠j:=fun e=>by subst e;rw [r] at d;cases d
    show Φ j (if i=j then v else s j) F
    rw [if_neg e];exact stab _ _ _ _ (t.vals j ((CT.1 y).resolve_left e) f d) W
   ·by_cases e:i=j
    ·subst e
     rw [r] at d
     cases d
     refine ⟨H.heap.size,zs0,by show (if i=i then v else s i)=_;rw [if_pos rfl];exact g0,AA t.below,g2,⟨fun m z x hL=> ?_,fun _=>rfl⟩⟩
     exfalso
     obtain ⟨q,hq⟩:∃q,ED l m=some q:=⟨l[m],by rw [← DC,getElem?_eq_getElem z]⟩
     have N:i≠m:=fun e=>by subst e;simp [II,r,Kd.to] at x
     have hLm:=(CT.1 hL).resolve_left N
     have hkm:=(NJ hK hq).1
     have:i ∈ BW q:=by
      cases hkk:DW C m with
      |st j' k=>rw [hkk] at hkm;simp [II,hkk,Kd.to] at x;subst x;exact hkm.1
      |stc j' c=>rw [hkk] at hkm;simp [II,hkk,Kd.to] at x;subst x;exact hkm.1
      |_=>simp [II,hkk,Kd.to] at x
     have:=hcl m q hq hLm i this
     rw [hl] at this;cases this
    ·obtain ⟨A,cs,V,S,Z,q4⟩:=t.boxes j T p ((CT.1 y).resolve_left e) f d
     exact ⟨A,cs,by show (if i=j then v else s j)=_;rw [if_neg e];exact V,S,Z.bs W,G v j p cs (fun h=>by cases h) q4⟩
   ·have fresh:∀c U I B,i≠c→M0 L i c=true→c<l.length→DW C c= .alloc U I→s c=GB B→B≠H.heap.size:=fun c U I B e hc lc hkc hs=>by
     obtain ⟨A',cs,V, -,Z, -⟩:=t.boxes c U I ((CT.1 hc).resolve_left e) lc hkc
     have:=Nl (V.symm.trans hs)
     have:=AH Z
     omega
    by_cases e1:i=a
    ·have e2:i≠b:=fun e=>u (e1.symm.trans e)
     simp only [if_neg e2] at h6
     simp only [if_pos e1] at h5
     have hA:=Nl (g0.symm.trans h5)
     have:=fresh b U I B e2 hb lb Y h6
     omega
    ·simp only [if_neg e1] at h5
     by_cases e2:i=b
     ·simp only [if_pos e2] at h6
      have hA:=Nl (g0.symm.trans h6)
      have:=fresh a T p A e1 M la X h5
      omega
     ·simp only [if_neg e2] at h6
      exact t.apart a b T p U I A B ((CT.1 M).resolve_left e1) ((CT.1 hb).resolve_left e2) X Y h5 h6 la lb u
  |st j0 k0=>
   rw [r] at J G k1
   obtain ⟨m1,m2,m3,m4,m5⟩:=k1
   obtain ⟨T0,zs0,D,hT⟩:=LU m3
   obtain ⟨A0,cs0,V,S,Z,q4⟩:=t.boxes j0 T0 zs0 (hd j0 m1) (hdl j0 m1) D
   have hno:∀m,m<l.length→II C j0 m=true→L m=false:=fun m z x=>by
    rw [k2 j0 (by rw [r];rfl) m z x];exact hl
   obtain rfl:=q4.2 hno
   have hkv:=m5
   simp only [Qu,D] at J
   have J:=J A0 V S Z (t.vals k0 (hd k0 m2) (hdl k0 m2) hkv)
   refine fun a M K Q R=>J a M K Q fun v F ⟨g2,W⟩=>R v F ?_
   refine ⟨s,⟨t.below.grown W (AA t.below) (fun b e=>by cases e;exact S),fun j y f d=> ?_,fun j T p y f d=> ?_,fun a b T p U I A B M hb X Y h5 h6 la lb u=> ?_⟩,fun _ _=>rfl,fun h=>by rw [m4] at h;cases h⟩
   ·have e:i≠j:=fun e=>by subst e;rw [r] at d;cases d
    exact stabT _ _ _ _ A0 T0 _ (t.vals j ((CT.1 y).resolve_left e) f d) Z S hT W
   ·have e:i≠j:=fun e=>by subst e;rw [r] at d;cases d
    by_cases ej:j=j0
    ·subst ej
     rw [D] at d
     cases d
     refine ⟨A0,_,V,S,g2,⟨fun m z x hL=> ?_,fun h=> ?_⟩⟩
     ·rw [k2 j (by rw [r];rfl) m z x,r];rfl
     ·have:=h i hi (by simp [II,r,Kd.to])
      rw [CT.2 (.inl rfl)] at this;cases this
    ·obtain ⟨A,cs,r1,r2,r3,r4⟩:=t.boxes j T p ((CT.1 y).resolve_left e) f d
     have u:A≠A0:=t.apart j j0 T p T0 _ A A0 ((CT.1 y).resolve_left e) (hd j0 m1) d D r1 V f (hdl j0 m1) ej
     have c:=G undef j p cs (fun h=>by cases h;exact ej rfl) r4
     refine ⟨A,cs,r1,r2,r3.by W (fun e=>u (Option.some.inj e)),⟨fun m z x hL=> ?_,c.2⟩⟩
     have N:i≠m:=fun e=>by subst e;simp [II,r,Kd.to] at x;exact ej x.symm
     exact r4.1 m z x ((CT.1 hL).resolve_left N)
   ·have e1:i≠a:=fun e=>by subst e;rw [r] at X;cases X
    have e2:i≠b:=fun e=>by subst e;rw [r] at Y;cases Y
    exact t.apart a b T p U I A B ((CT.1 M).resolve_left e1) ((CT.1 hb).resolve_left e2) X Y h5 h6 la lb u
  |stc j0 c0=>
   rw [r] at J G k1
   obtain ⟨m1,m3,m4⟩:=k1
   obtain ⟨T0,zs0,D,hT⟩:=LU m3
   obtain ⟨A0,cs0,V,S,Z,q4⟩:=t.boxes j0 T0 zs0 (hd j0 m1) (hdl j0 m1) D
   have hno:∀m,m<l.length→II C j0 m=true→L m=false:=fun m z x=>by
    rw [k2 j0 (by rw [r];rfl) m z x];exact hl
   obtain rfl:=q4.2 hno
   simp only [Qu,D] at J
   have J:=J A0 V S Z
   refine fun a M K Q R=>J a M K Q fun v F ⟨g2,W⟩=>R v F ?_
   refine ⟨s,⟨t.below.grown W (AA t.below) (fun b e=>by cases e;exact S),fun j y f d=> ?_,fun j T p y f d=> ?_,fun a b T p U I A B M hb X Y h5 h6 la lb u=> ?_⟩,fun _ _=>rfl,fun h=>by rw [m4] at h;cases h⟩
   ·have e:i≠j:=fun e=>by subst e;rw [r] at d;cases d
    exact stabT _ _ _ _ A0 T0 _ (t.vals j ((CT.1 y).resolve_left e) f d) Z S hT W
   ·have e:i≠j:=fun e=>by subst e;rw [r] at d;cases d
    by_cases ej:j=j0
    ·subst ej
     rw [D] at d
     cases d
     refine ⟨A0,_,V,S,g2,⟨fun m z x hL=> ?_,fun h=> ?_⟩⟩
     ·rw [k2 j (by rw [r];rfl) m z x,r];rfl
     ·have:=h i hi (by simp [II,r,Kd.to])
      rw [CT.2 (.inl rfl)] at this;cases this
    ·obtain ⟨A,cs,r1,r2,r3,r4⟩:=t.boxes j T p ((CT.1 y).resolve_left e) f d
     have u:A≠A0:=t.apart j j0 T p T0 _ A A0 ((CT.1 y).resolve_left e) (hd j0 m1) d D r1 V f (hdl j0 m1) ej
     have c:=G undef j p cs (fun h=>by cases h;exact ej rfl) r4
     refine ⟨A,cs,r1,r2,r3.by W (fun e=>u (Option.some.inj e)),⟨fun m z x hL=> ?_,c.2⟩⟩
     have N:i≠m:=fun e=>by subst e;simp [II,r,Kd.to] at x;exact ej x.symm
     exact r4.1 m z x ((CT.1 hL).resolve_left N)
   ·have e1:i≠a:=fun e=>by subst e;rw [r] at X;cases X
    have e2:i≠b:=fun e=>by subst e;rw [r] at Y;cases Y
    exact t.apart a b T p U I A B ((CT.1 M).resolve_left e1) ((CT.1 hb).resolve_left e2) X Y h5 h6 la lb u
 ·obtain ⟨A,cs,V,S,Z,q4⟩:=t.boxes j T p (hall j y) y r
  exact ⟨A,cs,V,S,Z,⟨fun m z x _=>q4.1 m z x (hall m z),fun h=>q4.2 fun m z x=>by have:=h m z x;cases this⟩⟩
theorem NI {b:List Kd} {s:Nat→Value} {e d:World} {T:TypeId} {c:List Value} (a:∀j T c,j<l.length→DW b j= .alloc T c→∃A cs,s j=GB A∧e.heap.size≤A∧AO d A T cs∧OM b s (fun _=>true) l.length j c cs)
  (j i:Nat) (h:j<l.length) (f:DW b j= .alloc T c) (q:i<l.length) (m:II b j i=true):∃A,s j=GB A∧e.heap.size≤A∧AO d A T ((DW b i).cells s):=by
 obtain ⟨A,cs,k,p,o,g⟩:=a j T c h f
 obtain rfl:=g.1 i q m rfl
 exact ⟨A,k,p,o⟩
theorem Ow.alloc {d:Nat} {e ty:TypeId} {b:String} {i:Array Edge} {g:Option (Nat×Bool)} {f:List Value} {a:Nat} (j:HP P e f a):Ow P n E ⟨some d, .alloc e,ty,b,i,g⟩ w (fun v c=>v=GB w.heap.size∧AO c w.heap.size e f∧Below w.heap.size w c):=
 Ow.mk (Xw.new j) fun _ _ h=>⟨h.1,h.2.1,h.2.2.1⟩
end

section
variable {P : Program} {n : Nat} {E : CS} {w : World} {e ty t : TypeId} {x y z : Operand} {u v : Value}
theorem Lw.valU {Q:CH} {g b:List Oper} {d:String} {o:Array Edge} {f:Op} {R:Value→World→Prop} (h:Xw P n E f ty w R) (k:∀v c,R v c→Lw P g Q n b E c):Lw P g Q n (⟨none,f,ty,d,o,none⟩::b) E w:=
 fun a i=>wpList_plain rfl fun K m=>by
  obtain ⟨v,c,l,j⟩:=h a i
  unfold Oper.wp;rw [l];exact m _ _ (k v c j _ (i.put_none _))
theorem Gd {b k m cap:Nat} {T:TypeId} {f d:List Value} {j:Nat} {R:Value} (G:GM P t e 1) (N:HP P e [R] j) (Q:ev E x=some (.slice (some ⟨b,0,none⟩) k cap)) (K:ev E y=some u)
  (h:AO w b T f) (hc:f.length=cap) (r:Sl w 1 u m d) (p:d.all (·.oneCell')=true) (M:k+m≤cap):
  Xw P n E (.call {callee:= .builtin .append,args:= #[x,y],argTypes:= #[t,t]}) ty w (fun v' s=>v' = .slice (some ⟨b,0,none⟩) (k+m) cap∧AO s b T (GW f k d)∧w.grownBy s (some b)∧s.heap.size=w.heap.size):=fun a H=>by
 obtain ⟨i,F,l,Z,zv,V,W⟩:=N.i
 have l:i.size=1:=l
 obtain ⟨C,D,c,rfl,X,Y,L,U⟩:=r
 rw [Nat.mul_one] at C
 have g:=run_storeCells_at P b k T d 0 f.toArray w h (by simp;omega) (fun v S=>List.all_eq_true.1 p v S)
 simp only [Nat.add_zero] at g
 have o:(Builtin.append_ #[t,t] ty #[.slice (some ⟨b,0,none⟩) k cap, .slice D m c]).run P w= .ok (.slice (some ⟨b,0,none⟩) (k+m) cap) (w.setRow b (GW f k d).toArray):=by
  cases D with
  |none=>
   have I:=L rfl
   have A:m=0:=by omega
   subst A
   obtain rfl:d=[]:=eq_nil_of_length_eq_zero (by simpa using C)
   have B:k≤cap:=by omega
   simp [Builtin.append_,run_underlying G.u,sizeOf,typeInfo,F,l,Builtin.lenOf,B,Builtin.firstCells,Addr.add_lit,g,GW]
  |some ad=>
   have q:=run_firstCells_some (P:=P) w i.size m ad m c d (by rw [l,Nat.mul_one];exact C) (U ad rfl)
   rw [l] at q
   simp [Builtin.append_,run_underlying G.u,sizeOf,typeInfo,F,l,Builtin.lenOf,M,q,Addr.add_lit,g,GW]
 exact ⟨_,_,fun _ _ _ _=>by simp [execOp,resolve,invoke,builtin,H.ev Q,H.ev K,o],rfl,setRow_heap w b _ _ _ _ h,⟨rfl,rfl,rfl,by simp [World.setRow],fun k _ J=>setRow_other w b k _ (fun e=>J (by simp [e]))⟩,by simp [World.setRow]⟩
theorem Xw.clear {b o m c:Nat} {T:TypeId} {d:List Value} {g:Nat} {f:Value} (I:GM P t e 1) (J:HP P e [f] g) (A:f.oneCell' =true) (K:ev E x=some (.slice (some ⟨b,o,none⟩) (m+1) c)) (h:AO w b T d) (Q:o+(m+1)≤d.length):
  Xw P n E (.call {callee:= .builtin .clear,args:= #[x],argTypes:= #[t]}) ty w (fun _ s=>AO s b T (GW d o (replicate (m+1) f))∧w.grownBy s (some b)∧s.heap.size=w.heap.size):=fun a M=>by
 obtain ⟨i,G,C,R,zv,F,H⟩:=J.i
 have C:i.size=1:=C
 have p:zv.cells= #[f]:=H
 have B:∀q,Builtin.zeroCells zv.cells q=(replicate q f).toArray:=fun q=>by
  apply Array.ext
  ·simp [Builtin.zeroCells,p]
  ·intro j N S
   simp [Builtin.zeroCells,p,Nat.mod_one]
 have l:=run_storeCells_at P b o T (replicate (m+1) f) 0 d.toArray w h (by simp;omega) (fun v L=>by rw [(List.mem_replicate.1 L).2];exact A)
 simp only [Nat.add_zero,length_replicate] at l
 have e1:GW d o (replicate (m+1) f)=d.take o++replicate (m+1) f++d.drop (o+(m+1)):=by simp [GW]
 have r:(Builtin.clear_ #[t] ty #[.slice (some ⟨b,o,none⟩) (m+1) c]).run P w= .ok (.tuple #[]) (w.setRow b (GW d o (replicate (m+1) f)).toArray):=by
  rw [e1]
  simp [Builtin.clear_,run_underlying I.u,zeroValue,typeInfo,G,F,B,l]
 refine ⟨.tuple #[],_,fun _ _ _ _=>by simp [execOp,resolve,invoke,builtin,M.ev K,r],setRow_heap w b _ _ _ _ h,⟨rfl,rfl,rfl,by simp [World.setRow],fun k _ D=>setRow_other w b k _ (fun e=>D (by simp [e]))⟩,by simp [World.setRow]⟩
theorem Xw.cut3 {b c cap i j q:Nat} {l r m:IntKind} {s o:Operand} (d:GM P t e 1) (C:ev E x=some (.slice (some ⟨b,0,none⟩) c cap)) (B:ev E y=some (.int l (i:Int))) (g:ev E s=some (.int r (j:Int))) (h:ev E o=some (.int m (q:Int))) (G:i≤j) (F:j≤q) (H:q≤cap):
  Xw P n E (.slice t x (some y) (some s) (some o)) ty w (fun _ A=>A=w):=fun a f=>by
 have k:P.underlying t=some (.slice (P.elem t)):=by rw [Program.elem,d.u]
 have D:P.elem t=e:=by rw [Program.elem,d.u]
 have p:=run_slice_lhm (P:=P) w t (some ⟨b,0,none⟩) c cap k l r m (i:Int) (j:Int) (q:Int) (by omega) (by omega) (by omega) (by omega)
 simp only [D,d.s w,Result.andThen_ok] at p
 exact ⟨_,_,fun _ _ _ _=>by simp [execOp,f.ev C,f.ev B,f.ev g,f.ev h,Instr.sliceAt,run_underlying d.u,p];rfl,rfl⟩
theorem Ex.cutLHc {b c cap i j:Nat} {l m:IntKind} {p:Operand} (d:GM P t e 1) (s:ev E x=some (.slice (some ⟨b,0,none⟩) c cap)) (r:ev E y=some (.int l (i:Int))) (k:ev E p=some (.int m (j:Int))) (B:i≤j) (A:j≤cap) (C:i<cap):
  Ex P n E (.slice t x (some y) (some p) none) ty w (.slice (some ⟨b,i,none⟩) (j - i) (cap - i)):=fun a g _ _ _ _=>by
 have h:P.underlying t=some (.slice (P.elem t)):=by rw [Program.elem,d.u]
 have q:P.elem t=e:=by rw [Program.elem,d.u]
 have o:=run_slice_lh (P:=P) w t (some ⟨b,0,none⟩) c cap h l m (i:Int) (j:Int) (by omega) (by omega) (by omega)
 simp only [Int.toNat_natCast,q,d.s w,Result.andThen_ok] at o
 have f:¬cap=i:=by omega
 simp [execOp,g.ev s,g.ev r,g.ev k,Instr.sliceAt,run_underlying d.u,o,sliced,f,add_lit]
end
end Go.Dd

namespace Go.Dd
open Go Go.RowKit
open List hiding get
section
variable {P : Program} {Q : CH} {n : Nat} {E : CS} {w : World} {ty t s e : TypeId} {x y : Operand} {a b : ByteArray} {u v z : Value}
theorem D9 {d:Func} {R:Value→World→Prop} {p q r:Nat} (i:d.results= #[.tmp p, .tmp q, .tmp r]) (f:get E p=some u) (g:get E q=some v) (j:get E r=some z) (h:R (.tuple #[u,v,z]) w):Pw n E (RV P d R .ret) w:=fun a c=>
 bodyPost_ret (v:= .tuple #[u,v,z]) (by rw [results_tmp3 i];simp [Array.getD_eq_getD_getElem?,c.has _ _ f,c.has _ _ g,c.has _ _ j]) c.dfr ⟨_,rfl,h⟩
end
end Go.Dd

namespace Go.Proofs.YtmipoeanpnnjoaaGreatDoor
open Go Go.Dd Go.RowKit List Go.Proofs.Tryz
set_option maxRecDepth 100000
theorem Su {l:List Int} {i:Nat} {n:Int} (h:i<l.length):Shapes.tim n (l.drop i)=(if l.getD i default<1∨64<l.getD i default then 0 else if 4096<n*l.getD i default then 0 else Shapes.tim (n*l.getD i default) (l.drop (i+1))):=by
 rw [drop_eq_getElem_cons h];simp [Shapes.tim,h]
theorem UK (v:Value) (l:List Int) (w:World) (o:BS (Value.int .i64) w v l):AM prog 241 [v] w (fun r f=>r= .int .i64 (Shapes.tim 1 l)∧Below w.heap.size w f):=by
 have p:=o.le
 refine Bb (n:=25) func241 O<|Af<|Ab O<|Bl<|Ab O<|Bh<|Ac O<|Aa (Au AC O ‹_›) O ?_
 refine Ac O<|Ak<|Ao ?_
 refine Bq (S:=(Nat×Int)) (fun s=>[(3, .int .i64 s.2),(6,v),(7, .int .i64 (l.length:Int)),(8, .int .i64 (s.1:Int))]) (fun s f=>s.1≤l.length∧(1≤s.2∧s.2≤4096)∧Shapes.tim s.2 (l.drop s.1)=Shapes.tim 1 l∧f=w) (fun s=>l.length - s.1) ((0,1)) ⟨rfl,rfl,rfl,rfl,trivial⟩ ?_ ?_
 ·exact ⟨by simp,by simp,by simp,rfl⟩
 rintro ⟨i,n⟩ t ⟨q,m,a,rfl⟩
 dsimp only at q m a ⊢
 refine Af<|B3 O<|Ak<|An<|Aq O ?_ ?_
 ·intro h
  have b:i<l.length:=by simp at h;omega
  rw [Su b] at a
  refine B0<|An<|Ao<|Af<|Aa (Ay AC O O ‹_› _ O (by omega)) O ?_
  refine Aa (Bj (AK _) O ‹_› (by omega)) O ?_
  refine Ab O<|Bh<|Ac O<|B3 O<|Ac O ?_
  generalize l.getD i default=x at a ⊢
  refine Cc 14 O ?_ ?_
  ·intro j
   have e:=AD j
   refine Ae (dj:=14) O O O O<|Ae (dj:=14) O O O O<|B4 O<|Ak<|Bz O<|Af<|Ab O<|Bu<|Bi<|Av<|Av<|Bi<|Av<|Ax O O ?_
   refine ⟨?_,Below.refl _ _⟩
   rw [← a,if_pos (.inl e)]
  intro j
  have e:=AB j
  refine Ag (dj:=14) O O<|Ac O<|Ag (dj:=14) O O<|Aa (Dr O O) O<|Cn O<|Ak<|Aq O ?_ ?_
  ·intro g
   have d:=AD g
   refine Af<|Ab O<|Bu<|Bi<|Av<|Av<|Bi<|Av<|Ax O O ?_
   refine ⟨?_,Below.refl _ _⟩
   rw [← a,if_pos (.inr d)]
  intro g
  have d:=AB g
  have u:n*1≤n*x∧n*x≤4096*64:=⟨Int.mul_le_mul_of_nonneg_left (by omega) (by omega),Int.mul_le_mul m.2 (by omega) (by omega) (by omega)⟩
  rw [if_neg (by omega)] at a
  refine Co<|Ac O<|Ac O<|Aa (C6 O O (by omega)) O<|Ab O<|Bl<|Ac O<|Aa (Dr O O) O<|Ak<|Aq O ?_ ?_
  ·intro k
   have c:=AD k
   refine Af<|Ab O<|Bc<|Bi<|Av<|Av<|Bi<|Av<|Ax O O ?_
   refine ⟨?_,Below.refl _ _⟩
   rw [← a,if_pos c]
  intro k
  have c:=AB k
  rw [if_neg c] at a
  refine Cp<|Bn<|Ch<|B7 O (by omega)<|Ac O<|Bf ?_
  exact Ap (Pw.next ((i+1,n*x)) ⟨rfl,rfl,rfl,rfl,trivial⟩ (⟨b,⟨by omega,by omega⟩,a,rfl⟩) (by simp only;omega))
 ·intro h
  have b:i=l.length:=by simp at h;omega
  subst b
  refine Bp<|Al<|Al<|Bd<|Cm<|Ac O<|Ab O<|Bc<|Ax O O ?_
  refine ⟨?_,Below.refl _ _⟩
  rw [← a,drop_length];rfl
theorem G5 (v:Value) (l:List Int) (w:World) (f:BS (Value.int .i64) w v l):AM prog 212 [v] w (fun r e=>r= .int .i64 (Shapes.size l)∧Below w.heap.size w e):=by
 refine Bb (n:=13) func212 O<|Af<|Ab O<|Bh<|Ac O<|Aa (Au AC O ‹_›) O ?_
 refine B3 O<|Ac O ?_
 refine Cc 6 O ?_ ?_
 ·intro c
  have d:=AD c
  exact Ae (dj:=6) rfl rfl rfl rfl<|Ae (dj:=6) rfl rfl rfl rfl<|Ae (dj:=6) rfl rfl rfl rfl<|B4 rfl<|Ak<|Bz rfl<|Af<|Ab rfl<|Bu<|Ax rfl rfl<|⟨by rw [Shapes.size,if_pos (by omega)],Below.refl _ _⟩
 intro c
 have d:=AB c
 refine Ag (dj:=6) O O<|Ac O<|Ag (dj:=6) O O<|Aa (Au AC O ‹_›) O ?_
 refine Ag (dj:=6) O O<|Aa (Dr O O) O<|Cn O<|Ak<|Aq O ?_ ?_
 ·intro b
  have a:=AD b
  exact Af<|Ab rfl<|Bu<|Ax rfl rfl<|⟨by rw [Shapes.size,if_pos (by omega)],Below.refl _ _⟩
 intro b
 have a:=AB b
 refine Co<|Ac O<|Aj O O (UK v l w f) ?_
 rintro _ h ⟨rfl,g⟩
 exact Ab rfl<|Bc<|Ax rfl rfl<|⟨by rw [Shapes.size,if_neg (by omega)],g⟩
theorem EL (v:Value) (l:List Int) (w:World) (b:BS (Value.int .i64) w v l):AM prog 133 [v] w (fun r a=>r= .bool (Shapes.ok l)∧Below w.heap.size w a):=by
 refine Bb (n:=6) func133 O<|Af<|Ab O<|Bl<|Ac O<|Aj O O (G5 v l w b) ?_
 rintro _ d ⟨rfl,c⟩
 exact Aa (Dr rfl rfl) rfl<|Ab rfl<|Bc<|Ax rfl rfl<|⟨rfl,c⟩
theorem KC (s:List Int) (v:Value) (f:FuncId) (q:List Value) (w:World) (I:Nat→World→Prop) (F:World→Prop) (hs:Shapes.ok s=true) (m:∀j a,I j a→BS (Value.int .i64) a v s) (i:I 0 w)
  (z:∀j a,j<s.length→I j a→AM prog f ([.int .i64 ((s.length - 1 - j:Nat):Int), .int .i64 (Shapes.prod (s.drop (s.length - j)))]++q) a (fun r g=>(r= .bool true∧I (j+1) g)∨(r= .bool false∧F g))):
  AM prog 256 [v, .func (.func f) #[] q.toArray] w (fun r a=>(r= .bool true∧I s.length a)∨(r= .bool false∧F a)):=by
 have B:=((Shapes.ok_iff s).1 hs).1
 have A:=m 0 w i
 refine Bb (n:=25) func256 O<|Af<|Ab O<|Bl<|Ab O<|Bh<|Ac O<|Aa (Au AC O ‹_›) O ?_
 refine Aa (Du O O (by omega)) O<|Ab O<|Ak<|Ao<|D5 5 (v' := .int .i64 (Shapes.prod (s.drop (s.length - 0)))) O (cngA (Value.int .i64) (by rw [Nat.sub_zero,drop_length];rfl))<|D5 6 (v' := .int .i64 ((s.length:Int) - 1 - ((0:Nat):Int))) O (cngA (Value.int .i64) (by omega)) ?_
 refine Bq (S:=Nat) (fun j=>[(0,v),(1, .func (.func f) #[] q.toArray),(5, .int .i64 (Shapes.prod (s.drop (s.length - j)))),(6, .int .i64 ((s.length:Int) - 1 - (j:Int)))]) (fun j a=>j≤s.length∧I j a) (fun j=>s.length - j) (0) ⟨rfl,rfl,rfl,rfl,trivial⟩ ?_ ?_
 ·exact ⟨by omega,i⟩
 rintro j o ⟨C,l⟩
 refine An<|Af<|Ac O<|Aa (Ds O O) O<|Ak<|Aq O ?_ ?_
 ·intro h
  have b:j<s.length:=by have:=AD h;omega
  have e:(s.length:Int) - 1 - (j:Int)=((s.length - 1 - j:Nat):Int):=by omega
  have e1:s.length - 1 - j+1=s.length - j:=by omega
  have e2:s.length - (j+1)=s.length - 1 - j:=by omega
  rw [e]
  refine B0<|An<|Ao<|An<|Af<|Ac O<|Ac O<|Ac O<|Ec (p:=[]) O O O (z j o b l) ?_
  rintro _ D (⟨rfl,d⟩|⟨rfl,u⟩)
  ·refine Aa (Ck O) O<|Ak ?_
   have t:=m _ _ d
   have y:=Shapes.ok_prod hs (s.length - (j+1))
   rw [e2,Shapes.prod_drop (k:=s.length - 1 - j) (by omega),e1] at y
   have c:Shapes.prod (s.drop (s.length - j))*s.getD (s.length - 1 - j) default=Shapes.prod (s.drop (s.length - (j+1))):=by
    rw [e2,Shapes.prod_drop (k:=s.length - 1 - j) (by omega),e1,Int.mul_comm]
   refine Ca O false (rfl)<|B0<|Bw<|Ac O<|Ac O<|Ac O<|Aa (Ay AC O O ‹_› _ O (by omega)) O ?_
   refine Aa (Bj (AK _) O ‹_› (by omega)) O ?_
   refine Aa (C6 O O (by rw [Int.mul_comm];omega)) O<|Ab O<|Bf<|Bn<|Ch<|Ac O<|Aa (Du O O (by omega)) O<|Ab O<|Bf ?_
   exact Ap (Pw.next (j+1) ⟨rfl,rfl,cngA (fun x=>some (Value.int .i64 x)) c,cngA (fun x=>some (Value.int .i64 x)) (show ((s.length - 1 - j:Nat):Int) - 1=(s.length:Int) - 1 - ((j+1:Nat):Int) by omega),trivial⟩ (⟨b,d⟩) (by omega))
  ·exact Aa (Ck rfl) rfl<|Ak<|Ca rfl true (rfl)<|Af<|Ab rfl<|Bu<|Bi<|Av<|Av<|Bi<|Av<|Ax rfl rfl<| .inr ⟨rfl,u⟩
 ·intro h
  have b:j=s.length:=by have:=AB h;omega
  subst b
  exact Bp<|Al<|Al<|Bd<|Cm<|Ab rfl<|Bc<|Ax rfl rfl<| .inl ⟨rfl,l⟩
structure XP (B:Nat) (W:World) (s t:List Int) (u v:Value) (pn pt ps:Nat) (j:Nat) (w:World):Prop where
 low:Below B W w
 hn:AO w pn 3 [.int .i64 (Shapes.idx (s.drop (s.length - j)) (t.drop (s.length - j)))]
 ht:AO w pt 23 [v]
 hs:AO w ps 23 [u]
 hin:Shapes.inn (s.drop (s.length - j)) (t.drop (s.length - j))=true
theorem PL (s t:List Int) (u v:Value) (W:World) (f i ps j:Nat) (w:World) (hs:Shapes.ok s=true) (H:t.length=s.length) (Z:j<s.length) (J:BS (Value.int .i64) W u s) (K:BS (Value.int .i64) W v t) (M:W.heap.size≤f) (A:i≠f) (m:ps≠f) (I:XP W.heap.size W s t u v f i ps j w):
  AM prog 258 [.int .i64 ((s.length - 1 - j:Nat):Int), .int .i64 (Shapes.prod (s.drop (s.length - j))), .pointer (some ⟨f,0,none⟩), .pointer (some ⟨i,0,none⟩), .pointer (some ⟨ps,0,none⟩)] w
   (fun r F=>(r= .bool true∧XP W.heap.size W s t u v f i ps (j+1) F)∨(r= .bool false∧(Below W.heap.size W F∧Shapes.inn s t=false))):=by
 obtain ⟨k,Q⟩:∃k,k=s.length - 1 - j:=⟨_,rfl⟩
 have c:k<s.length:=by omega
 have U:k<t.length:=by omega
 have e1:s.length - j=k+1:=by omega
 have e2:s.length - (j+1)=k:=by omega
 obtain ⟨l,G,C,x,y⟩:=I
 rw [e1] at G y ⊢
 rw [← Q]
 have o:=J.bs l
 have p:=K.bs l
 refine Bb (n:=32) func258 O<|Af<|Ab O<|Ak<|An<|Cw.tail 8 AS (by kernel_rfl)<|Ad (fun b a=>Ah (AK _) O (AO.bs ‹_› a) O) O ?_
 refine Ad (fun b a=>Ah (AF _) O (AO.bs ‹_› a) O) O ?_
 refine Bg O<|Ad (fun b a=>Ay AC O O (Sl.bs ‹_› a) _ O (by omega)) O ?_
 refine Ad (fun b a=>Bj (AK _) O (Sl.bs ‹_› a) (by omega)) O ?_
 refine Bg O<|Ad (fun b a=>Gh O O) O<|Ad (fun b a=>Ex.add O O) O ?_
 refine Dc (fun b a=> ?_)
 refine Az (Dj (BA _) O O O (G.bs a) (by simp)) ?_
 rintro X ⟨E,q,V⟩
 have g:=bt l a
 have e:Below W.heap.size W X:=g.grown q (AA g) (by rintro _ ⟨⟩;exact M)
 have C:=(C.bs a).by q (by simpa using A)
 have x:=(x.bs a).by q (by simpa using m)
 have N:=J.bs e
 have R:=K.bs e
 clear l o p
 refine Ak<|An<|Cv AS (by kernel_rfl)<|Ad (fun b a=>Ah (AF _) O (AO.bs ‹_› a) O) O ?_
 refine Bg O<|Ad (fun b a=>Ay AC O O (Sl.bs ‹_› a) _ O (by omega)) O ?_
 refine Ad (fun b a=>Bj (AK _) O (Sl.bs ‹_› a) (by omega)) O ?_
 refine Ad (fun b a=>Ds O O) O<|Bg O ?_
 refine Dm 21 O ?_ ?_
 ·intro B
  have d:=AD B
  refine Ba (dj:=21) O O<|Ad (fun b a=>Ah (AF _) O (AO.bs ‹_› a) O) O ?_
  refine Ba (dj:=21) O O<|Bg O<|Ba (dj:=21) O O<|Ad (fun b a=>Ay AC O O (Sl.bs ‹_› a) _ O (by omega)) O ?_
  refine Ba (dj:=21) O O<|Ad (fun b a=>Bj (AK _) O (Sl.bs ‹_› a) (by omega)) O ?_
  refine Ba (dj:=21) O O<|Ad (fun b a=>Ah (AF _) O (AO.bs ‹_› a) O) O ?_
  refine Ba (dj:=21) O O<|Bg O<|Ba (dj:=21) O O<|Ad (fun b a=>Ay AC O O (Sl.bs ‹_› a) _ O (by omega)) O ?_
  refine Ba (dj:=21) O O<|Ad (fun b a=>Bj (AK _) O (Sl.bs ‹_› a) (by omega)) O ?_
  refine Ba (dj:=21) O O<|Ad (fun b a=>Eh O O) O<|Ad (fun b a=>Ct O O) O<|Dk O ?_
  refine Cr (fun L a=> ?_)
  refine Ap<|B8<|Df<|Ax O O ?_
  have h:=bt e a
  by_cases g2:t.getD k default<s.getD k default
  ·refine .inl ⟨cngA Value.bool (decide_eq_true g2),h, ?_,C.bs a,x.bs a, ?_⟩
   ·rw [e2,Shapes.idx_drop c H]
    have S:=Shapes.idx_lt (Shapes.good_drop ((Shapes.ok_iff s).1 hs).2.1 (k+1)) y
    have Y:=Shapes.ok_prod hs (k+1)
    have D:=Shapes.ok_prod hs k
    rw [Shapes.prod_drop c] at D
    have T:0≤t.getD k default*Shapes.prod (s.drop (k+1)):=Int.mul_nonneg d (by omega)
    have z:(t.getD k default+1)*Shapes.prod (s.drop (k+1))≤s.getD k default*Shapes.prod (s.drop (k+1)):=Int.mul_le_mul_of_nonneg_right (by omega) (by omega)
    rw [Int.add_mul] at z
    have:=E.bs a
    rw [IntWalk.i64_in (t.getD k default*_) (by omega),IntWalk.i64_in _ (by omega),Int.add_comm] at this
    exact this
   ·rw [e2,Shapes.inn_drop c H,y,decide_eq_true d,decide_eq_true g2];rfl
  ·refine .inr ⟨cngA Value.bool (decide_eq_false g2),h, ?_⟩
   cases hi:Shapes.inn s t with
   |false=>rfl
   |true=>exact absurd (Shapes.inn_at hi c).2 g2
 ·intro B
  have d:=AB B
  refine Ar (dj:=21) O O O O<|Ar (dj:=21) O O O O<|Ar (dj:=21) O O O O<|Ar (dj:=21) O O O O<|Ar (dj:=21) O O O O<|Ar (dj:=21) O O O O<|Ar (dj:=21) O O O O<|Ar (dj:=21) O O O O<|Ar (dj:=21) O O O O<|Ad (fun b a=>Cz O O) O<|Dk O ?_
  refine Cr (fun L a=> ?_)
  refine Ap<|B8<|Df<|Ax O O ?_
  refine .inr ⟨rfl,bt e a, ?_⟩
  cases hi:Shapes.inn s t with
  |false=>rfl
  |true=>exact absurd (Shapes.inn_at hi c).1 d
theorem V5 (s t:List Int) (u v:Value) (W:World) (m:BS (Value.int .i64) W u s) (B:BS (Value.int .i64) W v t):
  AM prog 247 [u,v] W (fun r k=>r= .tuple #[.int .i64 (Shapes.index s t).1, .int .i64 (Shapes.index s t).2]∧Below W.heap.size W k):=by
 refine Bb (n:=22) func247 O<|Af<|Bk (Xw.box O m.one) O ?_
 rintro _ F ⟨rfl,e,x,U⟩
 refine Bk (Xw.box O B.one) O ?_
 rintro _ N ⟨rfl,o,l,T⟩
 have e:=e.bs l
 have d:=bt x l
 have y:=m.bs d
 refine Ab O<|Ab O<|Bh<|Aa (Ah (AF _) O ‹_› rfl) O ?_
 refine Aj O O (EL u s N y) ?_
 rintro _ H ⟨rfl,c⟩
 have a:=bt d c
 have e:=e.bs c
 have o:=o.bs c
 have J:=m.bs a
 have K:=B.bs a
 refine Aa (Ck O) O<|Ac O ?_
 refine Cc 10 O ?_ ?_
 ·intro g
  have w:Shapes.ok s=false:=by simpa using g
  exact Ae (dj:=10) rfl rfl rfl rfl<|Ae (dj:=10) rfl rfl rfl rfl<|Ae (dj:=10) rfl rfl rfl rfl<|Ae (dj:=10) rfl rfl rfl rfl<|Ae (dj:=10) rfl rfl rfl rfl<|B4 rfl<|Ak<|Bz rfl<|Af<|Ab rfl<|Ab rfl<|Bu<|Bx rfl rfl rfl<|⟨by simp [Shapes.index,w],a⟩
 intro g
 have f:Shapes.ok s=true:=by simpa using g
 refine Ag (dj:=10) O O<|Aa (Ah (AF _) O ‹_› rfl) O ?_
 refine Ag (dj:=10) O O<|Aa (Au AC O ‹_›) O ?_
 refine Ag (dj:=10) O O<|Aa (Ah (AF _) O ‹_› rfl) O ?_
 refine Ag (dj:=10) O O<|Aa (Au AC O ‹_›) O ?_
 refine Ag (dj:=10) O O<|Aa (Cs O O) O<|Cn O<|Ak<|Aq O ?_ ?_
 ·intro z
  refine Af<|Ab O<|Ab O<|Bu<|Bx O O O ?_
  refine ⟨?_,a⟩
  have q:Shapes.inn s t=false:=by
   cases p:Shapes.inn s t with
   |false=>rfl
   |true=>have:=Shapes.inn_length p;simp at z;omega
  simp [Shapes.index,q]
 intro z
 have D:t.length=s.length:=by simp at z;omega
 refine Co<|Bk (Xw.new DI) O ?_
 rintro _ Q ⟨rfl,L,b,R⟩
 refine Az (Dj (BA _) O O O L (by simp)) ?_
 rintro E ⟨G,i,V⟩
 have X:=c.size
 have A:Below W.heap.size W E:=(bt a b).grown i (AA (bt a b)) (by rintro _ ⟨⟩;exact AA a)
 have e:=(e.bs b).by i (by simp;omega)
 have o:=(o.bs b).by i (by simp;omega)
 refine Bh<|Aa (Ah (AF _) O ‹_› rfl) O ?_
 refine Aa (Ef (vs:=[]) O O) O<|Aj O O (KC s u _ _ E (XP W.heap.size W s t u v H.heap.size F.heap.size W.heap.size) (fun k=>Below W.heap.size W k∧Shapes.inn s t=false) f (fun j k h=>m.bs h.low) ⟨A,by simpa [Shapes.idx] using G,o,e,by rw [Nat.sub_zero,drop_length,← D,drop_length];rfl⟩ (fun j k M I=>PL s t u v W _ _ _ j k f D M m B (AA a) (by omega) (by omega) I)) ?_
 rintro _ S (⟨rfl,I⟩|⟨rfl,C,q⟩)
 ·refine Aa (Ck O) O<|Ak<|Ca O false (rfl)<|Co<|Aa (Ah (AK _) O I.hn O) O<|Ab O<|Ab O<|Bc<|Bx O O O ?_
  have p:=I.hin
  have q:=I.hn
  rw [Nat.sub_self,drop_zero,drop_zero] at p
  refine ⟨?_,I.low⟩
  rw [Nat.sub_self,drop_zero,drop_zero]
  simp [Shapes.index,f,p]
 ·exact Aa (Ck rfl) rfl<|Ak<|Ca rfl true (rfl)<|Af<|Ab rfl<|Ab rfl<|Bu<|Bx rfl rfl rfl<|⟨by simp [Shapes.index,q],C⟩
structure Zj (W:World) (s:List Int) (u v:Value) (i:Int) (ba pi ps pa:Nat) (j:Nat) (w:World):Prop where
 low:Below W.heap.size W w
 hi:AO w pi 3 [.int .i64 i]
 hs:AO w ps 23 [u]
 ha:AO w pa 23 [v]
 ho:w.ownsRow ba 3 1 v s.length ((replicate (s.length - j) 0++(Shapes.place s i).drop (s.length - j)).map (Value.int .i64))
theorem VU (s:List Int) (u v:Value) (i:Int) (W:World) (z l ps o j:Nat) (w:World) (hs:Shapes.ok s=true) (E:0≤i∧i≤9223372036854775807) (X:j<s.length) (Q:BS (Value.int .i64) W u s)
  (t:W.heap.size≤z) (A:v.ownBlock≠some l) (p:v.ownBlock≠some ps) (x:v.ownBlock≠some o) (I:Zj W s u v i z l ps o j w):
  AM prog 257 [.int .i64 ((s.length - 1 - j:Nat):Int), .int .i64 (Shapes.prod (s.drop (s.length - j))), .pointer (some ⟨l,0,none⟩), .pointer (some ⟨ps,0,none⟩), .pointer (some ⟨o,0,none⟩)] w
   (fun r H=>(r= .bool true∧Zj W s u v i z l ps o (j+1) H)∨(r= .bool false∧False)):=by
 obtain ⟨k,M⟩:∃k,k=s.length - 1 - j:=⟨_,rfl⟩
 have c:k<s.length:=by omega
 have e1:s.length - j=k+1:=by omega
 have e2:s.length - (j+1)=k:=by omega
 obtain ⟨F,J,S,N,y⟩:=I
 rw [e1] at y ⊢
 rw [← M]
 have K:=Q.bs F
 have V:=Shapes.ok_prod hs (k+1)
 have C:=(AI y).shp
 have f:((replicate (k+1) 0++(Shapes.place s i).drop (k+1)).map (Value.int .i64)).length=s.length:=by simp [Shapes.place_length];omega
 have q:=(Shapes.ok_iff s).1 hs
 have G:1≤s.getD k default:=by
  have:=q.2.1 s[k] (getElem_mem c)
  simp [c];omega
 refine Bb (n:=19) func257 O<|Af<|Ab O<|Ak<|An<|Cw.tail 11 AS (by kernel_rfl)<|Ad (fun d a=>Ah (AF _) O (AO.bs ‹_› a) O) O ?_
 refine Bg O<|Ad (fun d a=>Ah (AK _) O (AO.bs ‹_› a) O) O ?_
 refine Bg O<|Ad (fun d a=>Dz O O (by omega) (by omega)) O<|Ad (fun d a=>Ah (AF _) O (AO.bs ‹_› a) O) O ?_
 refine Bg O<|Ad (fun d a=>Ay AC O O (Sl.bs ‹_› a) _ O (by omega)) O ?_
 refine Ad (fun d a=>Bj (AK _) O (Sl.bs ‹_› a) (by omega)) O ?_
 refine Ad (fun d a=>El O O (Int.ediv_nonneg E.1 (by omega)) (by omega)) O<|Ad (fun d a=>Dn AC O O C k O c) O ?_
 refine Dc (fun d a=> ?_)
 have g:=AL y a
 refine Az (D3 (BA _) O O O g (by rw [f];exact c)) ?_
 rintro U ⟨D,m,R⟩
 have e:=bt F a
 have B:Below W.heap.size W U:=e.grown m (AA e) (fun b L=>Nat.le_trans t (AG g b L).1)
 refine Bl<|Ab O<|Bc<|Ax O O ?_
 refine .inl ⟨rfl,B,(J.bs a).by m (Ne.symm A),(S.bs a).by m (Ne.symm p),(N.bs a).by m (Ne.symm x), ?_⟩
 have h:k<(Shapes.place s i).length:=by rw [Shapes.place_length];exact c
 have T:(replicate (k+1) 0++(Shapes.place s i).drop (k+1)).set k (i / Shapes.prod (s.drop (k+1)) % s.getD k default)=replicate k 0++(Shapes.place s i).drop k:=by
  rw [← Shapes.place_at c,drop_eq_getElem_cons h,replicate_succ',append_assoc,set_append_right _ _ (by simp)]
  simp [h]
 rw [e2,← T,map_set]
 exact D
def Mi (W w' :World) (x:Value) (l:List Int):Prop:=∃b,W.heap.size≤b∧w'.ownsRow b 3 1 x l.length (l.map (Value.int .i64))∧(x= .slice none 0 0∨x= .slice (some ⟨b,0,none⟩) l.length l.length)
theorem Mi.sl {W a:World} {x:Value} {l:List Int} (h:Mi W a x l):BS (Value.int .i64) a x l:=by
 obtain ⟨b,_,h,_⟩:=h
 exact AI h
theorem Fv (W a:World):Mi W a (.slice none 0 0) []:=⟨W.heap.size,AX _,World.ownsRow_nil _ _ _ _, .inl rfl⟩
theorem Ze (s:List Int) (u:Value) (i:Int) (W:World) (q:BS (Value.int .i64) W u s):
  AM prog 244 [u, .int .i64 i] W (fun r v=>∃x,r= .tuple #[x, .int .i64 (Shapes.ate s i)]∧Mi W v x (Shapes.atl s i)∧Below W.heap.size W v):=by
 have U:=Shapes.size_le s
 refine Bb (n:=22) func244 O<|Af<|Bk (Xw.box O q.one) O ?_
 rintro _ e ⟨rfl,b,C,s1⟩
 refine Bk (Xw.box O O) O ?_
 rintro _ w2 ⟨rfl,l,y,s2⟩
 have b:=b.bs y
 have c:=bt C y
 have E:=q.bs c
 refine Ab O<|Ab O<|Ak<|An<|An<|Cv AS (by kernel_rfl)<|Ad (fun e a=>Ah (AK _) O (AO.bs ‹_› a) O) O ?_
 refine Ad (fun e a=>Eh O O) O<|Bg O ?_
 refine Dm 9 O ?_ ?_
 ·intro g
  have S:=AD g
  refine Ar (dj:=9) O O O O<|Ar (dj:=9) O O O O<|Ar (dj:=9) O O O O<|Ar (dj:=9) O O O O<|Ad (fun e a=>Ct O O) O ?_
  refine Cr (fun D a=> ?_)
  refine Ap<|B8<|Bz O<|Af<|Ab O<|Ab O<|Bu<|Bx O O O ?_
  exact ⟨_,by rw [Shapes.ate,if_neg (by omega)],by rw [Shapes.atl,if_neg (by omega)];exact Fv _ _,bt c a⟩
 intro g
 have S:=AB g
 refine Ba (dj:=9) O O<|Ad (fun e a=>Ah (AK _) O (AO.bs ‹_› a) O) O ?_
 refine Ba (dj:=9) O O<|Ad (fun e a=>Ah (AF _) O (AO.bs ‹_› a) O) O ?_
 refine Ba (dj:=9) O O<|C3 O O (fun e a=>(G5 u s e (E.bs a)).q a)<|Ba (dj:=9) O O<|Ad (fun e a=>Ds O O) O<|Ad (fun e a=>Cz O O) O ?_
 refine Cr (fun D a=> ?_)
 refine Ap<|B8 ?_
 have m:=bt c a
 refine Aq O ?_ ?_
 ·intro F
  have H:=AD F
  refine Af<|Ab O<|Ab O<|Bu<|Bx O O O ?_
  exact ⟨_,by rw [Shapes.ate,if_neg (by omega)],by rw [Shapes.atl,if_neg (by omega)];exact Fv _ _,m⟩
 intro F
 have H:=AB F
 have p:Shapes.ok s=true:=decide_eq_true (by omega)
 have hle:=((Shapes.ok_iff s).1 p).1
 have b:=b.bs a
 have l:=l.bs a
 have R:=q.bs m
 refine Co<|Aa (Ah (AF _) O ‹_› rfl) O ?_
 refine Aa (Au AC O ‹_›) O ?_
 refine Bk (Ed AC DI O O O (AX _) (by omega) (by omega)) O ?_
 rintro x M ⟨w,z,f,s4⟩
 have b:=b.bs f
 have l:=l.bs f
 refine Bk (Xw.new HT) O ?_
 rintro _ w5 ⟨rfl,N,d,s5⟩
 have b:=b.bs d
 have l:=l.bs d
 have G:=AL w d
 refine Az (Dj (AN _) O O (AI w).one' N (by simp)) ?_
 rintro J ⟨Q,k,s6⟩
 have X:=m.size
 have V:=a.size
 have z5:=(bt f d).size
 have o:=bt m (bt f d)
 have B:Below W.heap.size W J:=o.grown k (AA o) (by rintro _ ⟨⟩;omega)
 have b:=b.by k (by simp;omega)
 have l:=l.by k (by simp;omega)
 have t:=G.kept k (.inr (by rw [z];simp [Value.ownBlock];omega))
 have A:(replicate s.length [Value.int .i64 0]).flatten=(replicate (s.length - 0) 0++(Shapes.place s i).drop (s.length - 0)).map (Value.int .i64):=by
  rw [Nat.sub_zero,drop_of_length_le (by rw [Shapes.place_length];exact AX _)]
  generalize s.length=n
  induction n with
  |zero=>rfl
  |succ n ih=>simp [replicate_succ]
 rw [A] at t
 have Y:=q.bs B
 refine Bl<|Aa (Ah (AF _) O ‹_› rfl) O ?_
 refine Aa (Ef (vs:=[]) O O) O<|Aj O O (KC s u _ _ J (Zj W s u x i D.heap.size e.heap.size W.heap.size M.heap.size) (fun _=>False) p (fun j v h=>q.bs h.low) ⟨B,l,b,Q,t⟩ (fun j v Z I=>VU s u x i W _ _ _ _ j v p (by omega) Z q (by omega) (by rw [z];simp [Value.ownBlock];omega) (by rw [z];simp [Value.ownBlock];omega) (by rw [z];simp [Value.ownBlock];omega) I)) ?_
 rintro _ w7 (⟨rfl,I⟩|⟨rfl,T⟩)
 ·refine Bl<|Aa (Ah (AF _) O I.ha O) O<|Ab O<|Ab O<|Bc<|Bx O O O ?_
  have K:=I.ho
  rw [Nat.sub_self,drop_zero] at K
  have L:=Shapes.place_length s i
  refine ⟨_,by rw [Shapes.ate,if_pos (by omega)], ?_,I.low⟩
  rw [Shapes.atl,if_pos (by omega)]
  refine ⟨D.heap.size,X, ?_, .inr (by rw [z,L])⟩
  rw [L];exact K
 ·exact T.elim

def tok (s:List Int) (l:List (BitVec 32)):Bool:=Shapes.ok s && decide ((l.length:Int)=Shapes.size s)
theorem Hs (a b:Value) (c:a.cells=[a].toArray) (g:b.cells=[b].toArray):Tryz.prog.built 33 [(0,a),(1,b)]=some [a,b].toArray:=by
 have e:Tryz.prog.info? 33=some Tryz.t33:=rfl
 have d:Tryz.prog.info? 23=some Tryz.t23:=rfl
 have f:Tryz.prog.info? 31=some Tryz.t31:=rfl
 simp [Program.built,e,underlying33,d,f,Instr.fill,c,g]
 rfl
theorem DS (x y:Value) (s:List Int) (l:List (BitVec 32)) (w:World) (k:BS (Value.int .i64) w x s) (h:BS i32 w y l):
  AM prog 189 [.agg #[x,y]] w (fun r f=>r= .bool (tok s l)∧Below w.heap.size w f):=by
 refine Bb (n:=15) func189 O<|Af<|Bk (Xw.box (cs:=[x,y]) O O) O ?_
 rintro _ b ⟨rfl,m,c,e⟩
 have d:=k.bs c
 have i:=h.bs c
 refine Ab O<|Ak<|An<|Cv AS (by kernel_rfl)<|Ad (fun b a=>Cd underlying33 O (AN _)) O<|Ad (fun b a=>Ah (AF _) O (AO.bs ‹_› a) O) O ?_
 refine C3 O O (fun b a=>(EL x s b (d.bs a)).q a)<|Bg O ?_
 refine Dm 6 O ?_ ?_
 ·intro g
  refine Ba (dj:=6) O O<|Ad (fun b a=>Cd underlying33 O (BC _)) O<|Ba (dj:=6) O O<|Ad (fun b a=>Ah (BG _) O (AO.bs ‹_› a) O) O ?_
  refine Ba (dj:=6) O O<|Ad (fun b a=>Au AU O (Sl.bs ‹_› a)) O ?_
  refine Ba (dj:=6) O O<|Ad (fun b a=>Cd underlying33 O (AN _)) O<|Ba (dj:=6) O O<|Ad (fun b a=>Ah (AF _) O (AO.bs ‹_› a) O) O ?_
  refine Ba (dj:=6) O O<|C3 O O (fun b a=>(G5 x s b (d.bs a)).q a)<|Ba (dj:=6) O O<|Ad (fun b a=>Da O O) O<|Ad (fun b a=>Ct O O) O<|Dk O ?_
  refine Cr (fun j a=> ?_)
  refine Ap<|B8<|Df<|Ax O O ?_
  exact ⟨cngA Value.bool (by unfold tok;rw [g];rfl),bt c a⟩
 ·intro g
  refine Ar (dj:=6) O O O O<|Ar (dj:=6) O O O O<|Ar (dj:=6) O O O O<|Ar (dj:=6) O O O O<|Ar (dj:=6) O O O O<|Ar (dj:=6) O O O O<|Ar (dj:=6) O O O O<|Ad (fun b a=>Cz O O) O<|Dk O ?_
  refine Cr (fun j a=> ?_)
  refine Ap<|B8<|Df<|Ax O O ?_
  exact ⟨cngA Value.bool (by unfold tok;rw [g];rfl),bt c a⟩
theorem EW (u v:Value) (a b:List Int) (w:World) (s:BS (Value.int .i64) w u a) (A:BS (Value.int .i64) w v b):AM prog 190 [u,v] w (fun r m=>r= .bool (decide (a=b))∧Below w.heap.size w m):=by
 have B:=s.le
 refine Bb (n:=26) func190 O<|Af<|Ab O<|Bh<|Ac O<|Aa (Au AC O ‹_›) O ?_
 refine Ac O<|Aa (Au AC O ‹_›) O ?_
 refine Aa (Cs O O) O<|Ak<|Aq O ?_ ?_
 ·intro h
  have o:a≠b:=fun e=>by subst e;simp at h
  exact Af<|Ab rfl<|Bu<|Ax rfl rfl<|⟨by rw [decide_eq_false o],Below.refl _ _⟩
 intro h
 have z:a.length=b.length:=by simp at h;omega
 refine B0<|An<|Af<|Ac O<|Aa (Au AC O ‹_›) O ?_
 refine Ac O<|Ak<|Ao ?_
 refine Bq (S:=Nat) (fun i=>[(0,u),(1,v),(12, .int .i64 (a.length:Int)),(13, .int .i64 (i:Int))]) (fun i m=>i≤a.length∧a.take i=b.take i∧Below w.heap.size w m) (fun i=>a.length - i) (0) ⟨rfl,rfl,rfl,rfl,trivial⟩ ?_ ?_
 ·exact ⟨by omega,by simp,Below.refl _ _⟩
 rintro i j ⟨C,p,f⟩
 have t:=s.bs f
 have x:=A.bs f
 refine Af<|B3 O<|Ak<|An<|Aq O ?_ ?_
 ·intro h
  have c:i<a.length:=by simp at h;omega
  have k:i<b.length:=by omega
  refine B0<|An<|Ao<|Af<|Ac O<|Ab O<|Ak<|An<|Cv AS (by kernel_rfl)<|Bg O<|Bg O<|Ad (fun j d=>Ay AC O O (Sl.bs ‹_› d) _ O (by omega)) O ?_
  refine Ad (fun j d=>Bj (AK _) O (Sl.bs ‹_› d) (by omega)) O ?_
  refine Bg O<|Bg O<|Ad (fun j d=>Ay AC O O (Sl.bs ‹_› d) _ O (by omega)) O ?_
  refine Ad (fun j d=>Bj (AK _) O (Sl.bs ‹_› d) (by omega)) O ?_
  refine Ad (fun j d=>Cs O O) O ?_
  refine Cr (fun D d=> ?_)
  refine Ap<|B8 ?_
  have l:=bt f d
  refine Aq O ?_ ?_
  ·intro g
   have q:a.getD i default≠b.getD i default:=by simpa using g
   exact Af<|Ab rfl<|Bc<|Bi<|Av<|Av<|Bi<|Av<|Ax rfl rfl<|⟨by rw [decide_eq_false (fun e=>q (by rw [e]))],l⟩
  ·intro g
   have q:a.getD i default=b.getD i default:=by simpa using g
   have y:a[i]=b[i]:=by simpa [c,k] using q
   refine Cp<|Bn<|Ch<|B7 O (by omega)<|Ac O<|Bf ?_
   exact Ap (Pw.next (i+1) ⟨rfl,rfl,rfl,rfl,trivial⟩ (⟨c,by rw [take_succ_eq_append_getElem c,take_succ_eq_append_getElem k,p,y],l⟩) (by omega))
 ·intro h
  have c:i=a.length:=by simp at h;omega
  subst c
  refine Bp<|Al<|Al<|Bd<|Cm<|Ab O<|Bc<|Ax O O ?_
  exact ⟨by rw [decide_eq_true (by rw [take_length,z,take_length] at p;exact p)],f⟩
def Zg (W:World) (v:Value):Prop:=∀b,v.ownBlock=some b→W.heap.size≤b
theorem Hl (u:Value) (a:List Int) (w:World) (g:BS (Value.int .i64) w u a) (q:a.length≤4194304):AM prog 191 [u] w (fun r i=>i.ownsRow w.heap.size 3 1 r a.length (a.map (Value.int .i64))∧Below w.heap.size w i):=by
 obtain ⟨o,d,cap,rfl,m,k,j,l⟩:=g
 have g:BS (Value.int .i64) w (.slice d a.length cap) a:=⟨o,d,cap,rfl,m,k,j,l⟩
 refine Bb (n:=8) func191 O<|Af<|Ab O<|Bh<|Ac O<|Aa (Ex.nilS Q2 O O) O<|Ak<|Aq O ?_ ?_
 ·intro h
  obtain rfl:d=none:=by cases d<;>simp_all
  obtain rfl:a=[]:=eq_nil_of_length_eq_zero (by have:=j rfl;omega)
  exact Af<|Ab rfl<|Bu<|Ax rfl rfl<|⟨⟨rfl, .inl ⟨rfl,rfl⟩⟩,Below.refl _ _⟩
 intro h
 refine Co<|Bk (Dl (vs:=[]) AC DI O O O O O) O ?_
 rintro s p ⟨e, -,b, -⟩
 refine Ac O<|Bk (Dp (base:=w.heap.size) AC DI O (by decide) O O e (g.bs b) (DE (fun _=>rfl) _) (by omega) (by omega) b.size) O ?_
 rintro t v ⟨c,f, -⟩
 rw [Nat.zero_add,nil_append] at c
 exact Ab rfl<|Bc<|Ax rfl rfl<|⟨c,b.trans f⟩
theorem Md (u:Value) (a:List Int) (w:World) (c:BS (Value.int .i64) w u a):AM prog 188 [u] w (fun r b=>r=clip u∧Below w.heap.size w b):=by
 refine Bb (n:=9) func188 O<|Af<|Ab O<|Bl<|Ac O<|Ac O<|Aa (Au AC O ‹_›) O ?_
 refine Ac O<|Aa (Au AC O ‹_›) O ?_
 exact Aa (Fm AC rfl rfl rfl c.shp) rfl<|Ab rfl<|Bc<|Ax rfl rfl<|⟨rfl,Below.refl _ _⟩
structure DA (W w:World) (x y:Value) (s:List Int) (l:List (BitVec 32)):Prop where
 row:BM w W.heap.size 3 1 x s.length (s.map (Value.int .i64))
 own:w.ownsRow W.heap.size 21 1 y l.length (l.map i32)
 apart:JX y x
theorem DA.sh {W w:World} {x y:Value} {s:List Int} {l:List (BitVec 32)} (h:DA W w x y s l):BS (Value.int .i64) w x s:=h.row.slT
theorem DA.fresh {W w:World} {x y:Value} {s:List Int} {l:List (BitVec 32)} (h:DA W w x y s l):Zg W x:=fun b e=>(h.row.lt b e).1
theorem DA.bs {W w a:World} {x y:Value} {s:List Int} {l:List (BitVec 32)} (h:DA W w x y s l) (b:Below w.heap.size w a):DA W a x y s l:=⟨h.row.bs b,AL h.own b,h.apart⟩
theorem Ot (u:Value) (s:List Int) (w:World) (R:BS (Value.int .i64) w u s):
  AM prog 204 [u] w (fun r S=>Below w.heap.size w S∧((Shapes.ok s=true∧∃x y,r= .tuple #[.agg #[x,y], .int .i64 0]∧DA w S x y s (replicate (Shapes.size s).toNat 0#32))∨(Shapes.ok s=false∧r= .tuple #[.agg #[.slice none 0 0, .slice none 0 0], .int .i64 1]))):=by
 have hsz:=Shapes.size_le s
 refine Bb (n:=15) func204 O<|Af<|Bk (Xw.new AY) O ?_
 rintro _ W ⟨rfl,a,q,hs1⟩
 refine Ab O<|Bh<|Ac O<|Aj O O (EL u s W (R.bs q)) ?_
 rintro _ w2 ⟨rfl,m⟩
 have c:=bt q m
 have a:=a.bs m
 have J:=R.bs c
 refine Aa (Ck O) O<|Ak<|Aq O ?_ ?_
 ·intro h
  have G:Shapes.ok s=false:=by simpa using h
  refine Af<|C8 O<|Az (Bv (cs:=[.slice none 0 0, .slice none 0 0]) O O O O O a O) ?_
  rintro F ⟨i,K, -⟩
  have p:Below w.heap.size w F:=c.grown K (AA c) (by rintro _ ⟨⟩;exact AX _)
  refine Ab O<|Bu<|Bt O O O ‹_› underlying33 O O O ?_
  exact ⟨p, .inr ⟨G,rfl⟩⟩
 intro h
 have C:Shapes.ok s=true:=by simpa using h
 have V:=(Shapes.ok_iff s).1 C
 refine Co<|Ac O<|Aj O O (Hl u s w2 J (by omega)) ?_
 rintro j F ⟨B,i⟩
 have H:=AQ B
 have o:=BM.clip B
 have p:=bt c i
 have a:=a.bs i
 refine Aj O O (Md j s F H) ?_
 rintro _ X ⟨rfl,f⟩
 have v:=bt p f
 have a:=a.bs f
 refine Ac O<|Aj O O (G5 u s X (R.bs v)) ?_
 rintro _ w5 ⟨rfl,e⟩
 have z:=bt v e
 have a:=a.bs e
 refine C5 12 (v' := .int .i64 (((Shapes.size s).toNat:Nat):Int)) O (cngA (Value.int .i64) (by omega))<|Bk (Ed AU DY O O O (AX _) (by omega) (by omega)) O ?_
 rintro y w6 ⟨d,T,l, -⟩
 have E:=bt z l
 have a:=a.bs l
 have A:=(o.bs f).bs (bt e l)
 have t:=A.slT
 have z3:=(bt f e).size
 have L:JX y (clip j):=by
  intro b M I
  rw [T] at M
  cases M
  have U:w5.heap.size<F.heap.size:=(o.lt _ I).2
  omega
 refine Aa (C4 (vs:=[(0,clip j),(1,y)]) (cs:=[clip j,y]) O (Hs _ _ t.one (AI d).one)) O<|Az (Bv (cs:=[clip j,y]) O O O O (by simp [t.one',(AI d).one']) a O) ?_
 rintro Z ⟨hb7,k, -⟩
 have N:Below w.heap.size w Z:=E.grown k (AA E) (by rintro _ ⟨⟩;exact AX _)
 have z2:=c.size
 have z2' :=m.size
 have z5' :=i.size
 have z5:=z.size
 have D:(replicate (Shapes.size s).toNat [Value.int .i32 0]).flatten=(replicate (Shapes.size s).toNat 0#32).map i32:=by
  generalize (Shapes.size s).toNat=n
  induction n with
  |zero=>rfl
  |succ n ih=>simp [replicate_succ,i32]
 rw [D] at d
 refine Ab O<|Bc<|Bt O O O ‹_› underlying33 O O O ?_
 refine ⟨N, .inl ⟨C,clip j,y,rfl, ?_, ?_,L⟩⟩
 ·refine (A.by' k ?_).mono (by omega)
  cases hc:(clip j).ownBlock with
  |none=>exact .inl rfl
  |some b=>
   refine .inr fun h=> ?_
   have:=(o.lt b hc).1
   cases h
   omega
 ·have:=d.kept k (.inr (by rw [T];simp [Value.ownBlock];omega))
  rw [length_replicate]
  exact ⟨this.1,by
   rcases this.2 with h|⟨g,cap,Q,Y,M,I,U⟩
   ·exact .inl h
   ·exact .inr ⟨g,cap,Q,Y,by omega,I,U⟩⟩
structure T4 where
 x:Value
 y:Value
 s:List Int
 l:List (BitVec 32)
def T4.at (t:T4) (w:World):Prop:=BS (Value.int .i64) w t.x t.s∧BS i32 w t.y t.l
theorem T4.at.bs {t:T4} {w a:World} (h:t.at w) (b:Below w.heap.size w a):t.at a:=⟨h.1.bs b,h.2.bs b⟩
def T4.ok (t:T4):Bool:=tok t.s t.l
def T4.v (t:T4):Value:= .agg #[t.x,t.y]
def cellsOf:List T4→List Value
 |[]=>[]
 |t::ts=>t.x::t.y::cellsOf ts
theorem CW:∀{ts:List T4} {j:Nat} (h:j<ts.length),(cellsOf ts)[j*2]? =some ts[j].x∧(cellsOf ts)[j*2+1]? =some ts[j].y
 |t::ts,0,_=>by simp [cellsOf]
 |t::ts,j+1,h=>by
  have:=CW (ts:=ts) (j:=j) (by simpa using h)
  rw [Nat.succ_mul]
  simpa [cellsOf] using this
theorem T4.at.one {a:T4} {w:World} (h:a.at w):[a.x,a.y].all (·.oneCell')=true:=by simp [h.1.one',h.2.one']
abbrev FP (w:World) (lo hi A:Nat) (x y:Value) (s:List Int) (l:List (BitVec 32)):Prop:=JW w 33 3 21 lo hi A x y s l
theorem DA.one {W w:World} {x y:Value} {s:List Int} {l:List (BitVec 32)} (h:DA W w x y s l):[x,y].all (·.oneCell')=true:=by simp [h.sh.one',(AI h.own).one']
theorem ES {W w a:World} {A:Nat} {x y:Value} {s:List Int} {l:List (BitVec 32)} (h:DA W w x y s l) (j:A=w.heap.size) (f:AO a A 33 [x,y]) (d:Below w.heap.size w a) (k:a.heap.size=w.heap.size+1) (g:W.heap.size≤w.heap.size):FP a W.heap.size a.heap.size A x y s l:=by
 have c:=AG h.own
 refine ⟨f,h.row.bs d,⟨AL h.own d,fun b e=>by have:=c b e;omega⟩,by omega,fun b e=> ?_,fun e=>by have:=c _ e;omega,h.apart⟩
 have i:=h.row.lt b e
 omega
theorem JD {w:World} {a b A:Nat} {x y:Value} {s:List Int} {l:List (BitVec 32)} (h:FP w a b A x y s l):(T4.mk x y s l).at w:=⟨h.sh,h.sly⟩

def Ko (ts:List T4) (s0:List Int):Int:=if ts.all (·.ok) then (if ts.all (fun t=>decide (t.s=s0)) then 0 else 10) else 1
def I8 {α:Type} (enc:BitVec 32→α) (g:List α→BitVec 32) (ts:List T4) (n:Nat):List (BitVec 32):=(range n).map fun i=>g (ts.map fun t=>enc (t.l.getD i default))
theorem P3 (ts : List T4) (v : Value) (m : T4) (f : FuncId) (q : List Value) (g : List (BitVec 32) → BitVec 32) (W : World) (h0 : ts[0]? = some m) (hk : ts.length ≤ 1000) (hv : Sl W 2 v ts.length (cellsOf ts)) (J : ∀ t ∈ ts, t.at W)
    (hdo:∀(w:World) (u:Value) (xs:List (BitVec 32)),Below W.heap.size W w→BS i32 w u xs→xs.length=ts.length→AM prog f (u::q) w (fun r o=>r=i32 (g xs)∧Below w.heap.size w o)):
    AM prog 201 [.agg #[.func (.func f) #[] q.toArray],v] W (fun r o=>Below W.heap.size W o∧∃x y,r= .tuple #[.agg #[x,y], .int .i64 (Ko ts m.s)]∧(Ko ts m.s≠0→x= .slice none 0 0∧y= .slice none 0 0)∧(Ko ts m.s=0→DA W o x y m.s (I8 id g ts (Shapes.size m.s).toNat))):=by
  have V:0<ts.length:=by
    cases ts with
    |nil=>cases h0
    |cons=>simp
  have hvs:∃ad c k,v= .slice (some ad) c k:=by
    obtain ⟨_,ao,cap,rfl,h1,h2,h3,h4⟩:=hv
    cases ao with
    |none=>have:=h3 rfl;omega
    |some ad=>exact ⟨ad,_,_,rfl⟩
  refine Bb (n:=84) func201 O<|Af<|Bk (Xw.box (cs:=[.func (.func f) #[] q.toArray]) O O) O ?_
  rintro _ w1 ⟨rfl,hb2,hB1,hs1⟩
  refine Bk (Xw.new AY) O ?_
  rintro _ w2 ⟨rfl,hb4,hw2,hs2⟩
  have hB2:=bt hB1 hw2
  have hb2:=hb2.bs hw2
  refine Ab O<|Bh<|Ac O<|Aa (Au (sz:=2) AR O (hv.bs hB2)) O<|Ac O<|Ak<|Ao ?_
  refine Bq (S:=Nat) (fun i=>[(1,v),(2, .pointer (some ⟨W.heap.size,0,none⟩)),(4, .pointer (some ⟨w1.heap.size,0,none⟩)),(5, .int .i64 0),(16,v),(17, .int .i64 (ts.length:Int)),(18, .int .i64 (i:Int))]) (fun i o=>i≤ts.length∧(∀t ∈ ts.take i,t.ok=true)∧Below w2.heap.size w2 o) (fun i=>ts.length - i) (0) ⟨rfl,rfl,rfl,rfl,rfl,rfl,rfl,trivial⟩ ?_ ?_
  · exact ⟨by omega,by simp,Below.refl _ _⟩
  rintro i w3 ⟨hi,hall,hw3⟩
  have Z:=bt hB2 hw3
  refine Af<|B3 O<|Ak<|An<|Aq O ?_ ?_
  · intro h
    have a:i<ts.length:=by simp at h;omega
    obtain ⟨c1,c2⟩:=CW a
    have hv3:=hv.bs Z
    refine B0<|An<|Ao<|Af<|Aa (Ci AR O O hv3 i O a) O<|Aa (Cq (cs:=[ts[i].x,ts[i].y]) (AT _) (AP _) O hv3 O (by decide) (fun j hj=>by rcases (show j=0∨j=1 by omega) with rfl|rfl;exact ⟨_,rfl,c1⟩;exact ⟨_,rfl,c2⟩)) O<|Bk (Xw.new AY) O ?_
    rintro _ w4 ⟨rfl,hb7,Y,hs4⟩
    refine Az (Bv (cs:=[ts[i].x,ts[i].y]) O O O O (by have:=(J _ (getElem_mem a));simp [this.1.one',this.2.one']) hb7 O) ?_
    rintro w5 ⟨hb7,hg5,hs5⟩
    have I:Below w3.heap.size w3 w5:=Y.grown hg5 (AA Y) (by rintro _ ⟨⟩;exact AX _)
    have hB5:=bt Z I
    have hat:=(J _ (getElem_mem a)).bs hB5
    refine Bl<|Aa (B9 (AT _) (AP _) O O ‹_›) O ?_
    refine Aj O O (DS ts[i].x ts[i].y ts[i].s ts[i].l w5 hat.1 hat.2) ?_
    rintro _ w6 ⟨rfl,X⟩
    have hw6' :=bt hw3 (bt I X)
    refine Aa (Ck O) O<|Ak<|Aq O ?_ ?_
    · intro h
      have hno:ts[i].ok=false:=by simpa [T4.ok] using h
      have C:=hb4.bs hw6'
      refine Af<|C8 O<|Az (Bv (cs:=[.slice none 0 0, .slice none 0 0]) O O O O O C O) ?_
      rintro E ⟨hb7',hg7, -⟩
      have hB6:=bt hB2 hw6'
      have M:Below W.heap.size W E:=hB6.grown hg7 (AA hB6) (by rintro _ ⟨⟩;omega)
      have he:Ko ts m.s=1:=by
        unfold Ko
        rw [if_neg]
        intro ha
        rw [List.all_eq_true.1 ha _ (getElem_mem a)] at hno
        cases hno
      refine Ab O<|Bc<|Bi<|Av<|Av<|Bi<|Av<|Bt O O O ‹_› underlying33 O O O ?_
      exact ⟨M,_,_,by rw [he],fun _=>⟨rfl,rfl⟩,fun h=>by rw [he] at h;cases h⟩
    · intro h
      have hyes:ts[i].ok=true:=by simpa [T4.ok] using h
      have hall' :∀t ∈ ts.take (i+1),t.ok=true:=fun t ht=>by
        rw [take_succ_eq_append_getElem a] at ht
        rcases List.mem_append.1 ht with h|h
        · exact hall t h
        · rw [List.mem_singleton.1 h];exact hyes
      refine Cp<|Bn<|Ch<|B7 O (by omega)<|Ac O<|Bf ?_
      exact Ap (Pw.next (i+1) ⟨rfl,rfl,rfl,rfl,rfl,rfl,rfl,trivial⟩ (⟨a,hall',hw6'⟩) (by omega))
  intro h
  have a:i=ts.length:=by simp at h;omega
  subst a
  rw [take_length] at hall
  obtain ⟨c1,c2⟩:=CW V
  have h00:ts[0]=m:=by rw [getElem?_eq_getElem V] at h0;exact Option.some.inj h0
  rw [h00] at c1 c2
  have hm0:m ∈ ts:=h00 ▸ getElem_mem V
  have hv3:=hv.bs Z
  have ht0:=(J m hm0).bs Z
  have hok0:Shapes.ok m.s=true:=by
    have:=hall m hm0
    simp only [T4.ok,tok,Bool.and_eq_true] at this
    exact this.1
  have hsz:=Shapes.size_le m.s
  refine Bp<|Al<|Al<|Bd<|Cm<|Ac O<|Aa (Ci AR O O hv3 0 O V) O<|Aa (C2 underlying33 O (AN _) O hvs) O<|Aa (D1 (AF _) O hv3 c1) O<|Aj O O (Ot m.x m.s w3 ht0.1) ?_
  rintro r w4 ⟨Y,hcase⟩
  obtain ⟨x,y,rfl,hm⟩:∃x y,r= .tuple #[.agg #[x,y], .int .i64 0]∧DA w3 w4 x y m.s (replicate (Shapes.size m.s).toNat 0#32):=by
    rcases hcase with ⟨_,h⟩|⟨h,_⟩
    · exact h
    · rw [hok0] at h;cases h
  have hB4:=bt Z Y
  refine Ac O<|Aa (As (i:=0) O O) O<|Aa (As (i:=1) O O) O<|Bk (Xw.new AY) O ?_
  rintro _ w5 ⟨rfl,hb8,I,hs5⟩
  have hm5:=hm.bs I
  refine Az (Bv (cs:=[x,y]) O O O O (by simp [hm.sh.one',(AI hm.own).one']) hb8 O) ?_
  rintro w6 ⟨hb8,hg6,hs6⟩
  have X:Below w4.heap.size w4 w6:=I.grown hg6 (AA I) (by rintro _ ⟨⟩;exact AX _)
  have hm6:=hm.bs X
  have hB6:=bt hB4 X
  have hw26:Below w2.heap.size w2 w6:=bt hw3 (bt Y X)
  clear hm5 I hg6
  refine Ab O<|Bh<|Ac O<|Aa (Au (sz:=2) AR O (hv.bs hB6)) O<|Ac O<|Ak<|Ao ?_
  refine Bq (S:=Nat) (fun i=>[(1,v),(2, .pointer (some ⟨W.heap.size,0,none⟩)),(4, .pointer (some ⟨w1.heap.size,0,none⟩)),(5, .int .i64 0),(8, .pointer (some ⟨w4.heap.size,0,none⟩)),(35,v),(36, .int .i64 (ts.length:Int)),(37, .int .i64 (i:Int))]) (fun i o=>i≤ts.length∧(∀t ∈ ts.take i,t.s=m.s)∧Below w6.heap.size w6 o) (fun i=>ts.length - i) (0) ⟨rfl,rfl,rfl,rfl,rfl,rfl,rfl,rfl,trivial⟩ ?_ ?_
  · exact ⟨by omega,by simp,Below.refl _ _⟩
  rintro i E ⟨hi,B,Q⟩
  have M:=bt hB6 Q
  refine Af<|B3 O<|Ak<|An<|Aq O ?_ ?_
  · intro h
    have a:i<ts.length:=by simp at h;omega
    obtain ⟨c1,c2⟩:=CW a
    have hv7:=hv.bs M
    refine B0<|An<|Ao<|Af<|Aa (Ci AR O O hv7 i O a) O<|Aa (Cq (cs:=[ts[i].x,ts[i].y]) (AT _) (AP _) O hv7 O (by decide) (fun j hj=>by rcases (show j=0∨j=1 by omega) with rfl|rfl;exact ⟨_,rfl,c1⟩;exact ⟨_,rfl,c2⟩)) O<|Bk (Xw.new AY) O ?_
    rintro _ w8 ⟨rfl,hb11,hw8,hs8⟩
    refine Az (Bv (cs:=[ts[i].x,ts[i].y]) O O O O (by have:=(J _ (getElem_mem a));simp [this.1.one',this.2.one']) hb11 O) ?_
    rintro w9 ⟨hb11,hg9,hs9⟩
    have hw9:Below E.heap.size E w9:=hw8.grown hg9 (AA hw8) (by rintro _ ⟨⟩;exact AX _)
    have hB9:=bt M hw9
    have hw69:=bt Q hw9
    have hat:=(J _ (getElem_mem a)).bs hB9
    have hb8' :=hb8.bs hw69
    have hm9:=hm6.bs hw69
    refine Bl<|Be underlying33 O (AN _)<|Aa (Ah (AF _) O ‹_› rfl) O ?_
    refine Be underlying33 O (AN _)<|Aa (Ah (AF _) O ‹_› rfl) O ?_
    refine Aj O O (EW ts[i].x x ts[i].s m.s w9 hat.1 hm9.sh) ?_
    rintro _ w10 ⟨rfl,hw10⟩
    have hw6a:=bt hw69 hw10
    refine Aa (Ck O) O<|Ak<|Aq O ?_ ?_
    · intro h
      have hno:¬ts[i].s=m.s:=by simpa using h
      have C:=(hb4.bs hw26).bs hw6a
      have U:=bt hB6 hw6a
      refine Af<|C8 O<|Az (Bv (cs:=[.slice none 0 0, .slice none 0 0]) O O O O O C O) ?_
      rintro w11 ⟨C,hg11, -⟩
      have hB11:Below W.heap.size W w11:=U.grown hg11 (AA U) (by rintro _ ⟨⟩;omega)
      have he:Ko ts m.s=10:=by
        unfold Ko
        rw [if_pos (List.all_eq_true.2 hall),if_neg]
        intro ha
        exact hno (AD (List.all_eq_true.1 ha _ (getElem_mem a)))
      refine Ab O<|Bc<|Bi<|Av<|Av<|Bi<|Av<|Bt O O O ‹_› underlying33 O O O ?_
      exact ⟨hB11,_,_,by rw [he],fun _=>⟨rfl,rfl⟩,fun h=>by rw [he] at h;cases h⟩
    · intro h
      have hyes:ts[i].s=m.s:=by simpa using h
      have hsame' :∀t ∈ ts.take (i+1),t.s=m.s:=fun t ht=>by
        rw [take_succ_eq_append_getElem a] at ht
        rcases List.mem_append.1 ht with h|h
        · exact B t h
        · rw [List.mem_singleton.1 h];exact hyes
      refine Cp<|Bn<|Ch<|B7 O (by omega)<|Ac O<|Bf ?_
      exact Ap (Pw.next (i+1) ⟨rfl,rfl,rfl,rfl,rfl,rfl,rfl,rfl,trivial⟩ (⟨a,hsame',hw6a⟩) (by omega))
  intro h
  have a:i=ts.length:=by simp at h;omega
  subst a
  rw [take_length] at B
  have he:Ko ts m.s=0:=by
    unfold Ko
    rw [if_pos (List.all_eq_true.2 hall),if_pos (List.all_eq_true.2 fun t ht=>decide_eq_true (B t ht))]
  obtain ⟨N,hN⟩:∃N,N=(Shapes.size m.s).toNat:=⟨_,rfl⟩
  obtain ⟨K,hK⟩:∃K,K=ts.length:=⟨_,rfl⟩
  have hlen:∀t ∈ ts,t.l.length=N:=fun t ht=>by
    have:=hall t ht
    simp only [T4.ok,tok,Bool.and_eq_true,decide_eq_true_eq] at this
    rw [B t ht] at this
    omega
  have z3:=Z.size
  have z23:=hw3.size
  have z34:=Y.size
  have z67:=(bt X Q).size
  rw [← hN] at hm6 hm
  have hmA:=hm6.bs Q
  have F:∀b,y.ownBlock=some b→w3.heap.size≤b∧b<w4.heap.size:=AG hm.own
  have H:∀o,E.grownBy o y.ownBlock→Below W.heap.size W o∧AO o W.heap.size 216 [.func (.func f) #[] q.toArray]∧AO o w1.heap.size 33 [.slice none 0 0, .slice none 0 0]∧AO o w4.heap.size 33 [x,y]∧BM o w3.heap.size 3 1 x m.s.length (m.s.map (Value.int .i64)):=fun o hg=>
    ⟨M.grown hg (AA M) (fun b hb=>by have:=(F b hb).1;omega),
     ((hb2.bs hw26).bs Q).by hg (fun h=>by have:=(F _ h.symm).1;omega),
     ((hb4.bs hw26).bs Q).by hg (fun h=>by have:=(F _ h.symm).1;omega),
     (hb8.bs Q).by hg (fun h=>by have:=(F _ h.symm).2;omega),
     hmA.row.by' hg (by
      cases hx:x.ownBlock with
      |none=>exact .inl rfl
      |some b=>exact .inr fun h=>hmA.apart b h.symm hx)⟩
  have hownA:E.ownsRow w3.heap.size 21 1 y N ((I8 id g ts 0++replicate (N - 0) 0#32).map i32):=by
    have:=hmA.own
    rw [length_replicate] at this
    exact this
  rw [← hK]
  refine Bp<|Al<|Al<|Bd<|Cm<|Ac O<|Aa (Au (sz:=2) AR O (hv.bs M)) O<|Bk (Ed AU DY O O O (AX _) (by omega) (by omega)) O ?_
  rintro sv w8 ⟨ho8,hsv,hw8,hs8⟩
  have hg8:E.grownBy w8 y.ownBlock:=DQ hw8 _
  obtain ⟨f1,f2,f4,f8,fx⟩:=H w8 hg8
  have hy8:=AL hownA hw8
  have hyT:=AQ hy8
  refine Ab O<|Bh<|Be underlying33 O (BC _)<|Aa (Ah (BG _) O ‹_› rfl) O ?_
  refine Aa (Au AU O ‹_›) O ?_
  refine Ac O<|Ak<|Ao ?_
  have hlen0:(I8 id g ts 0++replicate (N - 0) 0#32).length=N:=by simp [I8]
  refine D5 54 (v' := .int .i64 (N:Int)) O (cngA (Value.int .i64) (by rw [hlen0])) ?_
  have hrep:∃d:List (BitVec 32),d.length=K∧w8.ownsRow E.heap.size 21 1 sv K (d.map i32):=by
    refine ⟨replicate K 0#32,by simp, ?_⟩
    have e:(replicate K [Value.int .i32 0]).flatten=(replicate K 0#32).map i32:=by
      clear ho8 hsv hk
      generalize K=K
      induction K with
      |zero=>rfl
      |succ n ih=>simp [replicate_succ,i32]
    rw [← e];rw [← hK] at ho8;exact ho8
  have hsvb:sv.ownBlock=some E.heap.size:=by rw [hsv];rfl
  refine Bq (S:=Nat) (fun i=>[(1,v),(2, .pointer (some ⟨W.heap.size,0,none⟩)),(4, .pointer (some ⟨w1.heap.size,0,none⟩)),(5, .int .i64 0),(8, .pointer (some ⟨w4.heap.size,0,none⟩)),(12,sv),(54, .int .i64 (N:Int)),(55, .int .i64 (i:Int))]) (fun i o=>i≤N∧E.grownBy o y.ownBlock∧o.ownsRow w3.heap.size 21 1 y N ((I8 id g ts i++replicate (N - i) 0#32).map i32)∧(∃d:List (BitVec 32),d.length=K∧o.ownsRow E.heap.size 21 1 sv K (d.map i32))) (fun i=>N - i) (0) ⟨rfl,rfl,rfl,rfl,rfl,rfl,rfl,rfl,trivial⟩ ?_ ?_
  · exact ⟨by omega,hg8,hy8,hrep⟩
  clear ho8 hy8 hyT hrep f1 f2 f4 f8 fx hw8
  rintro i w9 ⟨hi,hg9,hy9,rest9,hr9,hs9⟩
  obtain ⟨f1,f2,f4,f8,fx⟩:=H w9 hg9
  refine Af<|B3 O<|Ak<|An<|Aq O ?_ ?_
  · intro h
    have a:i<N:=by simp at h;omega
    refine B0<|An<|Ao<|Af<|Ac O<|Ab O<|Bh<|Ac O<|Aa (Au (sz:=2) AR O (hv.bs f1)) O<|Ac O<|Ak<|Ao<|D5 59 (v' := .int .i64 (K:Int)) O (by rw [hK]) ?_
    refine Bq (S:=Nat) (fun k=>[(1,v),(2, .pointer (some ⟨W.heap.size,0,none⟩)),(4, .pointer (some ⟨w1.heap.size,0,none⟩)),(5, .int .i64 0),(8, .pointer (some ⟨w4.heap.size,0,none⟩)),(12,sv),(13, .int .i64 (i:Int)),(54, .int .i64 (N:Int)),(55, .int .i64 (i:Int)),(58,v),(59, .int .i64 (K:Int)),(60, .int .i64 (k:Int))]) (fun k o=>k≤K∧E.grownBy o y.ownBlock∧o.ownsRow w3.heap.size 21 1 y N ((I8 id g ts i++replicate (N - i) 0#32).map i32)∧(∃d:List (BitVec 32),d.length=K∧d.take k=(ts.take k).map (fun t=>t.l.getD i default)∧o.ownsRow E.heap.size 21 1 sv K (d.map i32))) (fun k=>K - k) (0) ⟨rfl,rfl,rfl,rfl,rfl,rfl,rfl,rfl,rfl,rfl,rfl,rfl,trivial⟩ ?_ ?_
    · exact ⟨by omega,hg9,hy9,rest9,hr9,by simp,hs9⟩
    clear hr9 hs9 hy9 hg9 f1 f2 f4 f8 fx
    rintro k w10 ⟨hkK,s,A,l,hr10,ht10,R⟩
    obtain ⟨f1,f2,f4,f8,fx⟩:=H w10 s
    refine Af<|B3 O<|Ak<|An<|Aq O ?_ ?_
    · intro h
      have hk' :k<K:=by simp at h;omega
      have z:k<ts.length:=by omega
      obtain ⟨c1,c2⟩:=CW z
      have hv10:=hv.bs f1
      refine B0<|An<|Ao<|Af<|Ac O<|Aa (Ci AR O O hv10 k O z) O<|Aa (Cq (cs:=[ts[k].x,ts[k].y]) (AT _) (AP _) O hv10 O (by decide) (fun j hj=>by rcases (show j=0∨j=1 by omega) with rfl|rfl;exact ⟨_,rfl,c1⟩;exact ⟨_,rfl,c2⟩)) O<|Bk (Xw.new AY) O ?_
      rintro _ w11 ⟨rfl,hb15,hw11,hs11⟩
      refine Ab O<|Az (Bv (cs:=[ts[k].x,ts[k].y]) O O O O (by have:=(J _ (getElem_mem z));simp [this.1.one',this.2.one']) hb15 O) ?_
      rintro w12 ⟨hb15,T,hs12⟩
      have D:Below w10.heap.size w10 w12:=hw11.grown T (AA hw11) (by rintro _ ⟨⟩;exact AX _)
      have hB12:=bt f1 D
      have hat:=(J _ (getElem_mem z)).bs hB12
      have haty:=hat.2
      have hsT:=AQ (AL R D)
      have hly:ts[k].l.length=N:=hlen _ (getElem_mem z)
      refine Ak<|Bw<|Ac O<|Ac O<|Be underlying33 O (BC _)<|Aa (Ah (BG _) O ‹_› rfl) O ?_
      refine Ac O<|Aa (Ay AU O O ‹_› _ O (by omega)) O ?_
      refine Aa (Bj (CF _) O ‹_› (by omega)) O ?_
      refine Aa (Ay AU O O ‹_› _ O (by omega)) O ?_
      refine Az (D3 (ER _) O O O (AL R D) (by rw [length_map];omega)) ?_
      rintro w13 ⟨hs13,hg13, -⟩
      have G:E.grownBy w12 y.ownBlock:=Gq s (DQ D none) (by rintro _ ⟨⟩)
      have hg13' :E.grownBy w13 y.ownBlock:=Gq G hg13 (by rintro b hb;rw [hsvb] at hb;cases hb;exact AX _)
      have hy13:=(AL A D).kept hg13 (.inr fun h=>by rw [hsvb] at h;have:=(F _ h).2;omega)
      have hset:(l.set k (ts[k].l.getD i default)).take (k+1)=(ts.take (k+1)).map (fun t=>t.l.getD i default):=by
        rw [take_succ_eq_append_getElem z,map_append,← ht10,take_set,take_succ_eq_append_getElem (by omega),set_append_right _ _ (by simp;omega)]
        simp [Nat.min_eq_left (show k≤l.length by omega)]
      rw [← map_set] at hs13
      refine Bf<|Bn<|Ch<|B7 O (by omega)<|Ac O<|Bf ?_
      exact Ap (Pw.next (k+1) ⟨rfl,rfl,rfl,rfl,rfl,rfl,rfl,rfl,rfl,rfl,rfl,rfl,trivial⟩ (⟨hk',hg13',hy13,_,by simpa using hr10,hset,hs13⟩) (by omega))
    · intro h
      have hk' :k=ts.length:=by simp at h;omega
      rw [take_of_length_le (by omega),take_of_length_le (by omega)] at ht10
      have hsT:=AQ R
      have hyT:=AQ A
      have hyl:(I8 id g ts i++replicate (N - i) 0#32).length=N:=by simp [I8];omega
      refine Bp<|Al<|Al<|Bd<|Ap<|B8<|Cw.tail 8 AS (by kernel_rfl)<|Ad (fun w1 L=>Cd underlying33 O (BC _)) O<|Ad (fun w1 L=>Ah (BG _) O (AO.bs ‹_› L) O) O ?_
      refine Bg O<|Ad (fun w1 L=>Cd underlying216 O (WI _)) O<|Ad (fun w1 L=>Ah (XF _) O (AO.bs ‹_› L) O) O ?_
      refine Bg O<|E1 (p:=[]) O O O (fun w1 L=>(hdo w1 sv l (bt f1 L) (hsT.bs L) (by omega)).q L)<|Ad (fun w1 L=>Ay AU O O (Sl.bs ‹_› L) _ O (by omega)) O ?_
      refine Dc (fun w11 L=> ?_)
      refine Az (D3 (ER _) O O O (AL A L) (by rw [length_map];omega)) ?_
      rintro w12 ⟨hy12,T, -⟩
      have G:E.grownBy w12 y.ownBlock:=K9 (Gq s (DQ L none) (by rintro _ ⟨⟩)) T
      have hs12:=(AL R L).kept T (.inr fun h=>by rw [hsvb] at h;have:=(F _ h.symm).2;omega)
      have hset:(I8 id g ts i++replicate (N - i) 0#32).set i (g l)=I8 id g ts (i+1)++replicate (N - (i+1)) 0#32:=by
        have hl:(I8 id g ts i).length=i:=by simp [I8]
        rw [set_append_right _ _ (by omega),hl,Nat.sub_self,show N - i=(N - (i+1))+1 by omega,replicate_succ,set_cons_zero]
        rw [ht10]
        simp [I8,range_succ]
      rw [← map_set,hset] at hy12
      refine Bf<|Bn<|Ch<|B7 O (by omega)<|Ac O<|Bf ?_
      exact Ap (Pw.next (i+1) ⟨rfl,rfl,rfl,rfl,rfl,rfl,rfl,rfl,trivial⟩ (⟨a,G,hy12,l,hr10,hs12⟩) (by omega))
  · intro h
    have a:i=N:=by simp at h;omega
    subst a
    refine Bp<|Al<|Al<|Bd<|Cm<|Aa (B9 (AT _) (AP _) O O ‹_›) O ?_
    refine Az (Bv (cs:=[x,y]) O O O O (by simp [fx.sl.one',(AI hy9).one']) f4 O) ?_
    rintro w10 ⟨C,s, -⟩
    have U:Below W.heap.size W w10:=f1.grown s (AA f1) (by rintro _ ⟨⟩;omega)
    refine Ab O<|Bc<|Bt O O O ‹_› underlying33 O O O ?_
    refine ⟨U,x,y,by rw [he],fun h=>absurd he h,fun _=>⟨(fx.by' s ?_).mono z3, ?_,hmA.apart⟩⟩
    · cases hx:x.ownBlock with
      |none=>exact .inl rfl
      |some b=>
        refine .inr fun h=> ?_
        have:=hmA.fresh b hx
        cases h
        omega
    · have A:=BH (hy9.kept s (.inr fun h=>by have:=(F _ h).1;omega)) z3
      rw [Nat.sub_self,replicate_zero,append_nil] at A
      rw [← hN]
      have:(I8 id g ts i).length=i:=by simp [I8]
      rw [this]
      exact A
def Ri (W w:World) (r:Value) (e:Int) (s:List Int) (l:List (BitVec 32)):Prop:=
 ∃x y,r= .tuple #[.agg #[x,y], .int .i64 e]∧(e≠0→x= .slice none 0 0∧y= .slice none 0 0)∧(e=0→DA W w x y s l)
theorem Lh {W w:World} {x y:Value} {e:Int} {s:List Int} {l:List (BitVec 32)} (a:e≠0→x= .slice none 0 0∧y= .slice none 0 0) (b:e=0→DA W w x y s l):[x,y].all (·.oneCell')=true:=by
 by_cases he:e=0
 ·have:=b he
  simp [this.sh.one',(AI this.own).one']
 ·obtain ⟨rfl,rfl⟩:=a he;rfl
theorem DA.out {W a w f:World} {x y:Value} {s:List Int} {l:List (BitVec 32)} {b:Nat} (h:DA a w x y s l) (g:w.grownBy f (some b)) (i:b<a.heap.size) (d:W.heap.size≤a.heap.size):DA W f x y s l:=
  ⟨(h.row.by' g (by
    cases hx:x.ownBlock with
    |none=>exact .inl rfl
    |some c=>exact .inr fun e=>by have:=h.fresh c hx;cases e;omega)).mono d,
   BH (h.own.kept g (by
    cases hy:y.ownBlock with
    |none=>exact .inl rfl
    |some c=>exact .inr fun e=>by have:=(AG h.own c hy).1;cases e;omega)) d,
   h.apart⟩
def XH (l:List (BitVec 32)):BitVec 32:=l.getD 0 default+l.getD 1 default
def Xg (l:List (BitVec 32)):BitVec 32:=l.getD 0 default*l.getD 1 default
theorem XI (u:Value) (xs:List (BitVec 32)) (w:World) (c:BS i32 w u xs) (e:xs.length=2):AM prog 200 [u] w (fun r d=>r=i32 (XH xs)∧Below w.heap.size w d):=by
 refine Bb (n:=10) func200 O<|Af<|Aa (Cf (show _=some (i32 (0#32)) from rfl)) O<|Ak<|An<|Cv AS (by kernel_rfl)<|Bg O<|Ad (fun b a=>Dn AU O O c.shp 0 O (by omega)) O<|Ad (fun b a=>Bj (CF _) O (Sl.bs ‹_› a) (by omega)) O ?_
 refine Bg O<|Ad (fun b a=>Dn AU O O c.shp 1 O (by omega)) O<|Ad (fun b a=>Bj (CF _) O (Sl.bs ‹_› a) (by omega)) O ?_
 refine Ad (fun b a=>D7 O O) O<|Dk O ?_
 refine Cr (fun b a=> ?_)
 exact Ap<|B8<|Df<|Ax rfl rfl<|⟨rfl,a⟩
theorem YH (a b:T4) (W:World) (L:a.at W) (G:b.at W):
  AM prog 113 [a.v,b.v] W (fun r z=>Below W.heap.size W z∧Ri W z r (Ko [a,b] a.s) a.s (I8 id XH [a,b] (Shapes.size a.s).toNat)):=by
 refine Bb (n:=13) func113 O<|Af<|Bk (Xw.box (cs:=[a.x,a.y]) O O) O ?_
 rintro _ M ⟨rfl,m,o,S⟩
 refine Bk (Xw.box (cs:=[b.x,b.y]) O O) O ?_
 rintro _ V ⟨rfl,A,f,R⟩
 have j:=bt o f
 have m:=m.bs f
 refine Bk (Xw.new AY) O ?_
 rintro _ Q ⟨rfl,K,c,U⟩
 have q:=bt j c
 have m:=m.bs c
 have A:=A.bs c
 refine Ab O<|Bl<|Aa (C4 (vs:=[(0, .func (.func 200) #[] #[])]) (cs:=[.func (.func 200) #[] #[]]) O O) O<|Aa (B9 (AT _) (AP _) O O ‹_›) O ?_
 refine Aa (B9 (AT _) (AP _) O O ‹_›) O ?_
 refine Bk (Em (vs:=[(0,a.v),(1,b.v)]) (cs:=cellsOf [a,b]) AR AY O (by decide) (by decide) (by decide) (by kernel_rfl) O) O ?_
 rintro v E ⟨p, -,e,N⟩
 have d:=bt q e
 refine Aj O O (P3 [a,b] v a 200 [] XH E O (by simp) (AI p) (fun t B=>by simp at B;rcases B with rfl|rfl;exact L.bs d;exact G.bs d) (fun w u xs _ J I=>XI u xs w J I)) ?_
 rintro _ X ⟨l,x,y,rfl,C,D⟩
 have g:=bt d l
 have H:=(K.bs e).bs l
 refine Aa (As (i:=0) O O) O<|Aa (As (i:=1) O O) O<|Az (Bv (cs:=[x,y]) O O O O (Lh C D) H O) ?_
 rintro F ⟨T,k, -⟩
 have z2:=j.size
 have s:Below W.heap.size W F:=g.grown k (AA g) (by rintro _ ⟨⟩;exact z2)
 refine Ab O<|Bc<|Bt O O O ‹_› underlying33 O O O ?_
 exact ⟨s,x,y,rfl,C,fun h=>(D h).out k (by omega) (by omega)⟩
theorem Xh (u:Value) (xs:List (BitVec 32)) (w:World) (c:BS i32 w u xs) (e:xs.length=2):AM prog 202 [u] w (fun r d=>r=i32 (Xg xs)∧Below w.heap.size w d):=by
 refine Bb (n:=10) func202 O<|Af<|Aa (Cf (show _=some (i32 (0#32)) from rfl)) O<|Ak<|An<|Cv AS (by kernel_rfl)<|Bg O<|Ad (fun b a=>Dn AU O O c.shp 0 O (by omega)) O<|Ad (fun b a=>Bj (CF _) O (Sl.bs ‹_› a) (by omega)) O ?_
 refine Bg O<|Ad (fun b a=>Dn AU O O c.shp 1 O (by omega)) O<|Ad (fun b a=>Bj (CF _) O (Sl.bs ‹_› a) (by omega)) O ?_
 refine Ad (fun b a=>En O O) O<|Dk O ?_
 refine Cr (fun b a=> ?_)
 exact Ap<|B8<|Df<|Ax rfl rfl<|⟨rfl,a⟩
theorem Yu (a b:T4) (W:World) (L:a.at W) (G:b.at W):
  AM prog 114 [a.v,b.v] W (fun r z=>Below W.heap.size W z∧Ri W z r (Ko [a,b] a.s) a.s (I8 id Xg [a,b] (Shapes.size a.s).toNat)):=by
 refine Bb (n:=13) func114 O<|Af<|Bk (Xw.box (cs:=[a.x,a.y]) O O) O ?_
 rintro _ M ⟨rfl,m,o,S⟩
 refine Bk (Xw.box (cs:=[b.x,b.y]) O O) O ?_
 rintro _ V ⟨rfl,A,f,R⟩
 have j:=bt o f
 have m:=m.bs f
 refine Bk (Xw.new AY) O ?_
 rintro _ Q ⟨rfl,K,c,U⟩
 have q:=bt j c
 have m:=m.bs c
 have A:=A.bs c
 refine Ab O<|Bl<|Aa (C4 (vs:=[(0, .func (.func 202) #[] #[])]) (cs:=[.func (.func 202) #[] #[]]) O O) O<|Aa (B9 (AT _) (AP _) O O ‹_›) O ?_
 refine Aa (B9 (AT _) (AP _) O O ‹_›) O ?_
 refine Bk (Em (vs:=[(0,a.v),(1,b.v)]) (cs:=cellsOf [a,b]) AR AY O (by decide) (by decide) (by decide) (by kernel_rfl) O) O ?_
 rintro v E ⟨p, -,e,N⟩
 have d:=bt q e
 refine Aj O O (P3 [a,b] v a 202 [] Xg E O (by simp) (AI p) (fun t B=>by simp at B;rcases B with rfl|rfl;exact L.bs d;exact G.bs d) (fun w u xs _ J I=>Xh u xs w J I)) ?_
 rintro _ X ⟨l,x,y,rfl,C,D⟩
 have g:=bt d l
 have H:=(K.bs e).bs l
 refine Aa (As (i:=0) O O) O<|Aa (As (i:=1) O O) O<|Az (Bv (cs:=[x,y]) O O O O (Lh C D) H O) ?_
 rintro F ⟨T,k, -⟩
 have z2:=j.size
 have s:Below W.heap.size W F:=g.grown k (AA g) (by rintro _ ⟨⟩;exact z2)
 refine Ab O<|Bc<|Bt O O O ‹_› underlying33 O O O ?_
 exact ⟨s,x,y,rfl,C,fun h=>(D h).out k (by omega) (by omega)⟩

def Ik (x:BitVec 32):BitVec 32:=if 0<x.toInt then x else 0#32
theorem QH (x:BitVec 32):Value.int .i32 (if (0:Int)<x.toInt then x.toInt else 0)=i32 (Ik x):=by
 unfold Ik
 split<;>rfl
def Tf (l:List (BitVec 32)):BitVec 32:=Ik (l.getD 0 default)
theorem Vk (u:Value) (xs:List (BitVec 32)) (w:World) (b:BS i32 w u xs) (c:xs.length=1):AM prog 207 [u] w (fun r a=>r=i32 (Tf xs)∧Below w.heap.size w a):=by
 refine Bb (n:=7) func207 O<|Af<|Aa (Cf (show _=some (i32 (0#32)) from rfl)) O<|Bl<|Ac O<|Aa (Dn AU O O b.shp 0 O (by omega)) O<|Aa (Bj (CF _) O ‹_› (by omega)) O ?_
 exact Aa (Ex.as (E5 (m:=0) (q:=(xs.getD 0 default).toInt) rfl rfl) (QH _)) rfl<|Ab rfl<|Bc<|Ax rfl rfl<|⟨rfl,Below.refl _ _⟩
theorem WS (a:T4) (W:World) (G:a.at W):
  AM prog 118 [a.v] W (fun r o=>Below W.heap.size W o∧Ri W o r (Ko [a] a.s) a.s (I8 id Tf [a] (Shapes.size a.s).toNat)):=by
 refine Bb (n:=10) func118 O<|Af<|Bk (Xw.box (cs:=[a.x,a.y]) O O) O ?_
 rintro _ H ⟨rfl,s,b,K⟩
 refine Bk (Xw.new AY) O ?_
 rintro _ J ⟨rfl,F,d,M⟩
 have l:=bt b d
 have s:=s.bs d
 refine Ab O<|Bl<|Aa (C4 (vs:=[(0, .func (.func 207) #[] #[])]) (cs:=[.func (.func 207) #[] #[]]) O O) O<|Aa (B9 (AT _) (AP _) O O ‹_›) O ?_
 refine Bk (Em (vs:=[(0,a.v)]) (cs:=cellsOf [a]) AR AY O (by decide) (by decide) (by decide) (by kernel_rfl) O) O ?_
 rintro v A ⟨k, -,c,I⟩
 have e:=bt l c
 refine Aj O O (P3 [a] v a 207 [] Tf A O (by simp) (AI k) (fun t p=>by simp at p;subst p;exact G.bs e) (fun w u xs _ E D=>Vk u xs w E D)) ?_
 rintro _ N ⟨j,x,y,rfl,q,z⟩
 have f:=bt e j
 have C:=(F.bs c).bs j
 refine Aa (As (i:=0) O O) O<|Aa (As (i:=1) O O) O<|Az (Bv (cs:=[x,y]) O O O O (Lh q z) C O) ?_
 rintro B ⟨L,g, -⟩
 have z2:=b.size
 have m:Below W.heap.size W B:=f.grown g (AA f) (by rintro _ ⟨⟩;exact z2)
 refine Ab O<|Bc<|Bt O O O ‹_› underlying33 O O O ?_
 exact ⟨m,x,y,rfl,q,fun h=>(z h).out g (by omega) (by omega)⟩
theorem Xd (ts : List T4) (v : Value) (m : T4) (f : FuncId) (q : List Value) (g : List Int → Int) (W : World) (h0 : ts[0]? = some m) (hk : ts.length ≤ 1000) (hv : Sl W 2 v ts.length (cellsOf ts)) (L : ∀ t ∈ ts, t.at W)
    (hdo:∀(w:World) (u:Value) (xs:List Int),Below W.heap.size W w→BS (Value.int .i64) w u xs→(∃i:Nat,xs=ts.map fun t=>(t.l.getD i default).toInt)→AM prog f (u::q) w (fun r o=>r= .int .i64 (g xs)∧Below w.heap.size w o)):
    AM prog 210 [.agg #[.func (.func f) #[] q.toArray],v] W (fun r o=>Below W.heap.size W o∧∃x y,r= .tuple #[.agg #[x,y], .int .i64 (Ko ts m.s)]∧(Ko ts m.s≠0→x= .slice none 0 0∧y= .slice none 0 0)∧(Ko ts m.s=0→DA W o x y m.s (I8 BitVec.toInt (fun xs=>BitVec.ofInt 32 (g xs)) ts (Shapes.size m.s).toNat))):=by
  have V:0<ts.length:=by
    cases ts with
    |nil=>cases h0
    |cons=>simp
  have hvs:∃ad c k,v= .slice (some ad) c k:=by
    obtain ⟨_,ao,cap,rfl,h1,h2,h3,h4⟩:=hv
    cases ao with
    |none=>have:=h3 rfl;omega
    |some ad=>exact ⟨ad,_,_,rfl⟩
  refine Bb (n:=86) func210 O<|Af<|Bk (Xw.box (cs:=[.func (.func f) #[] q.toArray]) O O) O ?_
  rintro _ w1 ⟨rfl,hb2,hB1,hs1⟩
  refine Bk (Xw.new AY) O ?_
  rintro _ w2 ⟨rfl,hb4,hw2,hs2⟩
  have hB2:=bt hB1 hw2
  have hb2:=hb2.bs hw2
  refine Ab O<|Bh<|Ac O<|Aa (Au (sz:=2) AR O (hv.bs hB2)) O<|Ac O<|Ak<|Ao ?_
  refine Bq (S:=Nat) (fun i=>[(1,v),(2, .pointer (some ⟨W.heap.size,0,none⟩)),(4, .pointer (some ⟨w1.heap.size,0,none⟩)),(5, .int .i64 0),(16,v),(17, .int .i64 (ts.length:Int)),(18, .int .i64 (i:Int))]) (fun i o=>i≤ts.length∧(∀t ∈ ts.take i,t.ok=true)∧Below w2.heap.size w2 o) (fun i=>ts.length - i) (0) ⟨rfl,rfl,rfl,rfl,rfl,rfl,rfl,trivial⟩ ?_ ?_
  · exact ⟨by omega,by simp,Below.refl _ _⟩
  rintro i w3 ⟨hi,hall,hw3⟩
  have hB3:=bt hB2 hw3
  refine Af<|B3 O<|Ak<|An<|Aq O ?_ ?_
  · intro h
    have a:i<ts.length:=by simp at h;omega
    obtain ⟨c1,c2⟩:=CW a
    have hv3:=hv.bs hB3
    refine B0<|An<|Ao<|Af<|Aa (Ci AR O O hv3 i O a) O<|Aa (Cq (cs:=[ts[i].x,ts[i].y]) (AT _) (AP _) O hv3 O (by decide) (fun j hj=>by rcases (show j=0∨j=1 by omega) with rfl|rfl;exact ⟨_,rfl,c1⟩;exact ⟨_,rfl,c2⟩)) O<|Bk (Xw.new AY) O ?_
    rintro _ w4 ⟨rfl,hb7,Z,hs4⟩
    refine Az (Bv (cs:=[ts[i].x,ts[i].y]) O O O O (by have:=(L _ (getElem_mem a));simp [this.1.one',this.2.one']) hb7 O) ?_
    rintro w5 ⟨hb7,hg5,hs5⟩
    have J:Below w3.heap.size w3 w5:=Z.grown hg5 (AA Z) (by rintro _ ⟨⟩;exact AX _)
    have hB5:=bt hB3 J
    have hat:=(L _ (getElem_mem a)).bs hB5
    refine Bl<|Aa (B9 (AT _) (AP _) O O ‹_›) O ?_
    refine Aj O O (DS ts[i].x ts[i].y ts[i].s ts[i].l w5 hat.1 hat.2) ?_
    rintro _ w6 ⟨rfl,Y⟩
    have hw6' :=bt hw3 (bt J Y)
    refine Aa (Ck O) O<|Ak<|Aq O ?_ ?_
    · intro h
      have hno:ts[i].ok=false:=by simpa [T4.ok] using h
      have C:=hb4.bs hw6'
      refine Af<|C8 O<|Az (Bv (cs:=[.slice none 0 0, .slice none 0 0]) O O O O O C O) ?_
      rintro E ⟨hb7',hg7, -⟩
      have hB6:=bt hB2 hw6'
      have M:Below W.heap.size W E:=hB6.grown hg7 (AA hB6) (by rintro _ ⟨⟩;omega)
      have he:Ko ts m.s=1:=by
        unfold Ko
        rw [if_neg]
        intro ha
        rw [List.all_eq_true.1 ha _ (getElem_mem a)] at hno
        cases hno
      refine Ab O<|Bc<|Bi<|Av<|Av<|Bi<|Av<|Bt O O O ‹_› underlying33 O O O ?_
      exact ⟨M,_,_,by rw [he],fun _=>⟨rfl,rfl⟩,fun h=>by rw [he] at h;cases h⟩
    · intro h
      have hyes:ts[i].ok=true:=by simpa [T4.ok] using h
      have hall' :∀t ∈ ts.take (i+1),t.ok=true:=fun t ht=>by
        rw [take_succ_eq_append_getElem a] at ht
        rcases List.mem_append.1 ht with h|h
        · exact hall t h
        · rw [List.mem_singleton.1 h];exact hyes
      refine Cp<|Bn<|Ch<|B7 O (by omega)<|Ac O<|Bf ?_
      exact Ap (Pw.next (i+1) ⟨rfl,rfl,rfl,rfl,rfl,rfl,rfl,trivial⟩ (⟨a,hall',hw6'⟩) (by omega))
  intro h
  have a:i=ts.length:=by simp at h;omega
  subst a
  rw [take_length] at hall
  obtain ⟨c1,c2⟩:=CW V
  have h00:ts[0]=m:=by rw [getElem?_eq_getElem V] at h0;exact Option.some.inj h0
  rw [h00] at c1 c2
  have hm0:m ∈ ts:=h00 ▸ getElem_mem V
  have hv3:=hv.bs hB3
  have ht0:=(L m hm0).bs hB3
  have hok0:Shapes.ok m.s=true:=by
    have:=hall m hm0
    simp only [T4.ok,tok,Bool.and_eq_true] at this
    exact this.1
  have hsz:=Shapes.size_le m.s
  refine Bp<|Al<|Al<|Bd<|Cm<|Ac O<|Aa (Ci AR O O hv3 0 O V) O<|Aa (C2 underlying33 O (AN _) O hvs) O<|Aa (D1 (AF _) O hv3 c1) O<|Aj O O (Ot m.x m.s w3 ht0.1) ?_
  rintro r w4 ⟨Z,hcase⟩
  obtain ⟨x,y,rfl,hm⟩:∃x y,r= .tuple #[.agg #[x,y], .int .i64 0]∧DA w3 w4 x y m.s (replicate (Shapes.size m.s).toNat 0#32):=by
    rcases hcase with ⟨_,h⟩|⟨h,_⟩
    · exact h
    · rw [hok0] at h;cases h
  have hB4:=bt hB3 Z
  refine Ac O<|Aa (As (i:=0) O O) O<|Aa (As (i:=1) O O) O<|Bk (Xw.new AY) O ?_
  rintro _ w5 ⟨rfl,hb8,J,hs5⟩
  have hm5:=hm.bs J
  refine Az (Bv (cs:=[x,y]) O O O O (by simp [hm.sh.one',(AI hm.own).one']) hb8 O) ?_
  rintro w6 ⟨hb8,hg6,hs6⟩
  have Y:Below w4.heap.size w4 w6:=J.grown hg6 (AA J) (by rintro _ ⟨⟩;exact AX _)
  have hm6:=hm.bs Y
  have hB6:=bt hB4 Y
  have hw26:Below w2.heap.size w2 w6:=bt hw3 (bt Z Y)
  clear hm5 J hg6
  refine Ab O<|Bh<|Ac O<|Aa (Au (sz:=2) AR O (hv.bs hB6)) O<|Ac O<|Ak<|Ao ?_
  refine Bq (S:=Nat) (fun i=>[(1,v),(2, .pointer (some ⟨W.heap.size,0,none⟩)),(4, .pointer (some ⟨w1.heap.size,0,none⟩)),(5, .int .i64 0),(8, .pointer (some ⟨w4.heap.size,0,none⟩)),(35,v),(36, .int .i64 (ts.length:Int)),(37, .int .i64 (i:Int))]) (fun i o=>i≤ts.length∧(∀t ∈ ts.take i,t.s=m.s)∧Below w6.heap.size w6 o) (fun i=>ts.length - i) (0) ⟨rfl,rfl,rfl,rfl,rfl,rfl,rfl,rfl,trivial⟩ ?_ ?_
  · exact ⟨by omega,by simp,Below.refl _ _⟩
  rintro i E ⟨hi,B,Q⟩
  have M:=bt hB6 Q
  refine Af<|B3 O<|Ak<|An<|Aq O ?_ ?_
  · intro h
    have a:i<ts.length:=by simp at h;omega
    obtain ⟨c1,c2⟩:=CW a
    have hv7:=hv.bs M
    refine B0<|An<|Ao<|Af<|Aa (Ci AR O O hv7 i O a) O<|Aa (Cq (cs:=[ts[i].x,ts[i].y]) (AT _) (AP _) O hv7 O (by decide) (fun j hj=>by rcases (show j=0∨j=1 by omega) with rfl|rfl;exact ⟨_,rfl,c1⟩;exact ⟨_,rfl,c2⟩)) O<|Bk (Xw.new AY) O ?_
    rintro _ w8 ⟨rfl,hb11,hw8,hs8⟩
    refine Az (Bv (cs:=[ts[i].x,ts[i].y]) O O O O (by have:=(L _ (getElem_mem a));simp [this.1.one',this.2.one']) hb11 O) ?_
    rintro w9 ⟨hb11,hg9,hs9⟩
    have hw9:Below E.heap.size E w9:=hw8.grown hg9 (AA hw8) (by rintro _ ⟨⟩;exact AX _)
    have hB9:=bt M hw9
    have hw69:=bt Q hw9
    have hat:=(L _ (getElem_mem a)).bs hB9
    have hb8' :=hb8.bs hw69
    have hm9:=hm6.bs hw69
    refine Bl<|Be underlying33 O (AN _)<|Aa (Ah (AF _) O ‹_› rfl) O ?_
    refine Be underlying33 O (AN _)<|Aa (Ah (AF _) O ‹_› rfl) O ?_
    refine Aj O O (EW ts[i].x x ts[i].s m.s w9 hat.1 hm9.sh) ?_
    rintro _ w10 ⟨rfl,hw10⟩
    have hw6a:=bt hw69 hw10
    refine Aa (Ck O) O<|Ak<|Aq O ?_ ?_
    · intro h
      have hno:¬ts[i].s=m.s:=by simpa using h
      have C:=(hb4.bs hw26).bs hw6a
      have U:=bt hB6 hw6a
      refine Af<|C8 O<|Az (Bv (cs:=[.slice none 0 0, .slice none 0 0]) O O O O O C O) ?_
      rintro w11 ⟨C,hg11, -⟩
      have hB11:Below W.heap.size W w11:=U.grown hg11 (AA U) (by rintro _ ⟨⟩;omega)
      have he:Ko ts m.s=10:=by
        unfold Ko
        rw [if_pos (List.all_eq_true.2 hall),if_neg]
        intro ha
        exact hno (AD (List.all_eq_true.1 ha _ (getElem_mem a)))
      refine Ab O<|Bc<|Bi<|Av<|Av<|Bi<|Av<|Bt O O O ‹_› underlying33 O O O ?_
      exact ⟨hB11,_,_,by rw [he],fun _=>⟨rfl,rfl⟩,fun h=>by rw [he] at h;cases h⟩
    · intro h
      have hyes:ts[i].s=m.s:=by simpa using h
      have hsame' :∀t ∈ ts.take (i+1),t.s=m.s:=fun t ht=>by
        rw [take_succ_eq_append_getElem a] at ht
        rcases List.mem_append.1 ht with h|h
        · exact B t h
        · rw [List.mem_singleton.1 h];exact hyes
      refine Cp<|Bn<|Ch<|B7 O (by omega)<|Ac O<|Bf ?_
      exact Ap (Pw.next (i+1) ⟨rfl,rfl,rfl,rfl,rfl,rfl,rfl,rfl,trivial⟩ (⟨a,hsame',hw6a⟩) (by omega))
  intro h
  have a:i=ts.length:=by simp at h;omega
  subst a
  rw [take_length] at B
  have he:Ko ts m.s=0:=by
    unfold Ko
    rw [if_pos (List.all_eq_true.2 hall),if_pos (List.all_eq_true.2 fun t ht=>decide_eq_true (B t ht))]
  obtain ⟨N,hN⟩:∃N,N=(Shapes.size m.s).toNat:=⟨_,rfl⟩
  obtain ⟨K,hK⟩:∃K,K=ts.length:=⟨_,rfl⟩
  have hlen:∀t ∈ ts,t.l.length=N:=fun t ht=>by
    have:=hall t ht
    simp only [T4.ok,tok,Bool.and_eq_true,decide_eq_true_eq] at this
    rw [B t ht] at this
    omega
  have z3:=hB3.size
  have z23:=hw3.size
  have z34:=Z.size
  have z67:=(bt Y Q).size
  rw [← hN] at hm6 hm
  have hmA:=hm6.bs Q
  have G:∀b,y.ownBlock=some b→w3.heap.size≤b∧b<w4.heap.size:=AG hm.own
  have I:∀o,E.grownBy o y.ownBlock→Below W.heap.size W o∧AO o W.heap.size 225 [.func (.func f) #[] q.toArray]∧AO o w1.heap.size 33 [.slice none 0 0, .slice none 0 0]∧AO o w4.heap.size 33 [x,y]∧BM o w3.heap.size 3 1 x m.s.length (m.s.map (Value.int .i64)):=fun o hg=>
    ⟨M.grown hg (AA M) (fun b hb=>by have:=(G b hb).1;omega),
     ((hb2.bs hw26).bs Q).by hg (fun h=>by have:=(G _ h.symm).1;omega),
     ((hb4.bs hw26).bs Q).by hg (fun h=>by have:=(G _ h.symm).1;omega),
     (hb8.bs Q).by hg (fun h=>by have:=(G _ h.symm).2;omega),
     hmA.row.by' hg (by
      cases hx:x.ownBlock with
      |none=>exact .inl rfl
      |some b=>exact .inr fun h=>hmA.apart b h.symm hx)⟩
  have hownA:E.ownsRow w3.heap.size 21 1 y N ((I8 BitVec.toInt (fun xs=>BitVec.ofInt 32 (g xs)) ts 0++replicate (N - 0) 0#32).map i32):=by
    have:=hmA.own
    rw [length_replicate] at this
    exact this
  rw [← hK]
  refine Bp<|Al<|Al<|Bd<|Cm<|Ac O<|Aa (Au (sz:=2) AR O (hv.bs M)) O<|Bk (Ed Pq Y4 O O O (AX _) (by omega) (by omega)) O ?_
  rintro sv w8 ⟨ho8,hsv,hw8,hs8⟩
  have hg8:E.grownBy w8 y.ownBlock:=DQ hw8 _
  obtain ⟨f1,f2,f4,f8,fx⟩:=I w8 hg8
  have hy8:=AL hownA hw8
  have hyT:=AQ hy8
  refine Ab O<|Bh<|Be underlying33 O (BC _)<|Aa (Ah (BG _) O ‹_› rfl) O ?_
  refine Aa (Au AU O ‹_›) O ?_
  refine Ac O<|Ak<|Ao ?_
  have hlen0:(I8 BitVec.toInt (fun xs=>BitVec.ofInt 32 (g xs)) ts 0++replicate (N - 0) 0#32).length=N:=by simp [I8]
  refine D5 54 (v' := .int .i64 (N:Int)) O (cngA (Value.int .i64) (by rw [hlen0])) ?_
  have hrep:∃d:List Int,d.length=K∧w8.ownsRow E.heap.size 2 1 sv K (d.map (Value.int .i64)):=by
    refine ⟨replicate K (0:Int),by simp, ?_⟩
    have e:(replicate K [Value.int .i64 0]).flatten=(replicate K (0:Int)).map (Value.int .i64):=by
      clear ho8 hsv hk
      generalize K=K
      induction K with
      |zero=>rfl
      |succ n ih=>simp [replicate_succ]
    rw [← e];rw [← hK] at ho8;exact ho8
  have hsvb:sv.ownBlock=some E.heap.size:=by rw [hsv];rfl
  refine Bq (S:=Nat) (fun i=>[(1,v),(2, .pointer (some ⟨W.heap.size,0,none⟩)),(4, .pointer (some ⟨w1.heap.size,0,none⟩)),(5, .int .i64 0),(8, .pointer (some ⟨w4.heap.size,0,none⟩)),(12,sv),(54, .int .i64 (N:Int)),(55, .int .i64 (i:Int))]) (fun i o=>i≤N∧E.grownBy o y.ownBlock∧o.ownsRow w3.heap.size 21 1 y N ((I8 BitVec.toInt (fun xs=>BitVec.ofInt 32 (g xs)) ts i++replicate (N - i) 0#32).map i32)∧(∃d:List Int,d.length=K∧o.ownsRow E.heap.size 2 1 sv K (d.map (Value.int .i64)))) (fun i=>N - i) (0) ⟨rfl,rfl,rfl,rfl,rfl,rfl,rfl,rfl,trivial⟩ ?_ ?_
  · exact ⟨by omega,hg8,hy8,hrep⟩
  clear ho8 hy8 hyT hrep f1 f2 f4 f8 fx hw8
  rintro i w9 ⟨hi,hg9,hy9,rest9,hr9,hs9⟩
  obtain ⟨f1,f2,f4,f8,fx⟩:=I w9 hg9
  refine Af<|B3 O<|Ak<|An<|Aq O ?_ ?_
  · intro h
    have a:i<N:=by simp at h;omega
    refine B0<|An<|Ao<|Af<|Ac O<|Ab O<|Bh<|Ac O<|Aa (Au (sz:=2) AR O (hv.bs f1)) O<|Ac O<|Ak<|Ao<|D5 59 (v' := .int .i64 (K:Int)) O (by rw [hK]) ?_
    refine Bq (S:=Nat) (fun k=>[(1,v),(2, .pointer (some ⟨W.heap.size,0,none⟩)),(4, .pointer (some ⟨w1.heap.size,0,none⟩)),(5, .int .i64 0),(8, .pointer (some ⟨w4.heap.size,0,none⟩)),(12,sv),(13, .int .i64 (i:Int)),(54, .int .i64 (N:Int)),(55, .int .i64 (i:Int)),(58,v),(59, .int .i64 (K:Int)),(60, .int .i64 (k:Int))]) (fun k o=>k≤K∧E.grownBy o y.ownBlock∧o.ownsRow w3.heap.size 21 1 y N ((I8 BitVec.toInt (fun xs=>BitVec.ofInt 32 (g xs)) ts i++replicate (N - i) 0#32).map i32)∧(∃d:List Int,d.length=K∧d.take k=(ts.take k).map (fun t=>(t.l.getD i default).toInt)∧o.ownsRow E.heap.size 2 1 sv K (d.map (Value.int .i64)))) (fun k=>K - k) (0) ⟨rfl,rfl,rfl,rfl,rfl,rfl,rfl,rfl,rfl,rfl,rfl,rfl,trivial⟩ ?_ ?_
    · exact ⟨by omega,hg9,hy9,rest9,hr9,by simp,hs9⟩
    clear hr9 hs9 hy9 hg9 f1 f2 f4 f8 fx
    rintro k w10 ⟨hkK,s,A,l,hr10,X,R⟩
    obtain ⟨f1,f2,f4,f8,fx⟩:=I w10 s
    refine Af<|B3 O<|Ak<|An<|Aq O ?_ ?_
    · intro h
      have hk' :k<K:=by simp at h;omega
      have z:k<ts.length:=by omega
      obtain ⟨c1,c2⟩:=CW z
      have hv10:=hv.bs f1
      refine B0<|An<|Ao<|Af<|Ac O<|Aa (Ci AR O O hv10 k O z) O<|Aa (Cq (cs:=[ts[k].x,ts[k].y]) (AT _) (AP _) O hv10 O (by decide) (fun j hj=>by rcases (show j=0∨j=1 by omega) with rfl|rfl;exact ⟨_,rfl,c1⟩;exact ⟨_,rfl,c2⟩)) O<|Bk (Xw.new AY) O ?_
      rintro _ w11 ⟨rfl,hb15,hw11,hs11⟩
      refine Ab O<|Az (Bv (cs:=[ts[k].x,ts[k].y]) O O O O (by have:=(L _ (getElem_mem z));simp [this.1.one',this.2.one']) hb15 O) ?_
      rintro w12 ⟨hb15,T,hs12⟩
      have D:Below w10.heap.size w10 w12:=hw11.grown T (AA hw11) (by rintro _ ⟨⟩;exact AX _)
      have hB12:=bt f1 D
      have hat:=(L _ (getElem_mem z)).bs hB12
      have haty:=hat.2
      have hsT:=AQ (AL R D)
      have hly:ts[k].l.length=N:=hlen _ (getElem_mem z)
      refine Ak<|Bw<|Ac O<|Ac O<|Be underlying33 O (BC _)<|Aa (Ah (BG _) O ‹_› rfl) O ?_
      refine Ac O<|Aa (Ay AU O O ‹_› _ O (by omega)) O ?_
      refine Aa (Bj (CF _) O ‹_› (by omega)) O ?_
      refine Aa (Ff Wf W7 O) O<|Aa (Ay Pq O O ‹_› _ O (by omega)) O ?_
      refine Az (D3 (Yc _) O O O (AL R D) (by rw [length_map];omega)) ?_
      rintro w13 ⟨hs13,hg13, -⟩
      have H:E.grownBy w12 y.ownBlock:=Gq s (DQ D none) (by rintro _ ⟨⟩)
      have hg13' :E.grownBy w13 y.ownBlock:=Gq H hg13 (by rintro b hb;rw [hsvb] at hb;cases hb;exact AX _)
      have hy13:=(AL A D).kept hg13 (.inr fun h=>by rw [hsvb] at h;have:=(G _ h).2;omega)
      have hset:(l.set k (ts[k].l.getD i default).toInt).take (k+1)=(ts.take (k+1)).map (fun t=>(t.l.getD i default).toInt):=by
        rw [take_succ_eq_append_getElem z,map_append,← X,take_set,take_succ_eq_append_getElem (by omega),set_append_right _ _ (by simp;omega)]
        simp [Nat.min_eq_left (show k≤l.length by omega)]
      rw [← map_set] at hs13
      refine Bf<|Bn<|Ch<|B7 O (by omega)<|Ac O<|Bf ?_
      exact Ap (Pw.next (k+1) ⟨rfl,rfl,rfl,rfl,rfl,rfl,rfl,rfl,rfl,rfl,rfl,rfl,trivial⟩ (⟨hk',hg13',hy13,_,by simpa using hr10,hset,hs13⟩) (by omega))
    · intro h
      have hk' :k=ts.length:=by simp at h;omega
      rw [take_of_length_le (by omega),take_of_length_le (by omega)] at X
      have hsT:=AQ R
      have hyT:=AQ A
      have hyl:(I8 BitVec.toInt (fun xs=>BitVec.ofInt 32 (g xs)) ts i++replicate (N - i) 0#32).length=N:=by simp [I8];omega
      refine Bp<|Al<|Al<|Bd<|Ap<|B8<|Cw.tail 9 AS (by kernel_rfl)<|Ad (fun w1 F=>Cd underlying33 O (BC _)) O<|Ad (fun w1 F=>Ah (BG _) O (AO.bs ‹_› F) O) O ?_
      refine Bg O<|Ad (fun w1 F=>Cd underlying225 O (WH _)) O<|Ad (fun w1 F=>Ah (XE _) O (AO.bs ‹_› F) O) O ?_
      refine Bg O<|E1 (p:=[]) O O O (fun w1 F=>(hdo w1 sv l (bt f1 F) (hsT.bs F) ⟨i,X⟩).q F)<|Ad (fun w1 F=>Ez XV M1 O) O<|Ad (fun w1 F=>Ay AU O O (Sl.bs ‹_› F) _ O (by omega)) O ?_
      refine Dc (fun w11 F=> ?_)
      refine Az (D3 (ER _) O O O (AL A F) (by rw [length_map];omega)) ?_
      rintro w12 ⟨hy12,T, -⟩
      have H:E.grownBy w12 y.ownBlock:=K9 (Gq s (DQ F none) (by rintro _ ⟨⟩)) T
      have hs12:=(AL R F).kept T (.inr fun h=>by rw [hsvb] at h;have:=(G _ h.symm).2;omega)
      have hset:(I8 BitVec.toInt (fun xs=>BitVec.ofInt 32 (g xs)) ts i++replicate (N - i) 0#32).set i (BitVec.ofInt 32 (g l))=I8 BitVec.toInt (fun xs=>BitVec.ofInt 32 (g xs)) ts (i+1)++replicate (N - (i+1)) 0#32:=by
        have hl:(I8 BitVec.toInt (fun xs=>BitVec.ofInt 32 (g xs)) ts i).length=i:=by simp [I8]
        rw [set_append_right _ _ (by omega),hl,Nat.sub_self,show N - i=(N - (i+1))+1 by omega,replicate_succ,set_cons_zero]
        rw [X]
        simp [I8,range_succ]
      rw [← map_set,hset] at hy12
      refine Bf<|Bn<|Ch<|B7 O (by omega)<|Ac O<|Bf ?_
      exact Ap (Pw.next (i+1) ⟨rfl,rfl,rfl,rfl,rfl,rfl,rfl,rfl,trivial⟩ (⟨a,H,hy12,l,hr10,hs12⟩) (by omega))
  · intro h
    have a:i=N:=by simp at h;omega
    subst a
    refine Bp<|Al<|Al<|Bd<|Cm<|Aa (B9 (AT _) (AP _) O O ‹_›) O ?_
    refine Az (Bv (cs:=[x,y]) O O O O (by simp [fx.sl.one',(AI hy9).one']) f4 O) ?_
    rintro w10 ⟨C,s, -⟩
    have U:Below W.heap.size W w10:=f1.grown s (AA f1) (by rintro _ ⟨⟩;omega)
    refine Ab O<|Bc<|Bt O O O ‹_› underlying33 O O O ?_
    refine ⟨U,x,y,by rw [he],fun h=>absurd he h,fun _=>⟨(fx.by' s ?_).mono z3, ?_,hmA.apart⟩⟩
    · cases hx:x.ownBlock with
      |none=>exact .inl rfl
      |some b=>
        refine .inr fun h=> ?_
        have:=hmA.fresh b hx
        cases h
        omega
    · have A:=BH (hy9.kept s (.inr fun h=>by have:=(G _ h).1;omega)) z3
      rw [Nat.sub_self,replicate_zero,append_nil] at A
      rw [← hN]
      have:(I8 BitVec.toInt (fun xs=>BitVec.ofInt 32 (g xs)) ts i).length=i:=by simp [I8]
      rw [this]
      exact A
def Qj (z:Int):Int:=if 127<(if z< -128 then -128 else z) then 127 else (if z< -128 then -128 else z)
def YT (j:Nat) (z:Int):Int:=Qj ((z+1*2 ^ j / 2 ^ 1) / 2 ^ j)
def YU (j:Nat) (l:List Int):Int:=YT j (l.getD 0 default)
def Zo (j:Nat) (l:List Int):BitVec 32:=BitVec.ofInt 32 (YU j l)
theorem Se (z:Int) (w:World):AM prog 209 [.int .i64 z, .int .i64 (-128), .int .i64 127] w (fun r a=>r= .int .i64 (Qj z)∧Below w.heap.size w a):=by
 exact Bb (n:=12) func209 rfl<|Af<|Ab rfl<|Bl<|Ac rfl<|Ac rfl<|Aa (E5 rfl rfl) rfl<|Ac rfl<|Aa (F3 rfl rfl) rfl<|Ab rfl<|Bc<|Ax rfl rfl<|⟨rfl,Below.refl _ _⟩
theorem Nm (j:Nat) (h:j≤31):(1:Int)≤2 ^ j∧(2:Int) ^ j≤2147483648:=by
 have b:1≤2 ^ j:=Nat.one_le_two_pow
 have a:2 ^ j≤2 ^ 31:=Nat.pow_le_pow_right (by decide) h
 have c:(2:Nat) ^ 31=2147483648:=by decide
 have e:((2 ^ j:Nat):Int)=(2:Int) ^ j:=by simp
 omega
theorem SS (u:Value) (xs:List Int) (j c d:Nat) (w:World) (f:j≤31) (g:BS (Value.int .i64) w u xs) (i:xs.length=1) (o: -2147483648≤xs.getD 0 default∧xs.getD 0 default≤2147483647)
  (l:AO w c 2 [.int .i64 (1*2 ^ j / 2 ^ 1)]) (k:AO w d 3 [.int .i64 (j:Int)]):
  AM prog 208 [u, .pointer (some ⟨c,0,none⟩), .pointer (some ⟨d,0,none⟩)] w (fun r e=>r= .int .i64 (YU j xs)∧Below w.heap.size w e):=by
 have h:=Nm j f
 refine Bb (n:=13) func208 O<|Af<|Ab O<|Ak<|An<|Cv AS (by kernel_rfl)<|Bg O<|Ad (fun b a=>Dn Pq O O g.shp 0 O (by omega)) O<|Ad (fun b a=>Bj (YF _) O (Sl.bs ‹_› a) (by omega)) O ?_
 refine Ad (fun b a=>Ah (YF _) O (AO.bs ‹_› a) O) O ?_
 refine Ad (fun b a=>De O O (by omega)) O<|Ad (fun b a=>Ah (AK _) O (AO.bs ‹_› a) O) O ?_
 refine Ad (fun b a=>Ex.shrI (j:=j) O O (by omega)) O<|C3 O O (fun b a=>(Se _ b).q a)<|Dk O ?_
 refine Cr (fun m a=> ?_)
 exact Ap<|B8<|Df<|Ax rfl rfl<|⟨rfl,a⟩
def Wj (a:T4) (n:Int):Int:=if n<0∨31<n then 1 else Ko [a] a.s
theorem UT (a:T4) (n:Int) (W:World) (ha:a.at W):
  AM prog 120 [a.v, .int .i64 n] W (fun r Q=>Below W.heap.size W Q∧Ri W Q r (Wj a n) a.s (I8 BitVec.toInt (Zo n.toNat) [a] (Shapes.size a.s).toNat)):=by
 refine Bb (n:=24) func120 O<|Af<|Bk (Xw.box (cs:=[a.x,a.y]) O O) O ?_
 rintro _ I ⟨rfl,p,K,s1⟩
 refine Bk (Xw.box (cs:=[.int .i64 n]) O O) O ?_
 rintro _ w2 ⟨rfl,q,A,s2⟩
 have e:=bt K A
 have p:=p.bs A
 refine Bk (Xw.new AY) O ?_
 rintro _ s ⟨rfl,D,f,s3⟩
 have c:=bt e f
 have p:=p.bs f
 have q:=q.bs f
 refine Ab O<|Bh<|Aa (Ah (AK _) O ‹_› rfl) O ?_
 refine B3 O<|Ac O ?_
 refine Cc 9 O ?_ ?_
 ·intro g
  have g' :=AD g
  refine Ae (dj:=9) O O O O<|Ae (dj:=9) O O O O<|B4 O<|Ak<|Bz O<|Af<|C8 O ?_
  have o:Wj a n=1:=by unfold Wj;rw [if_pos (by omega)]
  refine Az (Bv (cs:=[.slice none 0 0, .slice none 0 0]) O O O O O D O) ?_
  rintro G ⟨L,l, -⟩
  have z2:=e.size
  have m:Below W.heap.size W G:=c.grown l (AA c) (by rintro _ ⟨⟩;exact z2)
  refine Ab O<|Bu<|Bt O O O ‹_› underlying33 O O O ?_
  exact ⟨m,_,_,by rw [o],fun _=>⟨rfl,rfl⟩,fun h=>by rw [o] at h;cases h⟩
 intro g
 have g' :=AB g
 refine Ag (dj:=9) O O<|Aa (Ah (AK _) O ‹_› rfl) O ?_
 refine Ag (dj:=9) O O<|Aa (Dr O O) O<|Cn O<|Ak<|Aq O ?_ ?_
 ·intro k
  have k' :=AD k
  have o:Wj a n=1:=by unfold Wj;rw [if_pos (by omega)]
  refine Af<|C8 O<|Az (Bv (cs:=[.slice none 0 0, .slice none 0 0]) O O O O O D O) ?_
  rintro G ⟨L,l, -⟩
  have z2:=e.size
  have m:Below W.heap.size W G:=c.grown l (AA c) (by rintro _ ⟨⟩;exact z2)
  refine Ab O<|Bu<|Bt O O O ‹_› underlying33 O O O ?_
  exact ⟨m,_,_,by rw [o],fun _=>⟨rfl,rfl⟩,fun h=>by rw [o] at h;cases h⟩
 intro k
 have k' :=AB k
 obtain ⟨j,rfl⟩:=Int.eq_ofNat_of_zero_le (show 0≤n by omega)
 have U:j≤31:=by omega
 have hp:=Nm j U
 have o:Wj a (j:Int)=Ko [a] a.s:=by unfold Wj;rw [if_neg (by omega)]
 refine Co<|Aa (Ah (AK _) O ‹_› rfl) O ?_
 refine Aa (Ex.shlI (j:=j) O O (by omega) (by omega)) O<|Aa (Ex.shrI (j:=1) O O (by decide)) O<|Bk (Xw.new Y4) O ?_
 rintro _ G ⟨rfl,L,z,s4⟩
 refine Az (Dj (Yc _) O O O L (by simp)) ?_
 rintro w5 ⟨h5,N,s5⟩
 have b:Below s.heap.size s w5:=z.grown N (AA z) (by rintro _ ⟨⟩;exact AX _)
 have M:=bt c b
 have p:=p.bs b
 have q:=q.bs b
 have D:=D.bs b
 refine Bl<|Aa (Ef (vs:=[]) O O) O<|Aa (C4 (vs:=[(0, .func (.func 208) #[] #[.pointer (some ⟨s.heap.size,0,none⟩), .pointer (some ⟨I.heap.size,0,none⟩)])]) (cs:=[.func (.func 208) #[] #[.pointer (some ⟨s.heap.size,0,none⟩), .pointer (some ⟨I.heap.size,0,none⟩)]]) O O) O<|Aa (B9 (AT _) (AP _) O O ‹_›) O ?_
 refine Bk (Em (vs:=[(0,a.v)]) (cs:=cellsOf [a]) AR AY O (by decide) (by decide) (by decide) (by kernel_rfl) O) O ?_
 rintro v Y ⟨H, -,d,s6⟩
 have F:=bt M d
 refine Aj O O (Xd [a] v a 208 [.pointer (some ⟨s.heap.size,0,none⟩), .pointer (some ⟨I.heap.size,0,none⟩)] (YU j) Y O (by simp) (AI H) (fun t R=>by simp at R;subst R;exact ha.bs F) (fun w u xs V hu T=>SS u xs j _ _ w U hu (by obtain ⟨i,rfl⟩:=T;rfl) (by obtain ⟨i,rfl⟩:=T;have:=(a.l.getD i default).isLt;have:=BitVec.toInt_lt (x:=a.l.getD i default);have:=BitVec.le_toInt (a.l.getD i default);simp at*;omega) ((h5.bs d).bs V) ((q.bs d).bs V))) ?_
 rintro _ w7 ⟨C,x,y,rfl,S,X⟩
 have B:=bt F C
 have Z:=(D.bs d).bs C
 refine Aa (As (i:=0) O O) O<|Aa (As (i:=1) O O) O<|Az (Bv (cs:=[x,y]) O O O O (Lh S X) Z O) ?_
 rintro w8 ⟨h8,E, -⟩
 have z2:=e.size
 have z5:=b.size
 have J:Below W.heap.size W w8:=B.grown E (AA B) (by rintro _ ⟨⟩;exact z2)
 refine Ab O<|Bc<|Bt O O O ‹_› underlying33 O O O ?_
 rw [Int.toNat_natCast,o]
 exact ⟨J,x,y,rfl,S,fun h=>(X h).out E (by omega) (by omega)⟩

theorem GT (v:Value) (l:List (Int)) (w:World) (A:BS (Value.int .i64) w v l) (Q:l.length≤4194304):
  AM prog 31 [v] w (fun r p=>Twn p w.heap.size 3 (Value.int .i64) (Value.int .i64 (77)) r l∧Below w.heap.size w p):=by
 refine Bb (n:=28) func31 O<|Af<|Ab O<|Bl<|Ac O<|Aa (Au AC O ‹_›) O ?_
 refine B7 O (by omega)<|Bk (Ed (l:=0) (c:=l.length+1) AC DI O O O (by omega) (by omega) (by omega)) O ?_
 rintro t y ⟨b, -,a,q⟩
 refine Ab O<|Bh<|Ab O<|Ak<|Ao ?_
 refine Bq (S:=(Nat×Value)) (fun s=>[(0,v),(3,s.2),(4, .int .i64 (s.1:Int))]) (fun s p=>s.1≤l.length∧p.ownsRow w.heap.size 3 1 s.2 s.1 ((l.take s.1).map (Value.int .i64))∧Below w.heap.size w p) (fun s=>l.length - s.1) ((0,t)) ⟨rfl,rfl,rfl,trivial⟩ ?_ ?_
 ·exact ⟨by omega,by simpa using b,a⟩
 clear b a q t y
 rintro ⟨k,t⟩ y ⟨E,b,a⟩
 simp only at E b
 have C:=A.bs a
 have q:=a.size
 refine An<|Af<|Ac O<|Ac O<|Aa (Au AC O ‹_›) O ?_
 refine B3 O<|Ak<|Aq O ?_ ?_
 ·intro h
  have f:k<l.length:=by simp at h;omega
  refine B0<|An<|Ao<|Bw<|Ac O<|Ac O<|Ac O<|Aa (Ay AC O O ‹_› _ O (by omega)) O ?_
  refine Aa (Bj (AK _) O ‹_› (by omega)) O ?_
  refine Bk (Dl (vs:=[Value.int .i64 (l.getD k default)]) AC DI O O O O O) O ?_
  rintro I L ⟨m, -,i,x⟩
  refine Bk (Dp (base:=w.heap.size) AC DI O (by decide) O O (AL b i) (AI m) O (by omega) (by omega) (by omega)) O ?_
  rintro z D ⟨d,o,_⟩
  refine Ab O<|Bf<|Bn<|Ch<|Ac O<|B7 O (by omega)<|Ab O<|Bf ?_
  have e:(l.take k).map (Value.int .i64)++[Value.int .i64 (l.getD k default)]=(l.take (k+1)).map (Value.int .i64):=by
   rw [take_succ_eq_append_getElem f,map_append];simp [f]
  rw [e] at d
  exact Ap (Pw.next ((k+1,z)) ⟨rfl,rfl,rfl,trivial⟩ (⟨f,d,(bt a i).trans o⟩) (by simp only;omega))
 ·intro h
  have f:k=l.length:=by simp at h;omega
  subst f
  refine Bp<|Al<|Al<|Bd<|Cm<|Ac O<|Bk (Dl (vs:=[Value.int .i64 (77)]) AC DI O O O O O) O ?_
  rintro I L ⟨m, -,i,x⟩
  refine Bk (Dp (base:=w.heap.size) AC DI O (by decide) O O (AL b i) (AI m) O (by omega) (by omega) (by omega)) O ?_
  rintro z D ⟨d,o,_⟩
  have j:=(bt a i).trans o
  have G:=A.bs j
  rcases d.2 with ⟨_,M⟩|⟨g,cap,F,rfl,N,J,H,B,K,u⟩
  ·omega
  refine Ac O<|Aa (Au AC O ‹_›) O ?_
  refine Aa (Ew AC O O (by omega)) O<|Ab O<|Bc<|Ax O O ?_
  exact ⟨⟨g,cap,rfl,by simpa using d⟩,j⟩
theorem Jp (t v:Value) (l:List (Int)) (base:Nat) (w:World) (p:Twn w base 3 (Value.int .i64) (Value.int .i64 (77)) t l) (y:BS (Value.int .i64) w v l):
  AM prog 48 [t,v] w (fun r g=>r= .bool true∧Below w.heap.size w g):=by
 have m:=p.sl
 have D:=y.le
 obtain ⟨b,cap,rfl,x⟩:=p
 have s:l.length+1≤cap∧cap≤9223372036854775807:=by
  obtain ⟨_,F,o,C,B,z,_⟩:=AI x
  cases C;unfold maxLen at z;exact ⟨B,by omega⟩
 refine Bb (n:=45) func48 O<|Af<|Ab O<|Bh<|Ac O<|Aa (Au AC O ‹_›) O ?_
 refine Ac O<|Aa (Au AC O ‹_›) O ?_
 refine Aa (Cs O O) O<|Ac O<|C5 12 (v' := .bool false) O (cngA Value.bool ((by simp)))<|Ag (dj:=12) O O<|Ac O<|Ag (dj:=12) O O<|Aa (Fg AC O) O<|Ag (dj:=12) O O<|Ac O<|Ag (dj:=12) O O<|Aa (Au AC O ‹_›) O ?_
 refine Ag (dj:=12) O O<|Aa (D8 O O) O<|Cn O<|Ak<|Ca O false ((by simp;omega))<|B0<|An<|Af<|Ab O<|Ak<|Ao ?_
 refine Bq (S:=Nat) (fun k=>[(0, .slice (some ⟨b,0,none⟩) l.length cap),(1,v),(5, .int .i64 (k:Int))]) (fun k g=>k≤l.length∧Below w.heap.size w g) (fun k=>l.length - k) (0) ⟨rfl,rfl,rfl,trivial⟩ ?_ ?_
 ·exact ⟨by omega,Below.refl _ _⟩
 rintro k e ⟨E,a⟩
 have A:=y.bs a
 have q:=m.bs a
 refine An<|Af<|Ac O<|Ac O<|Aa (Au AC O ‹_›) O ?_
 refine B3 O<|Ak<|Aq O ?_ ?_
 ·intro h
  have f:k<l.length:=by simp at h;omega
  refine B0<|An<|Ao<|An<|Cv AS (by kernel_rfl)<|Bg O<|Bg O<|Ad (fun e d=>Ay AC O O (Sl.bs ‹_› d) _ O (by omega)) O ?_
  refine Ad (fun e d=>Bj (AK _) O (Sl.bs ‹_› d) (by omega)) O ?_
  refine Bg O<|Bg O<|Ad (fun e d=>Ay AC O O (Sl.bs ‹_› d) _ O (by omega)) O ?_
  refine Ad (fun e d=>Bj (AK _) O (Sl.bs ‹_› d) (by omega)) O ?_
  refine Ad (fun e d=>Cs O O) O ?_
  refine Cr (fun G d=> ?_)
  refine Ap<|B8 ?_
  have i:=bt a d
  refine Ca O false ((by simp))<|Cp<|Bn<|Ch<|Ac O<|B7 O (by omega)<|Ab O<|Bf ?_
  exact Ap (Pw.next (k+1) ⟨rfl,rfl,rfl,trivial⟩ (⟨by omega,i⟩) (by omega))
 ·intro h
  have f:k=l.length:=by simp at h;omega
  subst f
  have c:=AI (AL x a)
  refine Bp<|Al<|Al<|Bd<|Cm<|Ac O<|Ac O<|Aa (Au AC O ‹_›) O ?_
  refine B7 O (by omega)<|Aa (Ew (j:=l.length+1) AC O O (by omega)) O<|Ac O<|Aa (Au AC O ‹_›) O ?_
  refine Aa (Ci AC O O c l.length O (by omega)) O<|Aa (D1 (u:=Value.int .i64 (77)) (AK _) O c (by simp)) O<|Ab O<|Bl<|Ac O<|Aa (Da O O) O<|Ab O<|Bc<|Ax O O ?_
  exact ⟨cngA Value.bool (by simp),a⟩
theorem Lz (u v:Value) (l m:List (Int)) (w:World) (s:BS (Value.int .i64) w u l) (y:BS (Value.int .i64) w v m):
  AM prog 46 [u,v] w (fun r o=>r= .bool (decide (l=m))∧Below w.heap.size w o):=by
 have z:=s.le
 refine Bb (n:=26) func46 O<|Af<|Ab O<|Bh<|Ac O<|Aa (Au AC O ‹_›) O ?_
 refine Ac O<|Aa (Au AC O ‹_›) O ?_
 refine Aa (Cs O O) O<|Ak<|Aq O ?_ ?_
 ·intro h
  have d:l≠m:=fun e=>by subst e;simp at h
  exact Af<|Ab rfl<|Bu<|Ax rfl rfl<|⟨by rw [decide_eq_false d],Below.refl _ _⟩
 ·intro h
  have i:l.length=m.length:=by simp at h;omega
  refine B0<|An<|Af<|Ab O<|Ak<|Ao ?_
  refine Bq (S:=Nat) (fun k=>[(0,u),(1,v),(5, .int .i64 (k:Int))]) (fun k o=>k≤l.length∧l.take k=m.take k∧Below w.heap.size w o) (fun k=>l.length - k) (0) ⟨rfl,rfl,rfl,trivial⟩ ?_ ?_
  ·exact ⟨by omega,by simp,Below.refl _ _⟩
  rintro k f ⟨A,q,b⟩
  have t:=s.bs b
  have x:=y.bs b
  refine An<|Af<|Ac O<|Ac O<|Aa (Au AC O ‹_›) O ?_
  refine B3 O<|Ak<|Aq O ?_ ?_
  ·intro h
   have c:k<l.length:=by simp at h;omega
   have g:k<m.length:=by omega
   refine B0<|An<|Ao<|An<|Cv AS (by kernel_rfl)<|Bg O<|Bg O<|Ad (fun f a=>Ay AC O O (Sl.bs ‹_› a) _ O (by omega)) O ?_
   refine Ad (fun f a=>Bj (AK _) O (Sl.bs ‹_› a) (by omega)) O ?_
   refine Bg O<|Bg O<|Ad (fun f a=>Ay AC O O (Sl.bs ‹_› a) _ O (by omega)) O ?_
   refine Ad (fun f a=>Bj (AK _) O (Sl.bs ‹_› a) (by omega)) O ?_
   refine Ad (fun f a=>Cs O O) O ?_
   refine Cr (fun B a=> ?_)
   refine Ap<|B8 ?_
   have j:=bt b a
   refine Aq O ?_ ?_
   ·intro h
    have d:l≠m:=fun e=>by subst e;simp at h
    exact Af<|Ab rfl<|Bc<|Bi<|Av<|Av<|Bi<|Av<|Ax rfl rfl<|⟨by rw [decide_eq_false d],j⟩
   ·intro h
    refine Cp<|Bn<|Ch<|Ac O<|B7 O (by omega)<|Ab O<|Bf ?_
    have p:l.take (k+1)=m.take (k+1):=by
     rw [take_succ_eq_append_getElem c,take_succ_eq_append_getElem g,q]
     simp [c,g] at h
     rw [h]
    exact Ap (Pw.next (k+1) ⟨rfl,rfl,rfl,trivial⟩ (⟨by omega,p,j⟩) (by omega))
  ·intro h
   have c:k=l.length:=by simp at h;omega
   subst c
   rw [take_length,i,take_length] at q
   exact Bp<|Al<|Al<|Bd<|Cm<|Ab rfl<|Bc<|Ax rfl rfl<|⟨by rw [decide_eq_true q],b⟩
theorem Hp (v:Value) (l:List (BitVec 32)) (w:World) (A:BS (i32) w v l) (Q:l.length≤4194304):
  AM prog 101 [v] w (fun r p=>Twn p w.heap.size 21 (i32) (i32 (77#32)) r l∧Below w.heap.size w p):=by
 refine Bb (n:=28) func101 O<|Af<|Ab O<|Bl<|Ac O<|Aa (Au AU O ‹_›) O ?_
 refine B7 O (by omega)<|Bk (Ed (l:=0) (c:=l.length+1) AU DY O O O (by omega) (by omega) (by omega)) O ?_
 rintro t y ⟨b, -,a,q⟩
 refine Ab O<|Bh<|Ab O<|Ak<|Ao ?_
 refine Bq (S:=(Nat×Value)) (fun s=>[(0,v),(3,s.2),(4, .int .i64 (s.1:Int))]) (fun s p=>s.1≤l.length∧p.ownsRow w.heap.size 21 1 s.2 s.1 ((l.take s.1).map (i32))∧Below w.heap.size w p) (fun s=>l.length - s.1) ((0,t)) ⟨rfl,rfl,rfl,trivial⟩ ?_ ?_
 ·exact ⟨by omega,by simpa using b,a⟩
 clear b a q t y
 rintro ⟨k,t⟩ y ⟨E,b,a⟩
 simp only at E b
 have C:=A.bs a
 have q:=a.size
 refine An<|Af<|Ac O<|Ac O<|Aa (Au AU O ‹_›) O ?_
 refine B3 O<|Ak<|Aq O ?_ ?_
 ·intro h
  have f:k<l.length:=by simp at h;omega
  refine B0<|An<|Ao<|Bw<|Ac O<|Ac O<|Ac O<|Aa (Ay AU O O ‹_› _ O (by omega)) O ?_
  refine Aa (Bj (CF _) O ‹_› (by omega)) O ?_
  refine Bk (Dl (vs:=[i32 (l.getD k default)]) AU DY O O O O O) O ?_
  rintro I L ⟨m, -,i,x⟩
  refine Bk (Dp (base:=w.heap.size) AU DY O (by decide) O O (AL b i) (AI m) O (by omega) (by omega) (by omega)) O ?_
  rintro z D ⟨d,o,_⟩
  refine Ab O<|Bf<|Bn<|Ch<|Ac O<|B7 O (by omega)<|Ab O<|Bf ?_
  have e:(l.take k).map (i32)++[i32 (l.getD k default)]=(l.take (k+1)).map (i32):=by
   rw [take_succ_eq_append_getElem f,map_append];simp [f]
  rw [e] at d
  exact Ap (Pw.next ((k+1,z)) ⟨rfl,rfl,rfl,trivial⟩ (⟨f,d,(bt a i).trans o⟩) (by simp only;omega))
 ·intro h
  have f:k=l.length:=by simp at h;omega
  subst f
  refine Bp<|Al<|Al<|Bd<|Cm<|Ac O<|Bk (Dl (vs:=[i32 (77#32)]) AU DY O O O O O) O ?_
  rintro I L ⟨m, -,i,x⟩
  refine Bk (Dp (base:=w.heap.size) AU DY O (by decide) O O (AL b i) (AI m) O (by omega) (by omega) (by omega)) O ?_
  rintro z D ⟨d,o,_⟩
  have j:=(bt a i).trans o
  have G:=A.bs j
  rcases d.2 with ⟨_,M⟩|⟨g,cap,F,rfl,N,J,H,B,K,u⟩
  ·omega
  refine Ac O<|Aa (Au AU O ‹_›) O ?_
  refine Aa (Ew AU O O (by omega)) O<|Ab O<|Bc<|Ax O O ?_
  exact ⟨⟨g,cap,rfl,by simpa using d⟩,j⟩
theorem Mr (t v:Value) (l:List (BitVec 32)) (base:Nat) (w:World) (p:Twn w base 21 (i32) (i32 (77#32)) t l) (y:BS (i32) w v l):
  AM prog 109 [t,v] w (fun r g=>r= .bool true∧Below w.heap.size w g):=by
 have m:=p.sl
 have D:=y.le
 obtain ⟨b,cap,rfl,x⟩:=p
 have s:l.length+1≤cap∧cap≤9223372036854775807:=by
  obtain ⟨_,F,o,C,B,z,_⟩:=AI x
  cases C;unfold maxLen at z;exact ⟨B,by omega⟩
 refine Bb (n:=45) func109 O<|Af<|Ab O<|Bh<|Ac O<|Aa (Au AU O ‹_›) O ?_
 refine Ac O<|Aa (Au AU O ‹_›) O ?_
 refine Aa (Cs O O) O<|Ac O<|C5 12 (v' := .bool false) O (cngA Value.bool ((by simp)))<|Ag (dj:=12) O O<|Ac O<|Ag (dj:=12) O O<|Aa (Fg AU O) O<|Ag (dj:=12) O O<|Ac O<|Ag (dj:=12) O O<|Aa (Au AU O ‹_›) O ?_
 refine Ag (dj:=12) O O<|Aa (D8 O O) O<|Cn O<|Ak<|Ca O false ((by simp;omega))<|B0<|An<|Af<|Ab O<|Ak<|Ao ?_
 refine Bq (S:=Nat) (fun k=>[(0, .slice (some ⟨b,0,none⟩) l.length cap),(1,v),(5, .int .i64 (k:Int))]) (fun k g=>k≤l.length∧Below w.heap.size w g) (fun k=>l.length - k) (0) ⟨rfl,rfl,rfl,trivial⟩ ?_ ?_
 ·exact ⟨by omega,Below.refl _ _⟩
 rintro k e ⟨E,a⟩
 have A:=y.bs a
 have q:=m.bs a
 refine An<|Af<|Ac O<|Ac O<|Aa (Au AU O ‹_›) O ?_
 refine B3 O<|Ak<|Aq O ?_ ?_
 ·intro h
  have f:k<l.length:=by simp at h;omega
  refine B0<|An<|Ao<|An<|Cv AS (by kernel_rfl)<|Bg O<|Bg O<|Ad (fun e d=>Ay AU O O (Sl.bs ‹_› d) _ O (by omega)) O ?_
  refine Ad (fun e d=>Bj (CF _) O (Sl.bs ‹_› d) (by omega)) O ?_
  refine Bg O<|Bg O<|Ad (fun e d=>Ay AU O O (Sl.bs ‹_› d) _ O (by omega)) O ?_
  refine Ad (fun e d=>Bj (CF _) O (Sl.bs ‹_› d) (by omega)) O ?_
  refine Ad (fun e d=>Fw O O) O ?_
  refine Cr (fun G d=> ?_)
  refine Ap<|B8 ?_
  have i:=bt a d
  refine Ca O false ((by simp))<|Cp<|Bn<|Ch<|Ac O<|B7 O (by omega)<|Ab O<|Bf ?_
  exact Ap (Pw.next (k+1) ⟨rfl,rfl,rfl,trivial⟩ (⟨by omega,i⟩) (by omega))
 ·intro h
  have f:k=l.length:=by simp at h;omega
  subst f
  have c:=AI (AL x a)
  refine Bp<|Al<|Al<|Bd<|Cm<|Ac O<|Ac O<|Aa (Au AU O ‹_›) O ?_
  refine B7 O (by omega)<|Aa (Ew (j:=l.length+1) AU O O (by omega)) O<|Ac O<|Aa (Au AU O ‹_›) O ?_
  refine Aa (Ci AU O O c l.length O (by omega)) O<|Aa (D1 (u:=i32 (77#32)) (CF _) O c (by simp)) O<|Ab O<|Bl<|Ac O<|Aa (Fx O (show _=some (i32 (77#32)) from rfl)) O<|Ab O<|Bc<|Ax O O ?_
  exact ⟨cngA Value.bool (by simp),a⟩
theorem IS (u v:Value) (l m:List (BitVec 32)) (w:World) (s:BS (i32) w u l) (y:BS (i32) w v m):
  AM prog 47 [u,v] w (fun r o=>r= .bool (decide (l=m))∧Below w.heap.size w o):=by
 have z:=s.le
 refine Bb (n:=26) func47 O<|Af<|Ab O<|Bh<|Ac O<|Aa (Au AU O ‹_›) O ?_
 refine Ac O<|Aa (Au AU O ‹_›) O ?_
 refine Aa (Cs O O) O<|Ak<|Aq O ?_ ?_
 ·intro h
  have d:l≠m:=fun e=>by subst e;simp at h
  exact Af<|Ab rfl<|Bu<|Ax rfl rfl<|⟨by rw [decide_eq_false d],Below.refl _ _⟩
 ·intro h
  have i:l.length=m.length:=by simp at h;omega
  refine B0<|An<|Af<|Ab O<|Ak<|Ao ?_
  refine Bq (S:=Nat) (fun k=>[(0,u),(1,v),(5, .int .i64 (k:Int))]) (fun k o=>k≤l.length∧l.take k=m.take k∧Below w.heap.size w o) (fun k=>l.length - k) (0) ⟨rfl,rfl,rfl,trivial⟩ ?_ ?_
  ·exact ⟨by omega,by simp,Below.refl _ _⟩
  rintro k f ⟨A,q,b⟩
  have t:=s.bs b
  have x:=y.bs b
  refine An<|Af<|Ac O<|Ac O<|Aa (Au AU O ‹_›) O ?_
  refine B3 O<|Ak<|Aq O ?_ ?_
  ·intro h
   have c:k<l.length:=by simp at h;omega
   have g:k<m.length:=by omega
   refine B0<|An<|Ao<|An<|Cv AS (by kernel_rfl)<|Bg O<|Bg O<|Ad (fun f a=>Ay AU O O (Sl.bs ‹_› a) _ O (by omega)) O ?_
   refine Ad (fun f a=>Bj (CF _) O (Sl.bs ‹_› a) (by omega)) O ?_
   refine Bg O<|Bg O<|Ad (fun f a=>Ay AU O O (Sl.bs ‹_› a) _ O (by omega)) O ?_
   refine Ad (fun f a=>Bj (CF _) O (Sl.bs ‹_› a) (by omega)) O ?_
   refine Ad (fun f a=>Fw O O) O ?_
   refine Cr (fun B a=> ?_)
   refine Ap<|B8 ?_
   have j:=bt b a
   refine Aq O ?_ ?_
   ·intro h
    have d:l≠m:=fun e=>by subst e;simp at h
    exact Af<|Ab rfl<|Bc<|Bi<|Av<|Av<|Bi<|Av<|Ax rfl rfl<|⟨by rw [decide_eq_false d],j⟩
   ·intro h
    refine Cp<|Bn<|Ch<|Ac O<|B7 O (by omega)<|Ab O<|Bf ?_
    have p:l.take (k+1)=m.take (k+1):=by
     rw [take_succ_eq_append_getElem c,take_succ_eq_append_getElem g,q]
     simp [c,g] at h
     rw [h]
    exact Ap (Pw.next (k+1) ⟨rfl,rfl,rfl,trivial⟩ (⟨by omega,p,j⟩) (by omega))
  ·intro h
   have c:k=l.length:=by simp at h;omega
   subst c
   rw [take_length,i,take_length] at q
   exact Bp<|Al<|Al<|Bd<|Cm<|Ab rfl<|Bc<|Ax rfl rfl<|⟨by rw [decide_eq_true q],b⟩

theorem Xf (w:World):(T4.mk (.slice none 0 0) (.slice none 0 0) [] []).at w:=⟨C0 w 1,C0 w 1⟩
theorem DA.at {W w:World} {x y:Value} {s:List Int} {l:List (BitVec 32)} (h:DA W w x y s l):(T4.mk x y s l).at w:=⟨h.sh,AI h.own⟩
theorem OF {c:BitVec 32} {n i:Nat} (h:i<n):(replicate n c).getD i default=c:=by simp [h]
theorem BJ {s:List Int} {l:List (BitVec 32)} (h:tok s l=true):Shapes.ok s=true∧l.length=(Shapes.size s).toNat:=by
 simp only [tok,Bool.and_eq_true,decide_eq_true_eq] at h
 exact ⟨h.1,by omega⟩
def IM (W w:World) (r:Value) (e:Int) (s:List Int) (l:List (BitVec 32)):Prop:=
 ∃c:T4,r= .tuple #[c.v, .int .i64 e]∧c.at w∧(e≠0→c.s=[]∧c.l=[]∧c.x= .slice none 0 0∧c.y= .slice none 0 0)∧(e=0→c.s=s∧c.l=l∧DA W w c.x c.y s l)
def Jx (s:List Int) (l:List (BitVec 32)):Int:=if 1+(s.length:Int)≤1048576 then 1+(s.length:Int)+(l.length:Int) else 1+(s.length:Int)
def UC (n:Int):List Int→Bool
 |[]=>false
 |x::l=>if 1048576<n+x then true else UC (n+x) l
theorem Um:∀{l:List Int} {n:Int},0≤n→(∀x ∈ l,0≤x)→UC n l=false→∀x ∈ l,x≤1048576
 |[],_,_,_,_=>by simp
 |x::l,n,h0,hx,h=>by
  have c:=hx x (by simp)
  simp only [UC] at h
  split at h
  ·cases h
  ·intro y a
   rcases List.mem_cons.1 a with rfl|a
   ·omega
   ·exact Um (by omega) (fun z b=>hx z (by simp [b])) h y a
theorem Un {l:List Int} {i:Nat} {n:Int} (h:i<l.length):UC n (l.drop i)=(if 1048576<n+l.getD i default then true else UC (n+l.getD i default) (l.drop (i+1))):=by
 rw [drop_eq_getElem_cons h];simp [UC,h]
theorem Jq (u:Value) (l:List Int) (w:World) (b:BS (Value.int .i64) w u l):AM prog 29 [u] w (fun r a=>r= .int .i64 (l.length:Int)∧Below w.heap.size w a):=by
 refine Bb (n:=5) func29 O<|Af<|Ab O<|Bl<|Ac O<|Aa (Au AC O ‹_›) O ?_
 exact Ab rfl<|Bc<|Ax rfl rfl<|⟨rfl,Below.refl _ _⟩
theorem P4 (u:Value) (l:List (BitVec 32)) (w:World) (b:BS i32 w u l):AM prog 111 [u] w (fun r a=>r= .int .i64 (l.length:Int)∧Below w.heap.size w a):=by
 refine Bb (n:=5) func111 O<|Af<|Ab O<|Bl<|Ac O<|Aa (Au AU O ‹_›) O ?_
 exact Ab rfl<|Bc<|Ax rfl rfl<|⟨rfl,Below.refl _ _⟩
theorem Q7 (a:T4) (w:World) (d:a.at w) (hs:a.s.length≤1125899906842624) (k:a.l.length≤1125899906842624):AM prog 30 [a.v] w (fun r i=>r= .int .i64 (Jx a.s a.l)∧Below w.heap.size w i):=by
 have e:=Below.refl w.heap.size w
 refine Bb (n:=19) func30 O<|Af<|Bk (Xw.box (cs:=[a.x,a.y]) O O) O ?_
 rintro _ h ⟨rfl,b,c, -⟩
 have e:=e.bs c
 have d:=d.bs c
 have m:=d.1
 refine Ab O<|Bl<|Ab O<|Bh<|Ac O<|Aa (D8 O O) O<|Ak<|Ca O true (by decide)<|Bw<|Ac O<|Be underlying33 O (AN _)<|Aa (Ah (AF _) O ‹_› rfl) O ?_
 refine Aj O O (Jq a.x a.s h d.1) ?_
 rintro _ j ⟨rfl,c⟩
 have e:=e.bs c
 have d:=d.bs c
 have b:=b.bs c
 refine B7 O (by omega)<|Ab O<|Bh<|Ac O<|Aa (D8 O O) O<|Ak<|Aq O ?_ ?_
 ·intro g
  have f:=AD g
  refine Bw<|Ac O<|Be underlying33 O (BC _)<|Aa (Ah (BG _) O ‹_› rfl) O ?_
  refine Aj O O (P4 a.y a.l j d.2) ?_
  rintro _ l ⟨rfl,c⟩
  have e:=e.bs c
  have d:=d.bs c
  have b:=b.bs c
  refine B7 O (by omega)<|Ab O<|Bl<|Ac O<|Ab O<|Bc<|Ax O O ?_
  exact ⟨by rw [Jx,if_pos f],e⟩
 ·intro g
  have f:=AB g
  exact Co<|Ac rfl<|Ab rfl<|Bc<|Ax rfl rfl<|⟨by rw [Jx,if_neg f],e⟩
theorem Ul (u:Value) (l:List Int) (w:World) (f:BS (Value.int .i64) w u l) (j:∀x ∈ l,0≤x∧x≤4503599627370496):AM prog 98 [u] w (fun r c=>r= .bool (UC 0 l)∧Below w.heap.size w c):=by
 have e:=f.le
 refine Bb (n:=19) func98 O<|Af<|Ab O<|Bl<|Ab O<|Bh<|Ab O<|Ak<|Ao ?_
 refine Bq (S:=(Nat×Int)) (fun s=>[(0,u),(3, .int .i64 s.2),(4, .int .i64 (s.1:Int))]) (fun s c=>s.1≤l.length∧(0≤s.2∧s.2≤1048576)∧UC s.2 (l.drop s.1)=UC 0 l∧c=w) (fun s=>l.length - s.1) ((0,0)) ⟨rfl,rfl,rfl,trivial⟩ ?_ ?_
 ·exact ⟨by simp,by simp,by simp,rfl⟩
 rintro ⟨i,n⟩ o ⟨k,m,b,rfl⟩
 dsimp only at k m b ⊢
 refine An<|Af<|Ac O<|Ac O<|Aa (Au AC O ‹_›) O ?_
 refine B3 O<|Ak<|Aq O ?_ ?_
 ·intro h
  have a:i<l.length:=by simp at h;omega
  have p:0≤l.getD i default∧l.getD i default≤4503599627370496:=by
   have:=j l[i] (getElem_mem a)
   simpa [a] using this
  rw [Un a] at b
  refine B0<|An<|Ao<|Af<|Ac O<|Ac O<|Ac O<|Aa (Ay AC O O ‹_› _ O (by omega)) O ?_
  refine Aa (Bj (AK _) O ‹_› (by omega)) O ?_
  refine B7 O (by omega)<|Ab O<|Bl<|Ac O<|Aa (Dr O O) O<|Ak<|Aq O ?_ ?_
  ·intro g
   have d:=AD g
   exact Af<|Ab rfl<|Bc<|Bi<|Av<|Av<|Bi<|Av<|Ax rfl rfl<|⟨by rw [← b,if_pos d],Below.refl _ _⟩
  ·intro g
   have d:=AB g
   rw [if_neg d] at b
   refine Cp<|Bn<|Ch<|Ac O<|B7 O (by omega)<|Ab O<|Bf ?_
   exact Ap (Pw.next ((i+1,n+l.getD i default)) ⟨rfl,rfl,rfl,trivial⟩ (⟨a,⟨by simp only;omega,by simp only;omega⟩,b,rfl⟩) (by simp only;omega))
 ·intro h
  have a:i=l.length:=by simp at h;omega
  subst a
  refine Bp<|Al<|Al<|Bd<|Cm<|Ab O<|Bc<|Ax O O ?_
  exact ⟨by rw [← b,drop_length];rfl,Below.refl _ _⟩

theorem Ri.get {W w:World} {r:Value} {e:Int} {s:List Int} {l:List (BitVec 32)} (h:Ri W w r e s l):∃a:T4,r= .tuple #[a.v, .int .i64 e]∧a.at w∧(e≠0→a.s=[]∧a.l=[]∧a.x= .slice none 0 0∧a.y= .slice none 0 0)∧(e=0→a.s=s∧a.l=l∧DA W w a.x a.y s l):=by
 obtain ⟨x,y,rfl,c,b⟩:=h
 by_cases he:e=0
 ·exact ⟨⟨x,y,s,l⟩,rfl,(b he).at,fun h=>absurd he h,fun _=>⟨rfl,rfl,b he⟩⟩
 ·obtain ⟨rfl,rfl⟩:=c he
  exact ⟨⟨_,_,[],[]⟩,rfl,Xf w,fun _=>⟨rfl,rfl,rfl,rfl⟩,fun h=>absurd h he⟩
def e2 (s:List Int) (l:List (BitVec 32)) (t:List Int) (m:List (BitVec 32)):Int:=if tok s l && tok t m then (if t=s then 0 else 10) else 1
def e1 (s:List Int) (l:List (BitVec 32)):Int:=if tok s l then 0 else 1
def z2 (f:BitVec 32→BitVec 32→BitVec 32) (s:List Int) (l m:List (BitVec 32)):List (BitVec 32):=(range (Shapes.size s).toNat).map fun i=>f (l.getD i default) (m.getD i default)
def z1 (f:BitVec 32→BitVec 32) (s:List Int) (l:List (BitVec 32)):List (BitVec 32):=(range (Shapes.size s).toNat).map fun i=>f (l.getD i default)
theorem QL (a b:T4):Ko [a,b] a.s=e2 a.s a.l b.s b.l:=by
 simp only [Ko,e2,all_cons,all_nil,T4.ok,Bool.and_true,decide_true,Bool.true_and,decide_eq_true_eq]
theorem QM (a:T4):Ko [a] a.s=e1 a.s a.l:=by
 simp [Ko,e1,T4.ok]
theorem Ri.gets {W w:World} {r:Value} {e:Int} {s:List Int} {l:List (BitVec 32)} (h:Ri W w r e s l):IM W w r e s l:=by
 obtain ⟨a,d,b,f,c⟩:=h.get
 exact ⟨a,d,b,f,c⟩
theorem YG (a b:T4) (W:World) (e:a.at W) (g:b.at W):AM prog 113 [a.v,b.v] W (fun r c=>Below W.heap.size W c∧IM W c r (e2 a.s a.l b.s b.l) a.s (z2 (·+·) a.s a.l b.l)):=
 (YH a b W e g).mono fun r c ⟨f,d⟩=>⟨f,by rw [QL] at d;exact d.gets⟩
theorem Yt (a b:T4) (W:World) (e:a.at W) (g:b.at W):AM prog 114 [a.v,b.v] W (fun r c=>Below W.heap.size W c∧IM W c r (e2 a.s a.l b.s b.l) a.s (z2 (·*·) a.s a.l b.l)):=
 (Yu a b W e g).mono fun r c ⟨f,d⟩=>⟨f,by rw [QL] at d;exact d.gets⟩
theorem WR (a:T4) (W:World) (e:a.at W):AM prog 118 [a.v] W (fun r b=>Below W.heap.size W b∧IM W b r (e1 a.s a.l) a.s (z1 Ik a.s a.l)):=
 (WS a W e).mono fun r b ⟨d,c⟩=>⟨d,by rw [QM] at c;exact c.gets⟩
def U9 (j:Nat) (x:BitVec 32):BitVec 32:=BitVec.ofInt 32 (YT j x.toInt)
def OZ (s:List Int) (l:List (BitVec 32)) (n:Int):Int:=if n<0∨31<n then 1 else e1 s l
theorem US (a:T4) (n:Int) (W:World) (e:a.at W):AM prog 120 [a.v, .int .i64 n] W (fun r b=>Below W.heap.size W b∧IM W b r (OZ a.s a.l n) a.s (z1 (U9 n.toNat) a.s a.l)):=
 (UT a n W e).mono fun r b ⟨d,c⟩=>⟨d,by unfold Wj at c;rw [QM] at c;exact c.gets⟩

theorem Hv {s:List Int} {i:Nat} (h:i<s.length):Shapes.prod (s.take (i+1))=Shapes.prod (s.take i)*s.getD i default:=by
 rw [take_succ_eq_append_getElem h,Shapes.prod_append]
 simp [Shapes.prod,h]
theorem RF {s:List Int} {i:Nat} (h:i<s.length) (a:Shapes.good (s.take i)) (b:1≤s.getD i default∧s.getD i default≤64):Shapes.good (s.take (i+1)):=by
 rw [take_succ_eq_append_getElem h,Shapes.good_append]
 refine ⟨a,fun x c=> ?_⟩
 have:x=s.getD i default:=by simpa [h] using c
 rw [this];exact b
theorem I7:∀{s:List Int},Shapes.good s→s.length≤4→1≤Shapes.prod s∧Shapes.prod s≤16777216
 |s,hg,hl=>by
  have key:∀(s:List Int),Shapes.good s→Shapes.prod s≤64 ^ s.length:=by
   intro s
   induction s with
   |nil=>intro _;simp [Shapes.prod]
   |cons x s ih=>
    intro h
    have b:=(Shapes.good_cons.1 h).1
    have a:=ih (Shapes.good_cons.1 h).2
    have c:=Shapes.prod_pos (Shapes.good_cons.1 h).2
    have:=Int.mul_le_mul b.2 a (by omega) (by omega)
    rw [length_cons,Int.pow_succ,Int.mul_comm ((64:Int) ^ s.length)]
    exact this
  refine ⟨Shapes.prod_pos hg,Int.le_trans (key s hg) ?_⟩
  have:s.length=0∨s.length=1∨s.length=2∨s.length=3∨s.length=4:=by omega
  rcases this with h|h|h|h|h<;>rw [h]<;>decide
theorem CV (u:Value) (s:List Int) (w:World) (x:BS (Value.int .i64) w u s):AM prog 137 [u] w (fun r j=>r= .bool (Shapes.ok s)∧Below w.heap.size w j):=by
 have d:(s.length<1∨4<s.length)→Shapes.ok s=false:=fun h=>by
  cases hk:Shapes.ok s with
  |false=>rfl
  |true=>have:=(Shapes.ok_iff s).1 hk;omega
 refine Bb (n:=39) func137 O<|Af<|Ab O<|Bh<|Ac O<|Aa (Au AC O ‹_›) O ?_
 refine B3 O<|Ac O ?_
 refine Cc 8 O ?_ ?_
 ·intro g
  refine Ae (dj:=8) O O O O<|Ae (dj:=8) O O O O<|Ae (dj:=8) O O O O<|B4 O<|Ak<|Bz O<|Af<|Ab O<|Bu<|Ax O O ?_
  exact ⟨by rw [d (.inl (by have:=AD g;omega))],Below.refl _ _⟩
 intro g
 have v:=AB g
 refine Ag (dj:=8) O O<|Ac O<|Ag (dj:=8) O O<|Aa (Au AC O ‹_›) O ?_
 refine Ag (dj:=8) O O<|Aa (Dr O O) O<|Cn O<|Ak<|Aq O ?_ ?_
 ·intro g
  refine Af<|Ab O<|Bu<|Ax O O ?_
  exact ⟨by rw [d (.inr (by have:=AD g;omega))],Below.refl _ _⟩
 intro g
 have q:=AB g
 have m:1≤s.length∧s.length≤4:=by omega
 refine Co<|Ab O<|Bh<|Ab O<|Ak<|Ao ?_
 refine Bq (S:=Nat) (fun i=>[(0,u),(2, .bool false),(3, .int .i64 (Shapes.prod (s.take i))),(4, .int .i64 (i:Int))]) (fun i j=>i≤s.length∧Shapes.good (s.take i)∧j=w) (fun i=>s.length - i) (0) ⟨rfl,rfl,rfl,rfl,trivial⟩ ?_ ?_
 ·exact ⟨by omega,by simp [Shapes.good],rfl⟩
 rintro i p ⟨y,f,rfl⟩
 have l:=I7 f (by rw [length_take];omega)
 refine An<|Af<|Ac O<|Ac O<|Aa (Au AC O ‹_›) O ?_
 refine B3 O<|Ak<|Aq O ?_ ?_
 ·intro h
  have a:i<s.length:=by simp at h;omega
  have b:(s.getD i default<1∨64<s.getD i default)→Shapes.ok s=false:=fun h=>by
   cases hk:Shapes.ok s with
   |false=>rfl
   |true=>
    have:=((Shapes.ok_iff s).1 hk).2.1 s[i] (getElem_mem a)
    simp [a] at h
    omega
  refine B0<|An<|Ao<|An<|Af<|Ac O<|Ac O<|Aa (Ay AC O O ‹_› _ O (by omega)) O ?_
  refine Aa (Bj (AK _) O ‹_› (by omega)) O ?_
  refine B3 O<|Ac O ?_
  refine Cc 24 O ?_ ?_
  ·intro g
   exact Ae (dj:=24) rfl rfl rfl rfl<|Ae (dj:=24) rfl rfl rfl rfl<|Ae (dj:=24) rfl rfl rfl rfl<|Ae (dj:=24) rfl rfl rfl rfl<|Ae (dj:=24) rfl rfl rfl rfl<|B4 rfl<|Ak<|Bz rfl<|Af<|Ab rfl<|Bu<|Bi<|Av<|Av<|Bi<|Av<|Ax rfl rfl<|⟨by rw [b (.inl (AD g))],Below.refl _ _⟩
  intro g
  have z:=AB g
  refine Ag (dj:=24) O O<|Ac O<|Ag (dj:=24) O O<|Ac O<|Ag (dj:=24) O O<|Aa (Ay AC O O ‹_› _ O (by omega)) O ?_
  refine Ag (dj:=24) O O<|Aa (Bj (AK _) O ‹_› (by omega)) O ?_
  refine Ag (dj:=24) O O<|Aa (Dr O O) O<|Cn O<|Ak<|Aq O ?_ ?_
  ·intro g
   exact Af<|Ab rfl<|Bu<|Bi<|Av<|Av<|Bi<|Av<|Ax rfl rfl<|⟨by rw [b (.inr (AD g))],Below.refl _ _⟩
  intro g
  have t:=AB g
  have o:1≤s.getD i default∧s.getD i default≤64:=by omega
  have c:=RF a f o
  have k:=I7 c (by rw [length_take];omega)
  rw [Hv a] at k
  refine B0<|Bw<|Ac O<|Ac O<|Ac O<|Aa (Ay AC O O ‹_› _ O (by omega)) O ?_
  refine Aa (Bj (AK _) O ‹_› (by omega)) O ?_
  refine Aa (C6 O O (by omega)) O<|Ab O<|Bf<|Bn<|Ch<|Ac O<|B7 O (by omega)<|Ab O<|Bf ?_
  exact Ap (Pw.next (i+1) ⟨rfl,rfl,(by rw [Hv a];rfl),rfl,trivial⟩ (⟨a,c,rfl⟩) (by omega))
 intro h
 have a:i=s.length:=by simp at h;omega
 subst a
 rw [take_length] at f l
 have e:decide (Shapes.prod (s.take s.length)≤4096)=Shapes.ok s:=by
  rw [take_length]
  cases hk:Shapes.ok s with
  |true=>exact decide_eq_true ((Shapes.ok_iff s).1 hk).2.2
  |false=>
   refine decide_eq_false fun h=> ?_
   have:=(Shapes.ok_iff s).2 ⟨m,f,h⟩
   rw [hk] at this;cases this
 exact Bp<|Al<|Al<|Bd<|Cm<|Ac rfl<|Aa (D8 rfl rfl) rfl<|Ab rfl<|Bc<|Ax rfl rfl<|⟨by rw [← e],Below.refl _ _⟩
theorem HH (u:Value) (s:List Int) (w:World) (d:BS (Value.int .i64) w u s):AM prog 147 [u] w (fun r c=>r= .int .i64 (Shapes.size s)∧Below w.heap.size w c):=by
 refine Bb (n:=21) func147 O<|Af<|Ab O<|Bh<|Ac O<|Aj O O (CV u s w d) ?_
 rintro _ j ⟨rfl,e⟩
 have d:=d.bs e
 refine Aa (Ck O) O<|Ak<|Aq O ?_ ?_
 ·intro g
  exact Af<|Ab rfl<|Bu<|Ax rfl rfl<|⟨by rw [Shapes.size_no (by simpa using g)],e⟩
 intro g
 have f:Shapes.ok s=true:=by simpa using g
 have k:=(Shapes.ok_iff s).1 f
 refine Co<|Ab O<|Bh<|Ab O<|Ak<|Ao ?_
 refine Bq (S:=Nat) (fun i=>[(0,u),(3, .int .i64 (Shapes.prod (s.take i))),(4, .int .i64 (i:Int))]) (fun i c=>i≤s.length∧c=j) (fun i=>s.length - i) (0) ⟨rfl,rfl,rfl,trivial⟩ ?_ ?_
 ·exact ⟨by omega,rfl⟩
 rintro i m ⟨o,rfl⟩
 refine An<|Af<|Ac O<|Ac O<|Aa (Au AC O ‹_›) O ?_
 refine B3 O<|Ak<|Aq O ?_ ?_
 ·intro h
  have a:i<s.length:=by simp at h;omega
  have b:=I7 (s:=s.take (i+1)) (fun x l=>k.2.1 x (mem_of_mem_take l)) (by rw [length_take];omega)
  rw [Hv a] at b
  refine B0<|An<|Ao<|Bw<|Ac O<|Ac O<|Ac O<|Aa (Ay AC O O ‹_› _ O (by omega)) O ?_
  refine Aa (Bj (AK _) O ‹_› (by omega)) O ?_
  refine Aa (C6 O O (by omega)) O<|Ab O<|Bf<|Bn<|Ch<|Ac O<|B7 O (by omega)<|Ab O<|Bf ?_
  exact Ap (Pw.next (i+1) ⟨rfl,(by rw [Hv a];rfl),rfl,trivial⟩ (⟨a,rfl⟩) (by omega))
 intro h
 have a:i=s.length:=by simp at h;omega
 subst a
 exact Bp<|Al<|Al<|Bd<|Cm<|Ac rfl<|Ab rfl<|Bc<|Ax rfl rfl<|⟨by rw [take_length,Shapes.size_ok f],e⟩
theorem J8 (u v:Value) (a b:List Int) (w:World) (s:BS (Value.int .i64) w u a) (A:BS (Value.int .i64) w v b):AM prog 229 [u,v] w (fun r m=>r= .bool (decide (a=b))∧Below w.heap.size w m):=by
 have B:=s.le
 refine Bb (n:=26) func229 O<|Af<|Ab O<|Bh<|Ac O<|Aa (Au AC O ‹_›) O ?_
 refine Ac O<|Aa (Au AC O ‹_›) O ?_
 refine Aa (Cs O O) O<|Ak<|Aq O ?_ ?_
 ·intro h
  have o:a≠b:=fun e=>by subst e;simp at h
  exact Af<|Ab rfl<|Bu<|Ax rfl rfl<|⟨by rw [decide_eq_false o],Below.refl _ _⟩
 intro h
 have z:a.length=b.length:=by simp at h;omega
 refine B0<|An<|Af<|Ab O<|Ak<|Ao ?_
 refine Bq (S:=Nat) (fun i=>[(0,u),(1,v),(4, .bool false),(5, .int .i64 (i:Int))]) (fun i m=>i≤a.length∧a.take i=b.take i∧Below w.heap.size w m) (fun i=>a.length - i) (0) ⟨rfl,rfl,rfl,rfl,trivial⟩ ?_ ?_
 ·exact ⟨by omega,by simp,Below.refl _ _⟩
 rintro i j ⟨C,p,f⟩
 have t:=s.bs f
 have x:=A.bs f
 refine An<|Af<|Ac O<|Ac O<|Aa (Au AC O ‹_›) O ?_
 refine B3 O<|Ak<|Aq O ?_ ?_
 ·intro h
  have c:i<a.length:=by simp at h;omega
  have k:i<b.length:=by omega
  refine B0<|An<|Ao<|An<|Cv AS (by kernel_rfl)<|Bg O<|Bg O<|Ad (fun j d=>Ay AC O O (Sl.bs ‹_› d) _ O (by omega)) O ?_
  refine Ad (fun j d=>Bj (AK _) O (Sl.bs ‹_› d) (by omega)) O ?_
  refine Bg O<|Bg O<|Ad (fun j d=>Ay AC O O (Sl.bs ‹_› d) _ O (by omega)) O ?_
  refine Ad (fun j d=>Bj (AK _) O (Sl.bs ‹_› d) (by omega)) O ?_
  refine Ad (fun j d=>Cs O O) O ?_
  refine Cr (fun D d=> ?_)
  refine Ap<|B8 ?_
  have l:=bt f d
  refine Aq O ?_ ?_
  ·intro g
   have q:a.getD i default≠b.getD i default:=by simpa using g
   exact Af<|Ab rfl<|Bc<|Bi<|Av<|Av<|Bi<|Av<|Ax rfl rfl<|⟨by rw [decide_eq_false (fun e=>q (by rw [e]))],l⟩
  ·intro g
   have q:a.getD i default=b.getD i default:=by simpa using g
   have y:a[i]=b[i]:=by simpa [c,k] using q
   refine Cp<|Bn<|Ch<|Ac O<|B7 O (by omega)<|Ab O<|Bf ?_
   exact Ap (Pw.next (i+1) ⟨rfl,rfl,rfl,rfl,trivial⟩ (⟨c,by rw [take_succ_eq_append_getElem c,take_succ_eq_append_getElem k,p,y],l⟩) (by omega))
 ·intro h
  have c:i=a.length:=by simp at h;omega
  subst c
  refine Bp<|Al<|Al<|Bd<|Cm<|Ab O<|Bc<|Ax O O ?_
  exact ⟨by rw [decide_eq_true (by rw [take_length,z,take_length] at p;exact p)],f⟩
theorem JJ {s t:List Int} (h:Shapes.ok s=false∨Shapes.inn s t=false):Shapes.index s t=(0,1):=by
 unfold Shapes.index
 rw [if_neg]
 rcases h with h|h<;>simp [h]
theorem GP {s t:List Int} (a:Shapes.ok s=true) (b:Shapes.inn s t=true):Shapes.index s t=(Shapes.idx s t,0):=by
 unfold Shapes.index
 rw [a,b]
 rfl
theorem Zq {s t:List Int} {n:Int} {i:Nat} (a:i<s.length) (b:t.length=s.length) (h:n*Shapes.prod (s.drop i)+Shapes.idx (s.drop i) (t.drop i)=Shapes.idx s t):
  (n*s.getD i default+t.getD i default)*Shapes.prod (s.drop (i+1))+Shapes.idx (s.drop (i+1)) (t.drop (i+1))=Shapes.idx s t:=by
 rw [Shapes.prod_drop a,Shapes.idx_drop a b] at h
 rw [← h,Int.add_mul,Int.mul_assoc,Int.add_assoc]
theorem Xv {s:List Int} {n a:Int} {i:Nat} (b:i<s.length) (d:0≤n∧n<Shapes.prod (s.take i)) (e:0≤a∧a<s.getD i default):0≤n*s.getD i default∧0≤n*s.getD i default+a∧n*s.getD i default+a<Shapes.prod (s.take (i+1)):=by
 have f:=Int.mul_nonneg d.1 (show 0≤s.getD i default by omega)
 have c:=Int.mul_le_mul_of_nonneg_right (show n+1≤Shapes.prod (s.take i) by omega) (show 0≤s.getD i default by omega)
 rw [Int.add_mul] at c
 rw [Hv b]
 omega
theorem Ij (s t:List Int) (u v:Value) (W:World) (l:BS (Value.int .i64) W u s) (A:BS (Value.int .i64) W v t):
  AM prog 150 [u,v] W (fun r B=>r= .tuple #[.int .i64 (Shapes.index s t).1, .int .i64 (Shapes.index s t).2]∧Below W.heap.size W B):=by
 have k:=Below.refl W.heap.size W
 refine Bb (n:=52) func150 O<|Af<|Ab O<|Ab O<|Bh<|Ac O<|Aj O O (CV u s _ l) ?_
 rintro _ w ⟨rfl,m⟩
 have k:=k.bs m
 have l:=l.bs m
 have A:=A.bs m
 refine Aa (Ck O) O<|Ac O ?_
 refine Cc 11 O ?_ ?_
 ·intro g
  have e:=JJ (s:=s) (t:=t) (.inl (by simpa using g))
  exact Ae (dj:=11) rfl rfl rfl rfl<|Ae (dj:=11) rfl rfl rfl rfl<|Ae (dj:=11) rfl rfl rfl rfl<|Ae (dj:=11) rfl rfl rfl rfl<|Ae (dj:=11) rfl rfl rfl rfl<|B4 rfl<|Ak<|Bz rfl<|Af<|Ab rfl<|Ab rfl<|Bu<|Bx rfl rfl rfl<|⟨by rw [e],k⟩
 intro g
 have F:Shapes.ok s=true:=by simpa using g
 refine Ag (dj:=11) O O<|Ac O<|Ag (dj:=11) O O<|Aa (Au AC O ‹_›) O ?_
 refine Ag (dj:=11) O O<|Ac O<|Ag (dj:=11) O O<|Aa (Au AC O ‹_›) O ?_
 refine Ag (dj:=11) O O<|Aa (Cs O O) O<|Cn O<|Ak<|Aq O ?_ ?_
 ·intro g
  have e:=JJ (s:=s) (t:=t) (.inr (by
   cases h:Shapes.inn s t with
   |false=>rfl
   |true=>have:=Shapes.inn_length h;simp [this] at g))
  exact Af<|Ab rfl<|Ab rfl<|Bu<|Bx rfl rfl rfl<|⟨by rw [e],k⟩
 intro g
 have C:t.length=s.length:=by simp at g;omega
 have D:=(Shapes.ok_iff s).1 F
 have Q:=l.le
 refine Co<|Ab O<|Bh<|Ab O<|Ak<|Ao ?_
 refine Bq (S:=(Nat×Int)) (fun z=>[(0,u),(1,v),(4, .int .i64 0),(5, .int .i64 0),(6, .int .i64 z.2),(7, .int .i64 (z.1:Int))]) (fun z B=>z.1≤s.length∧(0≤z.2∧z.2<Shapes.prod (s.take z.1))∧z.2*Shapes.prod (s.drop z.1)+Shapes.idx (s.drop z.1) (t.drop z.1)=Shapes.idx s t∧Shapes.inn (s.drop z.1) (t.drop z.1)=Shapes.inn s t∧Below w.heap.size w B) (fun z=>s.length - z.1) ((0,0)) ⟨rfl,rfl,rfl,rfl,rfl,rfl,trivial⟩ ?_ ?_
 ·exact ⟨by simp,by simp [Shapes.prod],by simp,by simp,Below.refl _ _⟩
 rintro ⟨i,n⟩ c ⟨N,m,y,E,p⟩
 dsimp only at N m y E ⊢
 have H:=l.bs p
 have G:=A.bs p
 refine An<|Af<|Ac O<|Ac O<|Aa (Au AC O ‹_›) O ?_
 refine B3 O<|Ak<|Aq O ?_ ?_
 ·intro h
  have d:i<s.length:=by simp at h;omega
  have K:i<t.length:=by omega
  have j:=Shapes.inn_drop d C
  rw [E] at j
  refine B0<|An<|Ao<|An<|An<|Cv AS (by kernel_rfl)<|Bg O<|Bg O<|Ad (fun c b=>Ay AC O O (Sl.bs ‹_› b) _ O (by omega)) O ?_
  refine Ad (fun c b=>Bj (AK _) O (Sl.bs ‹_› b) (by omega)) O ?_
  refine Ad (fun c b=>Eh O O) O<|Bg O ?_
  refine Dm 29 O ?_ ?_
  ·intro g
   have L:=AD g
   have e:=JJ (s:=s) (t:=t) (.inr (by rw [j,decide_eq_false (show ¬0≤t.getD i default by omega)];rfl))
   refine Ar (dj:=29) O O O O<|Ar (dj:=29) O O O O<|Ar (dj:=29) O O O O<|Ar (dj:=29) O O O O<|Ar (dj:=29) O O O O<|Ar (dj:=29) O O O O<|Ar (dj:=29) O O O O<|Ar (dj:=29) O O O O<|Ar (dj:=29) O O O O<|Ad (fun c b=>Ct O O) O ?_
   refine Cr (fun R b=> ?_)
   exact Ap<|B8<|Bz rfl<|Af<|Ab rfl<|Ab rfl<|Bu<|Bi<|Av<|Av<|Bi<|Av<|Bx rfl rfl rfl<|⟨by rw [e],bt k (bt p b)⟩
  intro g
  have V:=AB g
  refine Ba (dj:=29) O O<|Bg O<|Ba (dj:=29) O O<|Bg O<|Ba (dj:=29) O O<|Ad (fun c b=>Ay AC O O (Sl.bs ‹_› b) _ O (by omega)) O ?_
  refine Ba (dj:=29) O O<|Ad (fun c b=>Bj (AK _) O (Sl.bs ‹_› b) (by omega)) O ?_
  refine Ba (dj:=29) O O<|Bg O<|Ba (dj:=29) O O<|Bg O<|Ba (dj:=29) O O<|Ad (fun c b=>Ay AC O O (Sl.bs ‹_› b) _ O (by omega)) O ?_
  refine Ba (dj:=29) O O<|Ad (fun c b=>Bj (AK _) O (Sl.bs ‹_› b) (by omega)) O ?_
  refine Ba (dj:=29) O O<|Ad (fun c b=>Ds O O) O<|Ad (fun c b=>Cz O O) O ?_
  refine Cr (fun R b=> ?_)
  refine Ap<|B8 ?_
  have f:=bt p b
  refine Aq O ?_ ?_
  ·intro g
   have L:=AD g
   have e:=JJ (s:=s) (t:=t) (.inr (by rw [j,decide_eq_false (show ¬t.getD i default<s.getD i default by omega),Bool.and_false];rfl))
   exact Af<|Ab rfl<|Ab rfl<|Bu<|Bi<|Av<|Av<|Bi<|Av<|Bx rfl rfl rfl<|⟨by rw [e],bt k f⟩
  intro g
  have U:=AB g
  have o:=Xv d m (a:=t.getD i default) (by omega)
  have M:=I7 (s:=s.take (i+1)) (fun x y=>D.2.1 x (mem_of_mem_take y)) (by rw [length_take];omega)
  have I:=l.bs f
  have J:=A.bs f
  have q:Shapes.inn (s.drop (i+1)) (t.drop (i+1))=Shapes.inn s t:=by
   rw [j,decide_eq_true (show 0≤t.getD i default by omega),decide_eq_true (show t.getD i default<s.getD i default by omega)];rfl
  clear b
  refine B0<|Cv AS (by kernel_rfl)<|Bg O<|Bg O<|Bg O<|Ad (fun c b=>Ay AC O O (Sl.bs ‹_› b) _ O (by omega)) O ?_
  refine Ad (fun c b=>Bj (AK _) O (Sl.bs ‹_› b) (by omega)) O ?_
  refine Ad (fun c b=>C6 O O (by omega)) O<|Bg O<|Bg O<|Ad (fun c b=>Ay AC O O (Sl.bs ‹_› b) _ O (by omega)) O ?_
  refine Ad (fun c b=>Bj (AK _) O (Sl.bs ‹_› b) (by omega)) O ?_
  refine Ad (fun c b=>De O O (by omega)) O<|Dk O ?_
  refine Cr (fun T b=> ?_)
  refine Bn<|Ch<|Ac O<|B7 O (by omega)<|Ab O<|Bf ?_
  exact Ap (Pw.next ((i+1,n*s.getD i default+t.getD i default)) ⟨rfl,rfl,rfl,rfl,rfl,rfl,trivial⟩ (⟨d,⟨o.2.1,o.2.2⟩,Zq d C y,q,bt f b⟩) (by simp only;omega))
 intro h
 have d:i=s.length:=by simp at h;omega
 subst d
 have e:=GP F (by rw [← E,drop_length,← C,drop_length];rfl)
 have e2:n=Shapes.idx s t:=by
  rw [← y,drop_length]
  simp [Shapes.prod,Shapes.idx]
 exact Bp<|Al<|Al<|Bd<|Cm<|Ac rfl<|Ab rfl<|Ab rfl<|Bc<|Bx rfl rfl rfl<|⟨by rw [e,e2],bt k p⟩
theorem XB {f l:List Int} {m:Nat} (c:f.length=l.length) (h:m<l.length):(f.take (m+1)++l.drop (m+1)).set m (l.getD m default)=f.take m++l.drop m:=by
 apply ext_getElem (by simp;omega)
 intro j g d
 have a:(f.take m).length=m:=by simp;omega
 have b:(f.take (m+1)).length=m+1:=by simp;omega
 rw [getElem_set]
 split
 ·rename_i e
  subst e
  rw [getElem_append_right (by omega)]
  simp [a,h]
 ·rename_i e
  by_cases h5:j<m
  ·rw [getElem_append_left (by omega),getElem_append_left (by omega)]
   simp
  ·rw [getElem_append_right (by omega),getElem_append_right (by omega)]
   simp only [getElem_drop,a,b]
   congr 1
   omega
theorem Wk (s:List Int) (u:Value) (i:Int) (W:World) (d:BS (Value.int .i64) W u s):
  AM prog 149 [u, .int .i64 i] W (fun r t=>Below W.heap.size W t∧∃x,r= .tuple #[x, .int .i64 (Shapes.ate s i)]∧t.ownsRow W.heap.size 3 1 x (Shapes.atl s i).length ((Shapes.atl s i).map (Value.int .i64))):=by
 have j:=Below.refl W.heap.size W
 have X:=Shapes.size_le s
 refine Bb (n:=47) func149 O<|Af<|Ab O<|Ab O<|Bh<|Ac O<|Aj O O (CV u s _ d) ?_
 rintro _ w ⟨rfl,o⟩
 have j:=j.bs o
 have d:=d.bs o
 refine Aa (Ck O) O<|Ac O ?_
 refine Cc 11 O ?_ ?_
 ·intro g
  have e:¬(0≤i∧i<Shapes.size s):=by rw [Shapes.size_no (by simpa using g)];omega
  refine Ae (dj:=11) O O O O<|Ae (dj:=11) O O O O<|B4 O<|Ac O<|Ae (dj:=15) O O O O<|Ae (dj:=15) O O O O<|Ae (dj:=15) O O O O<|Ae (dj:=15) O O O O<|B4 O<|Ak<|Bz O<|Af<|Ab O<|Ab O<|Bu<|Bx O O O ?_
  exact ⟨j,_,by rw [Shapes.ate,if_neg e],by rw [Shapes.atl,if_neg e];exact ⟨rfl, .inl ⟨rfl,rfl⟩⟩⟩
 intro g
 have N:Shapes.ok s=true:=by simpa using g
 refine Ag (dj:=11) O O<|Ac O<|Ag (dj:=11) O O<|B3 O<|Cn O<|Ac O ?_
 refine Cc 15 O ?_ ?_
 ·intro g
  have e:¬(0≤i∧i<Shapes.size s):=by have:=AD g;omega
  refine Ae (dj:=15) O O O O<|Ae (dj:=15) O O O O<|Ae (dj:=15) O O O O<|Ae (dj:=15) O O O O<|B4 O<|Ak<|Bz O<|Af<|Ab O<|Ab O<|Bu<|Bx O O O ?_
  exact ⟨j,_,by rw [Shapes.ate,if_neg e],by rw [Shapes.atl,if_neg e];exact ⟨rfl, .inl ⟨rfl,rfl⟩⟩⟩
 intro g
 have g1:=AB g
 refine Ag (dj:=15) O O<|Ac O<|Ag (dj:=15) O O<|Ac O<|Ag (dj:=15) O O<|Aj O O (HH u s _ d) ?_
 rintro _ w ⟨rfl,o⟩
 have j:=j.bs o
 have d:=d.bs o
 refine Ag (dj:=15) O O<|Aa (Ds O O) O<|Cn O<|Ak<|Aq O ?_ ?_
 ·intro g
  have e:¬(0≤i∧i<Shapes.size s):=by have:=AD g;omega
  refine Af<|Ab O<|Ab O<|Bu<|Bx O O O ?_
  exact ⟨j,_,by rw [Shapes.ate,if_neg e],by rw [Shapes.atl,if_neg e];exact ⟨rfl, .inl ⟨rfl,rfl⟩⟩⟩
 intro g
 have e:0≤i∧i<Shapes.size s:=by have:=AB g;omega
 have M:=(Shapes.ok_iff s).1 N
 refine Co<|Ac O<|Aa (Au AC O ‹_›) O ?_
 refine Bk (Ed AC DI O O O (AX _) (by omega) (by omega)) O ?_
 rintro x w1 ⟨J,hx,o, -⟩
 obtain ⟨pl,p⟩:∃pl,pl=Shapes.place s i:=⟨_,rfl⟩
 obtain ⟨f,Q⟩:∃f,f=replicate s.length (0:Int):=⟨_,rfl⟩
 have I:pl.length=s.length:=by rw [p,Shapes.place_length]
 have lf:f.length=pl.length:=by rw [Q,length_replicate,I]
 have K:(replicate s.length [Value.int .i64 0]).flatten=f.map (Value.int .i64):=by
  rw [Q]
  generalize s.length=k
  induction k with
  |zero=>rfl
  |succ k ih=>simp [replicate_succ]
 rw [K] at J
 have e1:i / Shapes.prod (s.drop s.length)=i:=by rw [drop_length];simp [Shapes.prod]
 have T:=d.bs o
 refine Ab O<|Bh<|Ac O<|Aa (Au AC O ‹_›) O ?_
 refine Aa (Du O O (by omega)) O<|Ab O<|Ak<|Ao<|D5 1 (v' := .int .i64 (i / Shapes.prod (s.drop s.length))) O (by rw [e1]) ?_
 refine Bq (S:=Nat) (fun m=>[(0,u),(1, .int .i64 (i / Shapes.prod (s.drop m))),(4, .slice none 0 0),(5, .int .i64 0),(6,x),(7, .int .i64 ((m:Int) - 1))]) (fun m t=>m≤s.length∧t.ownsRow w.heap.size 3 1 x s.length ((f.take m++pl.drop m).map (Value.int .i64))∧Below w.heap.size w t) (fun m=>m) (s.length) ⟨rfl,rfl,rfl,rfl,rfl,rfl,trivial⟩ ?_ ?_
 ·exact ⟨AX _,by rw [← I,drop_length,append_nil,← lf,take_length,lf,I];exact J,o⟩
 clear J
 rintro m w2 ⟨hm,c,B⟩
 have G:=d.bs B
 have E:=AI c
 refine An<|Af<|Ac O<|Aa (Ds O O) O<|Ak<|Aq O ?_ ?_
 ·intro h
  obtain ⟨q,rfl⟩:∃q,m=q+1:=⟨m - 1,by simp at h;omega⟩
  have a:q<s.length:=by omega
  have R:=M.2.1 s[q] (getElem_mem a)
  have V:s.getD q default=s[q]:=by simp [a]
  have Y:=Shapes.ok_prod N (q+1)
  have L:=Int.ediv_nonneg e.1 (show 0≤Shapes.prod (s.drop (q+1)) by omega)
  have Z:=Int.ediv_le_self (Shapes.prod (s.drop (q+1))) e.1
  have l:=Shapes.place_at (i:=i) a
  rw [← p] at l
  have A:=XB lf (show q<pl.length by omega)
  have C:i / Shapes.prod (s.drop (q+1)) / s.getD q default=i / Shapes.prod (s.drop q):=by rw [Shapes.prod_drop a,Int.ediv_ediv_of_nonneg (by omega),Int.mul_comm]
  refine B0<|An<|Ao<|Af<|Ac O<|Ac O<|Ac O<|Ac O<|Ac O<|Aa (Dn AC O O G.shp q (by omega) a) O<|Aa (Bj (AK _) O ‹_› (by omega)) O ?_
  refine Aa ((El O O L (by omega)).as (cngA (Value.int .i64) l.symm)) O<|Aa (Dn AC O O E.shp q (by omega) a) O<|Az (D3 (BA _) O O O c (by simp;omega)) ?_
  rintro U ⟨v,H, -⟩
  rw [← map_set,A] at v
  have y:Below w.heap.size w U:=B.grown H (AA B) (fun b e=>(AG c b e).1)
  have F:=d.bs y
  refine Ak<|Bw<|Ac O<|Ac O<|Ac O<|Aa (Dn AC O O F.shp q (by omega) a) O<|Aa (Bj (AK _) O ‹_› (by omega)) O ?_
  refine Aa ((Dz O O (by omega) (by omega)).as (cngA (Value.int .i64) C)) O<|Ab O<|Bf<|Bn<|Ch<|Ac O<|Aa (Du O O (by omega)) O<|Ab O<|Bf ?_
  exact Ap (Pw.next (q) ⟨rfl,rfl,rfl,rfl,rfl,(cngA (fun z=>some (Value.int .i64 z)) (by omega)),trivial⟩ (⟨by omega,v,y⟩) (by omega))
 intro h
 have D:m=0:=by simp at h;omega
 subst D
 rw [take_zero,nil_append,drop_zero,p] at c
 refine Bp<|Al<|Al<|Bd<|Cm<|Ac O<|Ab O<|Ab O<|Bc<|Bx O O O ?_
 exact ⟨bt j B,x,by rw [Shapes.ate,if_pos e],by rw [Shapes.atl,if_pos e];have:=BH c (AA j);rwa [← Shapes.place_length s i] at this⟩
theorem Wl (s:List Int) (u:Value) (i:Int) (W:World) (d:BS (Value.int .i64) W u s):
  AM prog 149 [u, .int .i64 i] W (fun r a=>Below W.heap.size W a∧∃x,r= .tuple #[x, .int .i64 (Shapes.ate s i)]∧BS (Value.int .i64) a x (Shapes.atl s i)):=
 (Wk s u i W d).mono fun _ _ ⟨c,x,b,e⟩=>⟨c,x,b,AQ e⟩

theorem Te (n:Nat):(replicate n [Value.int .i32 0]).flatten=(replicate n 0#32).map i32:=by
 induction n with
 |zero=>rfl
 |succ n ih=>simp [replicate_succ,i32]
theorem CY (x y:Value) (s:List Int) (l:List (BitVec 32)) (w:World) (k:BS (Value.int .i64) w x s) (h:BS i32 w y l):
  AM prog 141 [.agg #[x,y]] w (fun r f=>r= .bool (tok s l)∧Below w.heap.size w f):=by
 refine Bb (n:=15) func141 O<|Af<|Bk (Xw.box (cs:=[x,y]) O O) O ?_
 rintro _ b ⟨rfl,m,c,e⟩
 have d:=k.bs c
 have i:=h.bs c
 refine Ab O<|Ak<|An<|Cv AS (by kernel_rfl)<|Ad (fun b a=>Cd underlying33 O (AN _)) O<|Ad (fun b a=>Ah (AF _) O (AO.bs ‹_› a) O) O ?_
 refine C3 O O (fun b a=>(CV x s b (d.bs a)).q a)<|Bg O ?_
 refine Dm 6 O ?_ ?_
 ·intro g
  refine Ba (dj:=6) O O<|Ad (fun b a=>Cd underlying33 O (BC _)) O<|Ba (dj:=6) O O<|Ad (fun b a=>Ah (BG _) O (AO.bs ‹_› a) O) O ?_
  refine Ba (dj:=6) O O<|Ad (fun b a=>Au AU O (Sl.bs ‹_› a)) O ?_
  refine Ba (dj:=6) O O<|Ad (fun b a=>Cd underlying33 O (AN _)) O<|Ba (dj:=6) O O<|Ad (fun b a=>Ah (AF _) O (AO.bs ‹_› a) O) O ?_
  refine Ba (dj:=6) O O<|C3 O O (fun b a=>(HH x s b (d.bs a)).q a)<|Ba (dj:=6) O O<|Ad (fun b a=>Da O O) O<|Ad (fun b a=>Ct O O) O<|Dk O ?_
  refine Cr (fun j a=> ?_)
  refine Ap<|B8<|Df<|Ax O O ?_
  exact ⟨cngA Value.bool (by unfold tok;rw [g];rfl),bt c a⟩
 ·intro g
  refine Ar (dj:=6) O O O O<|Ar (dj:=6) O O O O<|Ar (dj:=6) O O O O<|Ar (dj:=6) O O O O<|Ar (dj:=6) O O O O<|Ar (dj:=6) O O O O<|Ar (dj:=6) O O O O<|Ad (fun b a=>Cz O O) O<|Dk O ?_
  refine Cr (fun j a=> ?_)
  refine Ap<|B8<|Df<|Ax O O ?_
  exact ⟨cngA Value.bool (by unfold tok;rw [g];rfl),bt c a⟩
theorem Ii (u:Value) (s:List Int) (W:World) (g:BS (Value.int .i64) W u s):
  AM prog 140 [u] W (fun r F=>Below W.heap.size W F∧((Shapes.ok s=true∧∃x y,r= .tuple #[.agg #[x,y], .int .i64 0]∧DA W F x y s (replicate (Shapes.size s).toNat 0#32))∨(Shapes.ok s=false∧r= .tuple #[.agg #[.slice none 0 0, .slice none 0 0], .int .i64 1]))):=by
 have c:=Below.refl W.heap.size W
 have N:=Shapes.size_le s
 refine Bb (n:=14) func140 O<|Af<|Cx AY O ?_
 rintro A w I a d -
 have c:=c.bs d
 have g:=g.bs d
 refine Ab O<|Bh<|Ac O<|Aj O O (CV u s _ g) ?_
 rintro _ w ⟨rfl,d⟩
 have c:=c.bs d
 have g:=g.bs d
 have a:=a.bs d
 refine Aa (Ck O) O<|Ak ?_
 have z:=AA c
 refine Aq O ?_ ?_
 ·intro h
  have v:Shapes.ok s=false:=by simpa using h
  refine Af<|C8 O<|Az (Bv (cs:=[.slice none 0 0, .slice none 0 0]) O O O O O a O) ?_
  rintro T ⟨a,l, -⟩
  have c:=c.grown l (AA c) (by rintro _ ⟨⟩;omega)
  refine Ab O<|Bu<|Bt O O O ‹_› underlying33 O O O ?_
  exact ⟨c, .inr ⟨v,rfl⟩⟩
 intro h
 have q:Shapes.ok s=true:=by simpa using h
 have J:=(Shapes.ok_iff s).1 q
 refine Co<|Ac O<|Bk (Eb (base:=w.heap.size) (k:=0) (xs:=[]) AC DI O (by decide) O O ⟨rfl, .inl ⟨rfl,rfl⟩⟩ g (DE (fun _=>rfl) _) (by omega) (by omega) (AX _)) O ?_
 rintro x R ⟨E,l,t⟩
 have d:Below w.heap.size w R:=⟨l.os,l.tape,l.output,l.size,fun k j=>l.block k j (by simp [Value.ownBlock])⟩
 rw [Nat.zero_add,nil_append] at E
 have X:=AH a
 have C:∀b,x.ownBlock=some b→A<b:=fun b e=>by
  have:=(AG E b e).1
  omega
 have j:=BM.mono (.inl E) z
 have c:=c.bs d
 have g:=g.bs d
 have a:=a.bs d
 refine Ac O<|Aj O O (HH u s _ g) ?_
 rintro _ w ⟨rfl,d⟩
 have c:=c.bs d
 have g:=g.bs d
 have a:=a.bs d
 have j:=j.bs d
 refine C5 11 (v' := .int .i64 (((Shapes.size s).toNat:Nat):Int)) O (cngA (Value.int .i64) (by omega))<|Bk (Ed AU DY O O O (AX _) (by omega) (by omega)) O ?_
 rintro y S ⟨i,H,f, -⟩
 have p:=j.lt
 have M:=AA c
 have B:JX y x:=by
  intro b G K
  rw [H] at G
  cases G
  exact absurd (p _ K).2 (Nat.lt_irrefl _)
 rw [Te] at i
 have o:=(j.bs f).slT
 refine Aa (C4 (vs:=[(0,x),(1,y)]) (cs:=[x,y]) O (Hs _ _ o.one (AI i).one)) O ?_
 have V:=f.size
 have U:=AH a
 have c:=c.bs f
 have g:=g.bs f
 have a:=a.bs f
 have j:=j.bs f
 refine Az (Bv (cs:=[x,y]) O O O O (by simp [o.one',(AI i).one']) a O) ?_
 rintro L ⟨Q,m, -⟩
 have D:Below W.heap.size W L:=c.grown m (AA c) (by rintro _ ⟨⟩;omega)
 refine Ab O<|Bc<|Bt O O O ‹_› underlying33 O O O ?_
 refine ⟨D, .inl ⟨q,x,y,rfl, ?_, ?_,B⟩⟩
 ·exact j.by' m (by
   cases hc:x.ownBlock with
   |none=>exact .inl rfl
   |some b=>exact .inr fun h=>by have:=C b hc;cases h;omega)
 ·have:=i.kept m (.inr (by rw [H];simp [Value.ownBlock];omega))
  rw [length_replicate]
  exact BH this M
end Go.Proofs.YtmipoeanpnnjoaaGreatDoor
