/- Texts of this proof, one behind the other: BookMany, BookKeep, BookFive, BookApart, BookMore, BookList, TwinLists, BookIn, NodeCard, TwinGraph, MdlSame, MdlPut, MdlChunk, MdlReading. -/
import Derived.Test.YtblbopcaflaldaaGreatDoorPk3
import Derived.Test.YtblbopcaflaldaaGreatDoorPk2
import Derived.Test.YtblbopcaflaldaaGreatDoorPk1

namespace Go.Proofs.YtblbopcaflaldaaGreatDoor
open Go Go.Dd Go.RowKit List Go.Proofs.Tryz
set_option maxRecDepth 100000
theorem Rl {w:World} {sz n:Nat} {v:Value} {xs:List Value} (h:Sl w sz v n xs):∃a n c,v= .slice a n c:=by
 obtain ⟨_,a,cap,rfl,_⟩:=h;exact ⟨_,_,_,rfl⟩
theorem TK (x:Value) (f:∃a n c,x= .slice a n c):Tryz.prog.built 75 [(0,x)]=some [x, .slice none 0 0].toArray:=by
 obtain ⟨a,n,c,rfl⟩:=f
 have d:Tryz.prog.info? 75=some Tryz.t75:=by kernel_rfl
 have b:Tryz.prog.info? 70=some Tryz.t70:=by kernel_rfl
 have e:Tryz.prog.info? 73=some Tryz.t73:=by kernel_rfl
 simp [Program.built,d,underlying75,b,e,Instr.fill,Value.cells]
 rfl
theorem I1 (B:Nat) (n:Int) (w:World) (l:0≤n∧n≤4000000) (u:B≤w.heap.size):AK prog 174 [.int .i64 n] w (fun r j=>(∃c:List Value,r= .agg c.toArray∧M8 B 3 n j c)∧Below w.heap.size w j):=by
 have f:=Below.refl w.heap.size w
 refine Az (n:=7) func174 O<|Ad<|Du EC O ?_
 rintro o w m d l -
 have f:=f.bs l
 refine Be<|Ac O<|Aa (Es O (by omega)) O ?_
 have v:=BA d
 have p:=AA f
 refine Bc (Cv (vs:=[-n].map (Value.int .i64)) AE DO O O O O O) O ?_
 rintro x w ⟨a, -,h, -⟩
 have f:=f.bs h
 have d:=d.bs h
 refine Aa (C1 (vs:=[(0,x)]) (cs:=[x, .slice none 0 0]) O (TK x (Rl (AF a)))) O<|Bv (C7 (cs:=[x, .slice none 0 0]) O O O O (by rw [all_cons,(AF a).one'];rfl) d O) ?_
 rintro y ⟨z,g, -⟩
 have k:=AV a (fun b e=>g.block b (AB a b e).2 (fun s=>by cases s;have:=(AB a _ e).1;omega))
 have i:=f.grown g (AA f) (by rintro _ ⟨⟩;omega)
 refine Ay<|Eh O O ‹_› underlying75 O O O ?_
 exact ⟨⟨_,rfl,x,rfl,BD k,fun b e=>by
  obtain ⟨cap,t, -,q, -⟩:=FH k e
  exact ⟨by have:=(AB a b e).1;omega,_,q⟩⟩,i⟩
theorem Sv (m:Int):Tryz.prog.built 79 [(3, .int .i64 m)]=some [b8 0#8, .slice none 0 0, .slice none 0 0, .int .i64 m, .int .i64 0].toArray:=by
 have a:Tryz.prog.info? 79=some Tryz.t79:=by kernel_rfl
 have b:Tryz.prog.info? 70=some Tryz.t70:=by kernel_rfl
 have d:Tryz.prog.info? 3=some Tryz.t3:=by kernel_rfl
 have c:Tryz.prog.info? 77=some Tryz.t77:=by kernel_rfl
 simp [Program.built,a,underlying79,b,d,c,Instr.fill,Value.cells]
 rfl
theorem Ka (B:Nat) (n:Int) (w:World) (h:0≤n∧n≤4000000) (_hBw:B≤w.heap.size):AK prog 175 [.int .i64 n] w (fun r f=>(∃c:List Value,r= .agg c.toArray∧M9 n f c)∧Below w.heap.size w f):=by
 have a:=Below.refl w.heap.size w
 refine Az (n:=6) func175 O<|Ad<|Du EJ O ?_
 rintro i w g b h -
 have a:=a.bs h
 refine Be<|Ac O<|Aa (Es O (by omega)) O<|Aa (C1 (vs:=[(3, .int .i64 (-n))]) (cs:=[b8 0#8, .slice none 0 0, .slice none 0 0, .int .i64 (-n), .int .i64 0]) O (Sv (-n))) O<|Bv (C7 (cs:=[b8 0#8, .slice none 0 0, .slice none 0 0, .int .i64 (-n), .int .i64 0]) O O O O O b O) ?_
 rintro j ⟨k,d, -⟩
 have e:=a.grown d (AA a) (by rintro _ ⟨⟩;omega)
 refine Ay<|Eh O O ‹_› underlying79 O O O ?_
 exact ⟨⟨_,rfl,rfl⟩,e⟩
theorem Kq (B:Nat) (n:Int) (w:World) (c:List Value) (d:0≤n∧n≤4000000) (h:M8 B 3 n w c):AK prog 189 [.agg c.toArray, .int .i64 n] w (fun r f=>r= .bool true∧Below w.heap.size w f):=by
 obtain ⟨x,rfl,a, -⟩:=h
 have b:=Below.refl w.heap.size w
 refine Az (n:=18) func189 O<|Ad<|Cr (cs:=[x, .slice none 0 0]) O O O ?_
 rintro i w e g d -
 have b:=b.bs d
 have a:=a.bs d
 refine Ab O<|Be<|Ba underlying75 O (AT _)<|Aa (Al (AN _) O ‹_› rfl) O ?_
 refine Aa (Ap AE O ‹_›) O ?_
 refine Aa (C6 O O) O<|Ac O<|Cm 9 (v' := .bool true) O (cngA Value.bool (rfl))<|Ag (dj:=9) O O<|Ba underlying75 O (AT _)<|Ag (dj:=9) O O<|Aa (Al (AN _) O ‹_› rfl) O ?_
 refine Ag (dj:=9) O O<|Aa (Bh AE O O a 0 O (by simp)) O<|Ag (dj:=9) O O<|Aa (Bo (AO _) O a (by simp)) O<|Ag (dj:=9) O O<|Ac O<|Ag (dj:=9) O O<|Aa (Es O (by omega)) O<|Ag (dj:=9) O O<|Aa (C6 O O) O<|B7 O<|Ab O<|Ay<|As O O ?_
 exact ⟨cngA Value.bool (by simp),b⟩
theorem MS (B:Nat) (n:Int) (w:World) (c:List Value) (d:0≤n∧n≤4000000) (g:M9 n w c):AK prog 190 [.agg c.toArray, .int .i64 n] w (fun r e=>r= .bool true∧Below w.heap.size w e):=by
 have _:=B
 obtain rfl:=g
 have a:=Below.refl w.heap.size w
 refine Az (n:=10) func190 O<|Ad<|Cr (cs:=[b8 0#8, .slice none 0 0, .slice none 0 0, .int .i64 (-n), .int .i64 0]) O O O ?_
 rintro h w b f d -
 have a:=a.bs d
 refine Ab O<|Be<|Ba underlying79 O (BC _)<|Aa (Al (AO _) O ‹_› rfl) O ?_
 refine Ac O<|Aa (Es O (by omega)) O<|Aa (C6 O O) O<|Ab O<|Ay<|As O O ?_
 exact ⟨cngA Value.bool (by simp),a⟩
theorem LW (A:Nat) (z:List Value) (u:Value) (hs:List Hd) (lo base B:Nat) (w:World) (hA:AP w A BG z) (hu:z[6]? =some u) (ho:w.ownsRow lo 194 3 u hs.length (AS hs)) (t:FB w base 75 2 hs)
  (hb1:¬BF hs A) (hb2:∀b,u.ownBlock=some b→¬BF hs b) (hB:B≤w.heap.size) (hSB:∀b,BF hs b→b<B):
  AK prog 76 [.pointer (some ⟨A,0,none⟩)] w (fun r a=>r= .tuple #[]∧BR (BF hs) w a∧Gr a base 75 2 (M8 B 3) hs):=by
 have hle:=(AF ho).le
 have V:=(CV B 3)
 refine Az (n:=35) func76 O<|Ad<|Ab O<|Ak<|An ?_
 refine Bl (S:=Nat) (fun i=>[(0, .pointer (some ⟨A,0,none⟩)),(2, .int .i64 (i:Int))]) (fun i a=>i≤hs.length∧BR (BF hs) w a∧(∀j (o:j<hs.length),j<i→∃cs,HL (M8 B 3) 2 hs[j].n a hs[j].k cs∧AQ a base 75 2 hs[j].v hs[j].k cs.flatten)∧(∀j (o:j<hs.length),i≤j→AQ a base 75 2 hs[j].v hs[j].k hs[j].xs)) (fun i=>hs.length - i) (0) ⟨rfl,rfl,trivial⟩ ?_ ?_
 ·exact ⟨by omega,BR.refl _ _,fun j o h=>by omega,fun j o _=>t.own _ (getElem_mem o)⟩
 rintro i G ⟨hi,l,hd,ht⟩
 have b1:=hA.chg l hb1
 have Z:=AF (AM ho l hb2)
 refine Ao<|Ad<|Ac O<|Ac O<|Aa (Ax O) O<|Ba underlying55 O (HE _)<|Aa (Al (Jo _) O b1 hu) O<|Aa (Ap (sz:=3) Il O Z) O<|Bz O<|Ak<|Aq O ?_ ?_
 ·intro h
  have d:i<hs.length:=by simp at h;omega
  have y:=getElem_mem d
  have hfew:=t.few _ y
  have R:=t.num _ y
  have J:hs[i].g.oneCell' =true:=by rw [t.new _ y];rfl
  have D:=(t.own _ y).len
  have hvb:∀b,hs[i].v.ownBlock=some b→b<w.heap.size:=fun b e=>(t.blk ⟨_,y,e⟩).2
  have Q:∀b,hs[i].v.ownBlock=some b→b<B:=fun b e=>hSB b ⟨_,y,e⟩
  refine Bw<|Ao<|An<|Ad<|Ac O<|Aa (Ax O) O<|Ba underlying55 O (HE _)<|Aa (Al (Jo _) O b1 hu) O<|Ac O<|Aa (Cl Il O O Z i O d) O<|Aa (C8 (cs:=hs[i].cells) (ON _) (NI _) O Z O (by decide) (BT d)) O<|Cz (cs:=hs[i].cells) Kl O O O O (fun _=>rfl) (by simp [Hd.cells,(t.own _ y).sl.one',J,DP]) ?_
  rintro H w2 eA_h p I zhn2
  have hc2:=l.below I
  have z1:=l.size
  have r0:=(ht i d (AU _)).bs I
  refine Be<|Ab O<|Ak<|An ?_
  refine Bl (S:=(Nat×List (List Value))) (fun s=>[(0, .pointer (some ⟨A,0,none⟩)),(2, .int .i64 (i:Int)),(3, .pointer (some ⟨H,0,none⟩)),(4, .int .i64 (s.1:Int))]) (fun s a=>s.1≤hs[i].k∧AP a H 194 hs[i].cells∧BR (BF hs) w a∧BR (fun b=>hs[i].v.ownBlock=some b) w2 a∧HL (M8 B 3) 2 hs[i].n a s.1 s.2∧AQ a base 75 2 hs[i].v hs[i].k (s.2.flatten++hs[i].xs.drop (s.1*2))) (fun s=>hs[i].k - s.1) ((0,[])) ⟨rfl,rfl,rfl,rfl,trivial⟩ ?_ ?_
  ·exact ⟨by simp,p,hc2,BR.refl _ _,HL.nil _ _ _ _,by simpa using r0⟩
  clear p r0
  rintro ⟨k,cs⟩ w3 ⟨N,p,E,C,U,M⟩
  dsimp only at N p E C U M ⊢
  refine Ao<|Ad<|Ac O<|Ba underlying194 O (CF _)<|Aa (Al (DD _) O ‹_› rfl) O ?_
  refine Aa (Ap (sz:=2) BK O M.sl) O<|Bz O<|Ak<|Aq O ?_ ?_
  ·intro h
   have m:k<hs[i].k:=by simp at h;omega
   refine Bw<|Ao<|An ?_
   refine Cw.any BB (fun F q _=> ?_)
   have r4:=M.bs q
   have m4:=U.bs V q
   have b4:=p.bs q
   have L:=E.below q
   have X:=C.below q
   have z4:=L.size
   refine Fc (St:=List Value) (g:=1) [0,1,2,3,4,5,6] 7 (fun c=>[(0, .pointer (some ⟨A,0,none⟩)),(2, .int .i64 (i:Int)),(3, .pointer (some ⟨H,0,none⟩)),(4, .int .i64 (k:Int)),(33, .agg c.toArray),(34,CH hs[i].v (k*2))]) (fun c a=>Below F.heap.size F a∧(M8 B 3) hs[i].n a c) (by kernel_rfl) O ?_ ?_
   ·have hr4:=Below.refl F.heap.size F
    refine Dg (fun a=>Below F.heap.size F a) (fun hC=> ?_) (hr4)
    refine Cf (Am (Bf (Am (Am (Bf (Bf (Am (Am (Bf Br)))))))))<|Af 0 O (fun G l=>B8 underlying194 O (CF _)) O<|Af 1 O (fun G l=>Al (DD _) O (b4.bs l) O) O<|Af 2 O (fun G l=>B4 O) O<|Af 3 O (fun G l=>B8 underlying194 O (BC _)) O<|Af 4 O (fun G l=>Al (AO _) O (b4.bs l) O) O<|B5<|AR.only ‹_› (i:=5) (by kernel_rfl) O ?_
    refine Ai O O (I1 B hs[i].n F R (by omega)) ?_
    rintro _ w5 ⟨⟨c,rfl,K⟩,f⟩
    refine AR.back<|Cf (Am (Bf (Am (Am (Bf (Bf (Am (Am (Bf Br)))))))))<|Af 6 O (fun G l=>Cl BK O O (r4.sl.bs l) k O m) O<|B5<|Cq ‹_› (by kernel_rfl) ?_
    exact Ar (E9 (c) ⟨rfl,rfl,rfl,rfl,rfl,rfl,trivial⟩ (⟨f,K⟩))
   rintro c w5 ⟨f,K⟩
   have r5:=r4.bs f
   have W:=m4.bs V f
   have b5:=b4.bs f
   have T:=(L8 K).1
   have ld:=Nj D W.els N
   refine Aw.only (i:=7) (by kernel_rfl) O<|Bv (Xu.stKA (k:=2) (ds:=c) O T O O (L8 K).2 r5 (by omega) (by rw [ld,T];omega)) ?_
   rintro w6 ⟨r6,v, -⟩
   rw [Mw D W.els T m] at r6
   have hS6:BR (fun b=>hs[i].v.ownBlock=some b) w5 w6:=(BR.refl _ _).grown v (fun b e=> .inl e)
   have m6:=(W.snoc T K).chg V hS6 Q
   have b6:=b5.by v (fun e=>by have:=hvb _ e.symm;omega)
   refine Aw.back<|D7 (by kernel_rfl)<|Bg<|B6<|Ac O<|B1 O (by omega)<|Ab O<|Bd ?_
   exact Ar (Bp ((k+1,cs++[c])) ⟨rfl,rfl,rfl,rfl,trivial⟩ (⟨m,b6,(L.below f).grown v (fun b e=> .inl ⟨_,y,e⟩),(X.below f).grown v (fun b e=> .inl e),m6,r6⟩) (by simp only;omega))
  intro h
  have m:k=hs[i].k:=by simp at h;omega
  rw [drop_of_length_le (by rw [D,m];exact AU _),append_nil] at M
  rw [m] at U
  have hall:BR (fun b=>hs[i].v.ownBlock=some b) G w3:=(BR.of_below I).trans C
  refine Bk<|Aj<|Aj<|A0<|Bg<|B6<|Ac O<|B1 O (by omega)<|Ab O<|Bd ?_
  exact Ar (Bp (i+1) ⟨rfl,rfl,trivial⟩ (⟨d,E,fun j o hji=>(if e:j=i then by subst e;exact ⟨cs,U,M⟩ else by obtain ⟨ds,q1,q2⟩:=hd j o (by omega);exact ⟨ds,q1.chg V hall Q,q2.chg hall fun b Y e2=>BV t.apart d o (Ne.symm e) b e2 Y⟩),fun j o hji=>(ht j o (by omega)).chg hall fun b Y e2=>BV t.apart d o (by omega) b e2 Y⟩) (by omega))
 intro h
 have d:i=hs.length:=by simp at h;omega
 refine Bk<|Aj<|Aj<|A0<|Cu O ?_
 refine ⟨rfl,l,fun x hx=> ?_⟩
 obtain ⟨j,o,rfl⟩:=List.mem_iff_getElem.1 hx
 exact hd j o (by omega)
theorem LQ (A:Nat) (K:List Value) (u:Value) (hs:List Hd) (lo base B:Nat) (w:World) (hA:AP w A BG K) (hu:K[6]? =some u) (ho:w.ownsRow lo 194 3 u hs.length (AS hs)) (Q:KOk hs) (hf:Gr w base 75 2 (M8 B 3) hs)
  (hb1:¬BF hs A) (x:∀b,u.ownBlock=some b→¬BF hs b) (hb3:u.ownBlock≠some A) (hbase:base≤w.heap.size) (hB:B≤w.heap.size) (hSB:∀b,BF hs b→b<B) (huB:∀b,u.ownBlock=some b→b<B):
  AK prog 91 [.pointer (some ⟨A,0,none⟩)] w (fun r p=>r= .tuple #[]∧BR (fun b=>BF hs b∨u.ownBlock=some b) w p∧∃ts,DN w hs ts∧p.ownsRow lo 194 3 u hs.length (AS ts)∧∀t ∈ ts,FE p 2 (M8 B 3) t):=by
 have hle:=(AF ho).le
 have R:=(CV B 3)
 refine Az (n:=42) func91 O<|Ad<|Ab O<|Ak<|An ?_
 refine Bl (S:=(Nat×List Hd)) (fun s=>[(0, .pointer (some ⟨A,0,none⟩)),(2, .int .i64 (s.1:Int))]) (fun s p=>s.1≤hs.length∧DN w hs s.2∧(∀t ∈ s.2,t.g.oneCell' =true)∧BR (fun b=>BF hs b∨u.ownBlock=some b) w p∧p.ownsRow lo 194 3 u hs.length (AS s.2)∧(∀j (v:j<s.2.length),j<s.1→FE p 2 (M8 B 3) s.2[j])∧(∀j (v:j<hs.length),s.1≤j→∃cs,HL (M8 B 3) 2 hs[j].n p hs[j].k cs∧AQ p base 75 2 hs[j].v hs[j].k cs.flatten)) (fun s=>hs.length - s.1) ((0,hs)) ⟨rfl,rfl,trivial⟩ ?_ ?_
 ·exact ⟨by simp,Ep w Q.new,fun t ht=>(by rw [Q.new t ht];rfl),BR.refl _ _,ho,fun j v h=>by simp at h,fun j v _=>hf _ (getElem_mem v)⟩
 rintro ⟨i,ts⟩ w1 ⟨hi,Y,h1,Z,o1,hd,ht⟩
 dsimp only at hi Y h1 Z o1 hd ht ⊢
 have b1:=hA.chg Z (fun e=>e.elim hb1 hb3)
 have s1:=AF o1
 have hlen:=Y.len
 refine Ao<|Ad<|Ac O<|Ac O<|Aa (Ax O) O<|Ba underlying55 O (HE _)<|Aa (Al (Jo _) O b1 hu) O<|Aa (Ap (sz:=3) Il O s1) O<|Bz O<|Ak<|Aq O ?_ ?_
 ·intro h
  have d:i<hs.length:=by simp at h;omega
  have z:i<ts.length:=by omega
  obtain ⟨ev,ek,en,eg⟩:=Y.all i d z
  have I:=getElem_mem d
  have hmt:=getElem_mem z
  have hfew:=Q.few _ I
  have hnum:=Q.num _ I
  have hone:=h1 _ hmt
  have hvb:∀b,hs[i].v.ownBlock=some b→b<w.heap.size:=fun b e=>(hf.blk ⟨_,I,e⟩).2
  have hvB:∀b,hs[i].v.ownBlock=some b→b<B:=fun b e=>hSB b ⟨_,I,e⟩
  obtain ⟨c0,m0,X⟩:=ht i d (AU _)
  have hvo:=X.sl.one'
  refine Bw<|Ao<|An<|Ad<|Ac O<|Aa (Ax O) O<|Ba underlying55 O (HE _)<|Aa (Al (Jo _) O b1 hu) O<|Ac O<|Aa (Cl Il O O s1 i O d) O<|Aa (C8 (cs:=ts[i].cells) (ON _) (NI _) O s1 O (by decide) (BT z)) O<|Cz (cs:=ts[i].cells) Kl O O O O (fun _=>rfl) (by simp [Hd.cells,ev,hvo,hone,DP]) ?_
  rintro W w2 eA_h C G zhn2
  have hc2:=Z.below G
  have z1:=Z.size
  have z2:=hc2.size
  have X:=X.bs G
  have m0:=m0.bs R G
  refine Be<|Ba underlying194 O (CF _)<|Aa (Al (DD _) O ‹_› rfl) O ?_
  refine Ab O<|Bi<|Ab O<|Ak<|An<|Em 4 (v' :=hs[i].v) O (ev) ?_
  refine Bl (S:=(Nat×Value×List (List Value))) (fun s=>[(0, .pointer (some ⟨A,0,none⟩)),(2, .int .i64 (i:Int)),(3, .pointer (some ⟨W,0,none⟩)),(4,s.2.1),(5, .int .i64 (s.1:Int))]) (fun s p=>s.1≤40∧AP p W 194 ts[i].cells∧BR (fun b=>hs[i].v.ownBlock=some b) w2 p∧HL (M8 B 3) 2 hs[i].n p (hs[i].k+s.1) s.2.2∧AQ p base 75 2 s.2.1 (hs[i].k+s.1) s.2.2.flatten∧(∀b,s.2.1.ownBlock=some b→hs[i].v.ownBlock=some b∨w2.heap.size≤b)∧s.2.2.take hs[i].k=c0∧Sl p 2 hs[i].v hs[i].k c0.flatten) (fun s=>40 - s.1) ((0,hs[i].v,c0)) ⟨rfl,rfl,rfl,rfl,rfl,trivial⟩ ?_ ?_
  ·exact ⟨by simp,C,BR.refl _ _,m0,X,fun b e=> .inl e,take_of_length_le (by rw [m0.els.1];exact AU _),X.sl⟩
  clear C
  rintro ⟨k,g,cs⟩ w3 ⟨hk3,C,N,m3,r3,q,V,l3⟩
  dsimp only at hk3 C m3 r3 q V l3 ⊢
  have z3:=N.size
  refine Ao<|Ad<|Ac O<|Bz O<|Ak<|Aq O ?_ ?_
  ·intro h
   have M:k<40:=by simp at h;omega
   refine Bw<|Ao<|An<|Bn<|Ac O<|Ba underlying194 O (BC _)<|Aa (Al (AO _) O ‹_› rfl) O ?_
   refine Cm 30 (v' := .int .i64 hs[i].n) O (cngA (Value.int .i64) en)<|Ai O O (I1 B hs[i].n w3 hnum (by omega)) ?_
   rintro _ J ⟨⟨c,rfl,hφ⟩,hn4⟩
   have lc:=L8 hφ
   refine Bc (D8 (cs:=c) BK EC O lc.1 (by decide) (by decide)) O ?_
   rintro nv w5 ⟨o5, -,hn5, -⟩
   have l:=bt hn4 hn5
   have z5:=l.size
   have r5:=r3.bs l
   have m5:=(m3.bs R l).snoc lc.1 (R.bs hφ hn5)
   have hgt:∀b,g.ownBlock=some b→b<B∨∃T cs,AP w5 b T cs∧T≠3:=fun b e=>by
    rcases q b e with a|a
    ·exact .inl (hvB b a)
    ·obtain ⟨cur,hcur⟩:=r5.ty e
     exact .inr ⟨_,cur,hcur,by decide⟩
   refine Bc (En (base:=base) BK EC O (by decide) O O r5 (AF o5) lc.2 (by omega) (by omega) (by omega) (AU _)) O ?_
   rintro g' w6 ⟨r6,F,D⟩
   have l5:=l3.bs l
   have b5:=C.bs l
   have e6:cs.flatten++c=(cs++[c]).flatten:=by simp
   rw [e6] at r6
   have m6:=m5.by R F hgt
   have hgA:some W≠g.ownBlock:=fun e=>by
    rcases q _ e.symm with a|a
    ·have:=hvb _ a;omega
    ·omega
   have L:(cs++[c]).take hs[i].k=c0:=by rw [take_append_of_le_length (by rw [m3.els.1];omega)];exact V
   have l6:Sl w6 2 hs[i].v hs[i].k c0.flatten:=Ji X (.inl r6) F D l5 (by
    rw [E8 (k:=hs[i].k) (m:=k+1) m5.els,L])
   have hgb' :∀b,g'.ownBlock=some b→hs[i].v.ownBlock=some b∨w2.heap.size≤b:=fun b e=>by
    rcases D with a|⟨a, -⟩
    ·rw [a] at e;exact q b e
    ·exact .inr (by have:=a b e;omega)
   refine Ab O<|Bd<|Bg<|B6<|Ac O<|B1 O (by omega)<|Ab O<|Bd ?_
   exact Ar (Bp ((k+1,g',cs++[c])) ⟨rfl,rfl,rfl,rfl,rfl,trivial⟩ (⟨M,b5.by F hgA,(N.below l).grown F q,m6, .inl r6,hgb',L,l6⟩) (by simp only;omega))
  intro h
  have M:k=40:=by simp at h;omega
  subst M
  have hall:BR (fun b=>hs[i].v.ownBlock=some b) w1 w3:=(BR.of_below G).trans N
  have hcS:BR (fun b=>BF hs b∨u.ownBlock=some b) w w3:=Z.trans (hall.mono fun b e=> .inl ⟨_,I,e⟩)
  have b3:=hA.chg hcS (fun e=>e.elim hb1 hb3)
  have o3:=AM o1 hall (fun b y f=>x b y ⟨_,I,f⟩)
  refine Bk<|Aj<|Aj<|A0<|B6<|Ac O<|Aa (Ax O) O<|Ba underlying55 O (HE _)<|Aa (Al (Jo _) O b3 hu) O<|Ac O<|Ac O<|Aa (Cl Il O O (AF o3) i O d) O<|Aa (C9 underlying194 O (CF _) O (Hq o3 (by omega))) O<|Bv (Et (j:=i*3+1) (CF _) O O r3.sl.one' o3 (by rw [FK];omega)) ?_
  rintro J ⟨o4,E, -⟩
  have e4:=FJ z g
  have o4:J.ownsRow lo 194 3 u hs.length (AS (ts.set i {ts[i] with g:=g})):=by rw [← e4];exact o4
  have hG4:=Y.set d z (g:=g) (fun b e=>by
   rcases q b e with a|a
   ·exact .inl a
   ·exact .inr (by omega))
  have o:BR (fun b=>hs[i].v.ownBlock=some b∨u.ownBlock=some b) w1 J:=(hall.mono fun b e=> .inl e).grown E (fun b e=> .inl (.inr e))
  have H:∀b,(hs[i].v.ownBlock=some b∨u.ownBlock=some b)→b<B:=fun b e=>e.elim (hvB b) (huB b)
  have hS4:BR (fun b=>BF hs b∨u.ownBlock=some b) w J:=hcS.grown E (fun b e=> .inl (.inr e))
  have huT:∀b,u.ownBlock=some b→b<B∨∃T cs,AP w3 b T cs∧T≠3:=fun b e=> .inl (huB b e)
  have m4:=m3.by R E huT
  have t4:FE J 2 (M8 B 3) {ts[i] with g:=g}:=by
   refine ⟨⟨c0, ?_, ?_⟩,⟨cs, ?_, ?_⟩⟩
   ·simp only;rw [ek,en,← V];exact m4.take
   ·simp only;rw [ev,ek]
    refine l3.by E ?_
    cases hv:hs[i].v.ownBlock with
    |none=>exact .inl rfl
    |some b=>exact .inr fun e=>x b e.symm ⟨_,I,hv⟩
   ·simp only;rw [ek,en];exact m4
   ·simp only;rw [ek]
    refine r3.sl.by E ?_
    cases hv:g.ownBlock with
    |none=>exact .inl rfl
    |some b=>
     refine .inr fun e=> ?_
     rcases q b hv with a|a
     ·exact x b e.symm ⟨_,I,a⟩
     ·have:=(AB ho b e.symm).2;omega
  have h14:∀t ∈ ts.set i {ts[i] with g:=g},t.g.oneCell' =true:=fun t U=>by
   rcases mem_or_eq_of_mem_set U with a|a
   ·exact h1 t a
   ·rw [a];exact r3.sl.one'
  have hd4:∀j (v:j<(ts.set i {ts[i] with g:=g}).length),j<i+1→FE J 2 (M8 B 3) (ts.set i {ts[i] with g:=g})[j]:=fun j v hji=>by
    rw [getElem_set]
    split
    ·exact t4
    ·rename_i hne
     have hj' :j<ts.length:=by simpa using v
     obtain ⟨fv,_,_,fg⟩:=Y.all j (by omega) hj'
     refine (hd j hj' (by omega)).chg R o H (fun b y _ f=> ?_) (fun b y _ f=> ?_)
     ·rw [fv] at y
      rcases f with f|f
      ·exact BV Q.apart d (show j<hs.length by omega) hne b f y
      ·exact x b f ⟨_,getElem_mem _,y⟩
     ·rcases f with f|f
      ·rcases fg b y with a|a
       ·exact BV Q.apart d (show j<hs.length by omega) hne b f a
       ·have:=hvb b f;omega
      ·rcases fg b y with a|a
       ·exact x b f ⟨_,getElem_mem _,a⟩
       ·have:=(AB ho b f).2;omega
  have ht4:∀j (v:j<hs.length),i+1≤j→∃cs,HL (M8 B 3) 2 hs[j].n J hs[j].k cs∧AQ J base 75 2 hs[j].v hs[j].k cs.flatten:=fun j v hji=>by
   obtain ⟨ds,q1,q2⟩:=ht j v (by omega)
   refine ⟨ds,q1.chg R o H,q2.chg o fun b y f=> ?_⟩
   rcases f with f|f
   ·exact BV Q.apart d v (by omega) b f y
   ·exact x b f ⟨_,getElem_mem _,y⟩
  refine Bd<|Bg<|B6<|Ac O<|B1 O (by omega)<|Ab O<|Bd ?_
  exact Ar (Bp ((i+1,ts.set i {ts[i] with g:=g})) ⟨rfl,rfl,trivial⟩ (⟨d,hG4,h14,hS4,o4,hd4,ht4⟩) (by simp only;omega))
 intro h
 have d:i=hs.length:=by simp at h;omega
 refine Bk<|Aj<|Aj<|A0<|Cu O ?_
 refine ⟨rfl,Z,ts,Y,o1,fun t U=> ?_⟩
 obtain ⟨j,v,rfl⟩:=List.mem_iff_getElem.1 U
 exact hd j v (by omega)
theorem LD (A:Nat) (l:List Value) (u:Value) (ts:List Hd) (lo B:Nat) (w:World) (Z:AP w A BG l) (R:l[6]? =some u) (Q:w.ownsRow lo 194 3 u ts.length (AS ts)) (Y:∀t ∈ ts,FE w 2 (M8 B 3) t) (hn:∀t ∈ ts,(0≤t.n∧t.n≤4000000)∧t.k≤16777216):
  AK prog 106 [.pointer (some ⟨A,0,none⟩)] w (fun r x=>r= .bool true∧Below w.heap.size w x):=by
 have hle:=(AF Q).le
 have q:=(CV B 3)
 refine Az (n:=64) func106 O<|Ad<|Ab O<|Bi<|Ab O<|Ak<|An ?_
 refine Bl (S:=Nat) (fun i=>[(0, .pointer (some ⟨A,0,none⟩)),(2, .bool false),(3, .int .i64 (i:Int))]) (fun i x=>i≤ts.length∧Below w.heap.size w x) (fun i=>ts.length - i) (0) ⟨rfl,rfl,rfl,trivial⟩ ?_ ?_
 ·exact ⟨by omega,Below.refl _ _⟩
 rintro i b ⟨hi,d⟩
 have L:=Z.bs d
 have J:=(AF Q).bs d
 refine Ao<|Ad<|Ac O<|Ac O<|Aa (Ax O) O<|Ba underlying55 O (HE _)<|Aa (Al (Jo _) O L R) O<|Aa (Ap (sz:=3) Il O J) O<|Bz O<|Ak<|Aq O ?_ ?_
 ·intro h
  have j:i<ts.length:=by simp at h;omega
  have T:=getElem_mem j
  obtain ⟨m,U⟩:=hn _ T
  have t1:=(Y _ T).bs q d
  obtain ⟨⟨G,v,C⟩,⟨I,s,z⟩⟩:=t1
  refine Bw<|Ao<|An<|Ad<|Ac O<|Aa (Ax O) O<|Ba underlying55 O (HE _)<|Aa (Al (Jo _) O L R) O<|Ac O<|Aa (Cl Il O O J i O j) O<|Aa (C8 (cs:=ts[i].cells) (ON _) (NI _) O J O (by decide) (BT j)) O<|Cz (cs:=ts[i].cells) Kl O O O O (fun _=>rfl) (by simp [Hd.cells,C.one',z.one',DP]) ?_
  rintro F V M D e N
  have E:=bt d e
  have C:=C.bs e
  have z:=z.bs e
  have v:=v.bs q e
  have s:=s.bs q e
  refine Bi<|Ba underlying194 O (CF _)<|Aa (Al (DD _) O ‹_› rfl) O ?_
  refine Aa (Ap (sz:=2) BK O z) O<|Ba underlying194 O (CF _)<|Aa (Al (DD _) O ‹_› rfl) O ?_
  refine Aa (Ap (sz:=2) BK O C) O<|B1 O (by omega)<|Aa (Ct O O) O<|Ak<|Bu O false (by simp)<|Cs<|Ab O<|Ak<|An ?_
  refine Bl (S:=Nat) (fun k=>[(0, .pointer (some ⟨A,0,none⟩)),(2, .bool false),(3, .int .i64 (i:Int)),(4, .pointer (some ⟨F,0,none⟩)),(5, .int .i64 (k:Int))]) (fun k x=>k≤ts[i].k+40∧Below V.heap.size V x) (fun k=>ts[i].k+40 - k) (0) ⟨rfl,rfl,rfl,rfl,rfl,trivial⟩ ?_ ?_
  ·exact ⟨by omega,Below.refl _ _⟩
  rintro k w3 ⟨hk3,c⟩
  have H:=C.bs c
  have K:=z.bs c
  have b3:=D.bs c
  have X:=v.bs q c
  have m4:=s.bs q c
  refine Ao<|Ad<|Ac O<|Ba underlying194 O (CF _)<|Aa (Al (DD _) O ‹_› rfl) O ?_
  refine Aa (Ap (sz:=2) BK O K) O<|Bz O<|Ak<|Aq O ?_ ?_
  ·intro h
   have f:k<ts[i].k+40:=by simp at h;omega
   have o:k<I.length:=by rw [s.els.1];exact f
   refine Bw<|Ao<|An<|Ao<|Da BB (by kernel_rfl)<|Ah (fun b a=>B8 underlying194 O (CF _)) O<|Ah (fun b a=>Al (DD _) O (AP.bs ‹_› a) O) O ?_
   refine Bq O<|Ah (fun b a=>Cl BK O O (K.bs a) k O f) O<|Ah (fun b a=>C8 (cs:=I[k]) (FZ _) (FX _) O (K.bs a) (s.els.2 _ (getElem_mem o)) (by decide) (s.els.cells o)) O<|Ah (fun b a=>B8 underlying194 O (BC _)) O<|Ah (fun b a=>Al (AO _) O (AP.bs ‹_› a) O) O ?_
   refine Db O O (fun b a=>(Kq B ts[i].n b I[k] m (q.bs (m4.each _ (getElem_mem o)) a)).q a)<|Ah (fun b a=>Co O) O<|Bq O<|Ew 46 (v' := .bool false) O (cngA Value.bool (rfl))<|Bb (dj:=46) O O<|Bq O<|Bb (dj:=46) O O<|Ah (fun b a=>B8 underlying194 O (CF _)) O<|Bb (dj:=46) O O<|Ah (fun b a=>Al (DD _) O (AP.bs ‹_› a) O) O ?_
   refine Bb (dj:=46) O O<|Ah (fun b a=>Ap (sz:=2) BK O (H.bs a)) O<|Bb (dj:=46) O O<|Ah (fun b a=>Er O O) O<|Bb (dj:=46) O O<|Bq O ?_
   refine Dj 52 O ?_ ?_
   ·intro g
    have y:k<ts[i].k:=by simpa using g
    have p:k<G.length:=by rw [v.els.1];exact y
    refine Bb (dj:=52) O O<|Ah (fun b a=>B8 underlying194 O (CF _)) O<|Bb (dj:=52) O O<|Ah (fun b a=>Al (DD _) O (AP.bs ‹_› a) O) O ?_
    refine Bb (dj:=52) O O<|Bq O<|Bb (dj:=52) O O<|Ah (fun b a=>Cl BK O O (H.bs a) k O y) O<|Bb (dj:=52) O O<|Ah (fun b a=>C8 (cs:=G[k]) (FZ _) (FX _) O (H.bs a) (v.els.2 _ (getElem_mem p)) (by decide) (v.els.cells p)) O<|Bb (dj:=52) O O<|Ah (fun b a=>B8 underlying194 O (BC _)) O<|Bb (dj:=52) O O<|Ah (fun b a=>Al (AO _) O (AP.bs ‹_› a) O) O ?_
    refine Bb (dj:=52) O O<|Db O O (fun b a=>(Kq B ts[i].n b G[k] m (q.bs (X.each _ (getElem_mem p)) a)).q a)<|Bb (dj:=52) O O<|Ah (fun b a=>Co O) O<|Bb (dj:=46) O O<|Ah (fun b a=>C3 O O) O<|Ah (fun b a=>C0 O O) O ?_
    refine C2 (fun W a=> ?_)
    refine Ar<|B9<|Bu O false (rfl)<|Cj<|Bg<|B6<|Ac O<|B1 O (by omega)<|Ab O<|Bd ?_
    exact Ar (Bp (k+1) ⟨rfl,rfl,rfl,rfl,rfl,trivial⟩ (⟨f,bt c a⟩) (by omega))
   ·intro g
    refine Au (dj:=52) O O O O<|Au (dj:=52) O O O O<|Au (dj:=52) O O O O<|Au (dj:=52) O O O O<|Au (dj:=52) O O O O<|Au (dj:=52) O O O O<|Au (dj:=52) O O O O<|Au (dj:=52) O O O O<|Au (dj:=52) O O O O<|Bb (dj:=46) O O<|Ah (fun b a=>C0 O O) O<|Ah (fun b a=>C0 O O) O ?_
    refine C2 (fun W a=> ?_)
    refine Ar<|B9<|D5 O<|Cj<|Bg<|B6<|Ac O<|B1 O (by omega)<|Ab O<|Bd ?_
    exact Ar (Bp (k+1) ⟨rfl,rfl,rfl,rfl,rfl,trivial⟩ (⟨f,bt c a⟩) (by omega))
  intro h
  refine Bk<|Aj<|Aj<|A0<|Bg<|B6<|Ac O<|B1 O (by omega)<|Ab O<|Bd ?_
  exact Ar (Bp (i+1) ⟨rfl,rfl,rfl,trivial⟩ (⟨j,bt E c⟩) (by omega))
 intro h
 exact Bk<|Aj<|Aj<|A0<|Cb<|Ab rfl<|Ay<|As rfl rfl<|⟨rfl,d⟩
theorem O7 (A:Nat) (z:List Value) (u:Value) (hs:List Hd) (lo base B:Nat) (w:World) (hA:AP w A BG z) (hu:z[7]? =some u) (ho:w.ownsRow lo 197 3 u hs.length (AS hs)) (t:FB w base 79 5 hs)
  (hb1:¬BF hs A) (hb2:∀b,u.ownBlock=some b→¬BF hs b) (hB:B≤w.heap.size) (hSB:∀b,BF hs b→b<B):
  AK prog 77 [.pointer (some ⟨A,0,none⟩)] w (fun r a=>r= .tuple #[]∧BR (BF hs) w a∧Gr a base 79 5 (M9) hs):=by
 have hle:=(AF ho).le
 have V:=(CZ B 3)
 refine Az (n:=35) func77 O<|Ad<|Ab O<|Ak<|An ?_
 refine Bl (S:=Nat) (fun i=>[(0, .pointer (some ⟨A,0,none⟩)),(2, .int .i64 (i:Int))]) (fun i a=>i≤hs.length∧BR (BF hs) w a∧(∀j (o:j<hs.length),j<i→∃cs,HL (M9) 5 hs[j].n a hs[j].k cs∧AQ a base 79 5 hs[j].v hs[j].k cs.flatten)∧(∀j (o:j<hs.length),i≤j→AQ a base 79 5 hs[j].v hs[j].k hs[j].xs)) (fun i=>hs.length - i) (0) ⟨rfl,rfl,trivial⟩ ?_ ?_
 ·exact ⟨by omega,BR.refl _ _,fun j o h=>by omega,fun j o _=>t.own _ (getElem_mem o)⟩
 rintro i G ⟨hi,l,hd,ht⟩
 have b1:=hA.chg l hb1
 have Z:=AF (AM ho l hb2)
 refine Ao<|Ad<|Ac O<|Ac O<|Aa (Ax O) O<|Ba underlying55 O (HD _)<|Aa (Al (Jn _) O b1 hu) O<|Aa (Ap (sz:=3) Ik O Z) O<|Bz O<|Ak<|Aq O ?_ ?_
 ·intro h
  have d:i<hs.length:=by simp at h;omega
  have y:=getElem_mem d
  have hfew:=t.few _ y
  have R:=t.num _ y
  have J:hs[i].g.oneCell' =true:=by rw [t.new _ y];rfl
  have D:=(t.own _ y).len
  have hvb:∀b,hs[i].v.ownBlock=some b→b<w.heap.size:=fun b e=>(t.blk ⟨_,y,e⟩).2
  have Q:∀b,hs[i].v.ownBlock=some b→b<B:=fun b e=>hSB b ⟨_,y,e⟩
  refine Bw<|Ao<|An<|Ad<|Ac O<|Aa (Ax O) O<|Ba underlying55 O (HD _)<|Aa (Al (Jn _) O b1 hu) O<|Ac O<|Aa (Cl Ik O O Z i O d) O<|Aa (C8 (cs:=hs[i].cells) (OM _) (NH _) O Z O (by decide) (BT d)) O<|Cz (cs:=hs[i].cells) Kk O O O O (fun _=>rfl) (by simp [Hd.cells,(t.own _ y).sl.one',J,DP]) ?_
  rintro H w2 eA_h p I zhn2
  have hc2:=l.below I
  have z1:=l.size
  have r0:=(ht i d (AU _)).bs I
  refine Be<|Ab O<|Ak<|An ?_
  refine Bl (S:=(Nat×List (List Value))) (fun s=>[(0, .pointer (some ⟨A,0,none⟩)),(2, .int .i64 (i:Int)),(3, .pointer (some ⟨H,0,none⟩)),(4, .int .i64 (s.1:Int))]) (fun s a=>s.1≤hs[i].k∧AP a H 197 hs[i].cells∧BR (BF hs) w a∧BR (fun b=>hs[i].v.ownBlock=some b) w2 a∧HL (M9) 5 hs[i].n a s.1 s.2∧AQ a base 79 5 hs[i].v hs[i].k (s.2.flatten++hs[i].xs.drop (s.1*5))) (fun s=>hs[i].k - s.1) ((0,[])) ⟨rfl,rfl,rfl,rfl,trivial⟩ ?_ ?_
  ·exact ⟨by simp,p,hc2,BR.refl _ _,HL.nil _ _ _ _,by simpa using r0⟩
  clear p r0
  rintro ⟨k,cs⟩ w3 ⟨N,p,E,C,U,M⟩
  dsimp only at N p E C U M ⊢
  refine Ao<|Ad<|Ac O<|Ba underlying197 O (BU _)<|Aa (Al (CD _) O ‹_› rfl) O ?_
  refine Aa (Ap (sz:=5) BE O M.sl) O<|Bz O<|Ak<|Aq O ?_ ?_
  ·intro h
   have m:k<hs[i].k:=by simp at h;omega
   refine Bw<|Ao<|An ?_
   refine Cw.any BB (fun F q _=> ?_)
   have r4:=M.bs q
   have m4:=U.bs V q
   have b4:=p.bs q
   have L:=E.below q
   have X:=C.below q
   have z4:=L.size
   refine Fc (St:=List Value) (g:=1) [0,1,2,3,4,5,6] 7 (fun c=>[(0, .pointer (some ⟨A,0,none⟩)),(2, .int .i64 (i:Int)),(3, .pointer (some ⟨H,0,none⟩)),(4, .int .i64 (k:Int)),(33, .agg c.toArray),(34,CH hs[i].v (k*5))]) (fun c a=>Below F.heap.size F a∧(M9) hs[i].n a c) (by kernel_rfl) O ?_ ?_
   ·have hr4:=Below.refl F.heap.size F
    refine Dg (fun a=>Below F.heap.size F a) (fun hC=> ?_) (hr4)
    refine Cf (Am (Bf (Am (Am (Bf (Bf (Am (Am (Bf Br)))))))))<|Af 0 O (fun G l=>B8 underlying197 O (BU _)) O<|Af 1 O (fun G l=>Al (CD _) O (b4.bs l) O) O<|Af 2 O (fun G l=>B4 O) O<|Af 3 O (fun G l=>B8 underlying197 O (BC _)) O<|Af 4 O (fun G l=>Al (AO _) O (b4.bs l) O) O<|B5<|AR.only ‹_› (i:=5) (by kernel_rfl) O ?_
    refine Ai O O (Ka B hs[i].n F R (by omega)) ?_
    rintro _ w5 ⟨⟨c,rfl,K⟩,f⟩
    refine AR.back<|Cf (Am (Bf (Am (Am (Bf (Bf (Am (Am (Bf Br)))))))))<|Af 6 O (fun G l=>Cl BE O O (r4.sl.bs l) k O m) O<|B5<|Cq ‹_› (by kernel_rfl) ?_
    exact Ar (E9 (c) ⟨rfl,rfl,rfl,rfl,rfl,rfl,trivial⟩ (⟨f,K⟩))
   rintro c w5 ⟨f,K⟩
   have r5:=r4.bs f
   have W:=m4.bs V f
   have b5:=b4.bs f
   have T:=(L9 K).1
   have ld:=Nj D W.els N
   refine Aw.only (i:=7) (by kernel_rfl) O<|Bv (Xu.stKA (k:=5) (ds:=c) O T O O (L9 K).2 r5 (by omega) (by rw [ld,T];omega)) ?_
   rintro w6 ⟨r6,v, -⟩
   rw [Mw D W.els T m] at r6
   have hS6:BR (fun b=>hs[i].v.ownBlock=some b) w5 w6:=(BR.refl _ _).grown v (fun b e=> .inl e)
   have m6:=(W.snoc T K).chg V hS6 Q
   have b6:=b5.by v (fun e=>by have:=hvb _ e.symm;omega)
   refine Aw.back<|D7 (by kernel_rfl)<|Bg<|B6<|Ac O<|B1 O (by omega)<|Ab O<|Bd ?_
   exact Ar (Bp ((k+1,cs++[c])) ⟨rfl,rfl,rfl,rfl,trivial⟩ (⟨m,b6,(L.below f).grown v (fun b e=> .inl ⟨_,y,e⟩),(X.below f).grown v (fun b e=> .inl e),m6,r6⟩) (by simp only;omega))
  intro h
  have m:k=hs[i].k:=by simp at h;omega
  rw [drop_of_length_le (by rw [D,m];exact AU _),append_nil] at M
  rw [m] at U
  have hall:BR (fun b=>hs[i].v.ownBlock=some b) G w3:=(BR.of_below I).trans C
  refine Bk<|Aj<|Aj<|A0<|Bg<|B6<|Ac O<|B1 O (by omega)<|Ab O<|Bd ?_
  exact Ar (Bp (i+1) ⟨rfl,rfl,trivial⟩ (⟨d,E,fun j o hji=>(if e:j=i then by subst e;exact ⟨cs,U,M⟩ else by obtain ⟨ds,q1,q2⟩:=hd j o (by omega);exact ⟨ds,q1.chg V hall Q,q2.chg hall fun b Y e2=>BV t.apart d o (Ne.symm e) b e2 Y⟩),fun j o hji=>(ht j o (by omega)).chg hall fun b Y e2=>BV t.apart d o (by omega) b e2 Y⟩) (by omega))
 intro h
 have d:i=hs.length:=by simp at h;omega
 refine Bk<|Aj<|Aj<|A0<|Cu O ?_
 refine ⟨rfl,l,fun x hx=> ?_⟩
 obtain ⟨j,o,rfl⟩:=List.mem_iff_getElem.1 hx
 exact hd j o (by omega)
theorem Oz (A:Nat) (K:List Value) (u:Value) (hs:List Hd) (lo base B:Nat) (w:World) (hA:AP w A BG K) (hu:K[7]? =some u) (ho:w.ownsRow lo 197 3 u hs.length (AS hs)) (Q:KOk hs) (hf:Gr w base 79 5 (M9) hs)
  (hb1:¬BF hs A) (x:∀b,u.ownBlock=some b→¬BF hs b) (hb3:u.ownBlock≠some A) (hbase:base≤w.heap.size) (hB:B≤w.heap.size) (hSB:∀b,BF hs b→b<B) (huB:∀b,u.ownBlock=some b→b<B):
  AK prog 92 [.pointer (some ⟨A,0,none⟩)] w (fun r p=>r= .tuple #[]∧BR (fun b=>BF hs b∨u.ownBlock=some b) w p∧∃ts,DN w hs ts∧p.ownsRow lo 197 3 u hs.length (AS ts)∧∀t ∈ ts,FE p 5 (M9) t):=by
 have hle:=(AF ho).le
 have R:=(CZ B 3)
 refine Az (n:=42) func92 O<|Ad<|Ab O<|Ak<|An ?_
 refine Bl (S:=(Nat×List Hd)) (fun s=>[(0, .pointer (some ⟨A,0,none⟩)),(2, .int .i64 (s.1:Int))]) (fun s p=>s.1≤hs.length∧DN w hs s.2∧(∀t ∈ s.2,t.g.oneCell' =true)∧BR (fun b=>BF hs b∨u.ownBlock=some b) w p∧p.ownsRow lo 197 3 u hs.length (AS s.2)∧(∀j (v:j<s.2.length),j<s.1→FE p 5 (M9) s.2[j])∧(∀j (v:j<hs.length),s.1≤j→∃cs,HL (M9) 5 hs[j].n p hs[j].k cs∧AQ p base 79 5 hs[j].v hs[j].k cs.flatten)) (fun s=>hs.length - s.1) ((0,hs)) ⟨rfl,rfl,trivial⟩ ?_ ?_
 ·exact ⟨by simp,Ep w Q.new,fun t ht=>(by rw [Q.new t ht];rfl),BR.refl _ _,ho,fun j v h=>by simp at h,fun j v _=>hf _ (getElem_mem v)⟩
 rintro ⟨i,ts⟩ w1 ⟨hi,Y,h1,Z,o1,hd,ht⟩
 dsimp only at hi Y h1 Z o1 hd ht ⊢
 have b1:=hA.chg Z (fun e=>e.elim hb1 hb3)
 have s1:=AF o1
 have hlen:=Y.len
 refine Ao<|Ad<|Ac O<|Ac O<|Aa (Ax O) O<|Ba underlying55 O (HD _)<|Aa (Al (Jn _) O b1 hu) O<|Aa (Ap (sz:=3) Ik O s1) O<|Bz O<|Ak<|Aq O ?_ ?_
 ·intro h
  have d:i<hs.length:=by simp at h;omega
  have z:i<ts.length:=by omega
  obtain ⟨ev,ek,en,eg⟩:=Y.all i d z
  have I:=getElem_mem d
  have hmt:=getElem_mem z
  have hfew:=Q.few _ I
  have hnum:=Q.num _ I
  have hone:=h1 _ hmt
  have hvb:∀b,hs[i].v.ownBlock=some b→b<w.heap.size:=fun b e=>(hf.blk ⟨_,I,e⟩).2
  have hvB:∀b,hs[i].v.ownBlock=some b→b<B:=fun b e=>hSB b ⟨_,I,e⟩
  obtain ⟨c0,m0,X⟩:=ht i d (AU _)
  have hvo:=X.sl.one'
  refine Bw<|Ao<|An<|Ad<|Ac O<|Aa (Ax O) O<|Ba underlying55 O (HD _)<|Aa (Al (Jn _) O b1 hu) O<|Ac O<|Aa (Cl Ik O O s1 i O d) O<|Aa (C8 (cs:=ts[i].cells) (OM _) (NH _) O s1 O (by decide) (BT z)) O<|Cz (cs:=ts[i].cells) Kk O O O O (fun _=>rfl) (by simp [Hd.cells,ev,hvo,hone,DP]) ?_
  rintro W w2 eA_h C G zhn2
  have hc2:=Z.below G
  have z1:=Z.size
  have z2:=hc2.size
  have X:=X.bs G
  have m0:=m0.bs R G
  refine Be<|Ba underlying197 O (BU _)<|Aa (Al (CD _) O ‹_› rfl) O ?_
  refine Ab O<|Bi<|Ab O<|Ak<|An<|Em 4 (v' :=hs[i].v) O (ev) ?_
  refine Bl (S:=(Nat×Value×List (List Value))) (fun s=>[(0, .pointer (some ⟨A,0,none⟩)),(2, .int .i64 (i:Int)),(3, .pointer (some ⟨W,0,none⟩)),(4,s.2.1),(5, .int .i64 (s.1:Int))]) (fun s p=>s.1≤40∧AP p W 197 ts[i].cells∧BR (fun b=>hs[i].v.ownBlock=some b) w2 p∧HL (M9) 5 hs[i].n p (hs[i].k+s.1) s.2.2∧AQ p base 79 5 s.2.1 (hs[i].k+s.1) s.2.2.flatten∧(∀b,s.2.1.ownBlock=some b→hs[i].v.ownBlock=some b∨w2.heap.size≤b)∧s.2.2.take hs[i].k=c0∧Sl p 5 hs[i].v hs[i].k c0.flatten) (fun s=>40 - s.1) ((0,hs[i].v,c0)) ⟨rfl,rfl,rfl,rfl,rfl,trivial⟩ ?_ ?_
  ·exact ⟨by simp,C,BR.refl _ _,m0,X,fun b e=> .inl e,take_of_length_le (by rw [m0.els.1];exact AU _),X.sl⟩
  clear C
  rintro ⟨k,g,cs⟩ w3 ⟨hk3,C,N,m3,r3,q,V,l3⟩
  dsimp only at hk3 C m3 r3 q V l3 ⊢
  have z3:=N.size
  refine Ao<|Ad<|Ac O<|Bz O<|Ak<|Aq O ?_ ?_
  ·intro h
   have M:k<40:=by simp at h;omega
   refine Bw<|Ao<|An<|Bn<|Ac O<|Ba underlying197 O (BC _)<|Aa (Al (AO _) O ‹_› rfl) O ?_
   refine Cm 30 (v' := .int .i64 hs[i].n) O (cngA (Value.int .i64) en)<|Ai O O (Ka B hs[i].n w3 hnum (by omega)) ?_
   rintro _ J ⟨⟨c,rfl,hφ⟩,hn4⟩
   have lc:=L9 hφ
   refine Bc (D8 (cs:=c) BE EJ O lc.1 (by decide) (by decide)) O ?_
   rintro nv w5 ⟨o5, -,hn5, -⟩
   have l:=bt hn4 hn5
   have z5:=l.size
   have r5:=r3.bs l
   have m5:=(m3.bs R l).snoc lc.1 (R.bs hφ hn5)
   have hgt:∀b,g.ownBlock=some b→b<B∨∃T cs,AP w5 b T cs∧T≠3:=fun b e=>by
    rcases q b e with a|a
    ·exact .inl (hvB b a)
    ·obtain ⟨cur,hcur⟩:=r5.ty e
     exact .inr ⟨_,cur,hcur,by decide⟩
   refine Bc (En (base:=base) BE EJ O (by decide) O O r5 (AF o5) lc.2 (by omega) (by omega) (by omega) (AU _)) O ?_
   rintro g' w6 ⟨r6,F,D⟩
   have l5:=l3.bs l
   have b5:=C.bs l
   have e6:cs.flatten++c=(cs++[c]).flatten:=by simp
   rw [e6] at r6
   have m6:=m5.by R F hgt
   have hgA:some W≠g.ownBlock:=fun e=>by
    rcases q _ e.symm with a|a
    ·have:=hvb _ a;omega
    ·omega
   have L:(cs++[c]).take hs[i].k=c0:=by rw [take_append_of_le_length (by rw [m3.els.1];omega)];exact V
   have l6:Sl w6 5 hs[i].v hs[i].k c0.flatten:=Ji X (.inl r6) F D l5 (by
    rw [E8 (k:=hs[i].k) (m:=k+1) m5.els,L])
   have hgb' :∀b,g'.ownBlock=some b→hs[i].v.ownBlock=some b∨w2.heap.size≤b:=fun b e=>by
    rcases D with a|⟨a, -⟩
    ·rw [a] at e;exact q b e
    ·exact .inr (by have:=a b e;omega)
   refine Ab O<|Bd<|Bg<|B6<|Ac O<|B1 O (by omega)<|Ab O<|Bd ?_
   exact Ar (Bp ((k+1,g',cs++[c])) ⟨rfl,rfl,rfl,rfl,rfl,trivial⟩ (⟨M,b5.by F hgA,(N.below l).grown F q,m6, .inl r6,hgb',L,l6⟩) (by simp only;omega))
  intro h
  have M:k=40:=by simp at h;omega
  subst M
  have hall:BR (fun b=>hs[i].v.ownBlock=some b) w1 w3:=(BR.of_below G).trans N
  have hcS:BR (fun b=>BF hs b∨u.ownBlock=some b) w w3:=Z.trans (hall.mono fun b e=> .inl ⟨_,I,e⟩)
  have b3:=hA.chg hcS (fun e=>e.elim hb1 hb3)
  have o3:=AM o1 hall (fun b y f=>x b y ⟨_,I,f⟩)
  refine Bk<|Aj<|Aj<|A0<|B6<|Ac O<|Aa (Ax O) O<|Ba underlying55 O (HD _)<|Aa (Al (Jn _) O b3 hu) O<|Ac O<|Ac O<|Aa (Cl Ik O O (AF o3) i O d) O<|Aa (C9 underlying197 O (BU _) O (Hq o3 (by omega))) O<|Bv (Et (j:=i*3+1) (BU _) O O r3.sl.one' o3 (by rw [FK];omega)) ?_
  rintro J ⟨o4,E, -⟩
  have e4:=FJ z g
  have o4:J.ownsRow lo 197 3 u hs.length (AS (ts.set i {ts[i] with g:=g})):=by rw [← e4];exact o4
  have hG4:=Y.set d z (g:=g) (fun b e=>by
   rcases q b e with a|a
   ·exact .inl a
   ·exact .inr (by omega))
  have o:BR (fun b=>hs[i].v.ownBlock=some b∨u.ownBlock=some b) w1 J:=(hall.mono fun b e=> .inl e).grown E (fun b e=> .inl (.inr e))
  have H:∀b,(hs[i].v.ownBlock=some b∨u.ownBlock=some b)→b<B:=fun b e=>e.elim (hvB b) (huB b)
  have hS4:BR (fun b=>BF hs b∨u.ownBlock=some b) w J:=hcS.grown E (fun b e=> .inl (.inr e))
  have huT:∀b,u.ownBlock=some b→b<B∨∃T cs,AP w3 b T cs∧T≠3:=fun b e=> .inl (huB b e)
  have m4:=m3.by R E huT
  have t4:FE J 5 (M9) {ts[i] with g:=g}:=by
   refine ⟨⟨c0, ?_, ?_⟩,⟨cs, ?_, ?_⟩⟩
   ·simp only;rw [ek,en,← V];exact m4.take
   ·simp only;rw [ev,ek]
    refine l3.by E ?_
    cases hv:hs[i].v.ownBlock with
    |none=>exact .inl rfl
    |some b=>exact .inr fun e=>x b e.symm ⟨_,I,hv⟩
   ·simp only;rw [ek,en];exact m4
   ·simp only;rw [ek]
    refine r3.sl.by E ?_
    cases hv:g.ownBlock with
    |none=>exact .inl rfl
    |some b=>
     refine .inr fun e=> ?_
     rcases q b hv with a|a
     ·exact x b e.symm ⟨_,I,a⟩
     ·have:=(AB ho b e.symm).2;omega
  have h14:∀t ∈ ts.set i {ts[i] with g:=g},t.g.oneCell' =true:=fun t U=>by
   rcases mem_or_eq_of_mem_set U with a|a
   ·exact h1 t a
   ·rw [a];exact r3.sl.one'
  have hd4:∀j (v:j<(ts.set i {ts[i] with g:=g}).length),j<i+1→FE J 5 (M9) (ts.set i {ts[i] with g:=g})[j]:=fun j v hji=>by
    rw [getElem_set]
    split
    ·exact t4
    ·rename_i hne
     have hj' :j<ts.length:=by simpa using v
     obtain ⟨fv,_,_,fg⟩:=Y.all j (by omega) hj'
     refine (hd j hj' (by omega)).chg R o H (fun b y _ f=> ?_) (fun b y _ f=> ?_)
     ·rw [fv] at y
      rcases f with f|f
      ·exact BV Q.apart d (show j<hs.length by omega) hne b f y
      ·exact x b f ⟨_,getElem_mem _,y⟩
     ·rcases f with f|f
      ·rcases fg b y with a|a
       ·exact BV Q.apart d (show j<hs.length by omega) hne b f a
       ·have:=hvb b f;omega
      ·rcases fg b y with a|a
       ·exact x b f ⟨_,getElem_mem _,a⟩
       ·have:=(AB ho b f).2;omega
  have ht4:∀j (v:j<hs.length),i+1≤j→∃cs,HL (M9) 5 hs[j].n J hs[j].k cs∧AQ J base 79 5 hs[j].v hs[j].k cs.flatten:=fun j v hji=>by
   obtain ⟨ds,q1,q2⟩:=ht j v (by omega)
   refine ⟨ds,q1.chg R o H,q2.chg o fun b y f=> ?_⟩
   rcases f with f|f
   ·exact BV Q.apart d v (by omega) b f y
   ·exact x b f ⟨_,getElem_mem _,y⟩
  refine Bd<|Bg<|B6<|Ac O<|B1 O (by omega)<|Ab O<|Bd ?_
  exact Ar (Bp ((i+1,ts.set i {ts[i] with g:=g})) ⟨rfl,rfl,trivial⟩ (⟨d,hG4,h14,hS4,o4,hd4,ht4⟩) (by simp only;omega))
 intro h
 have d:i=hs.length:=by simp at h;omega
 refine Bk<|Aj<|Aj<|A0<|Cu O ?_
 refine ⟨rfl,Z,ts,Y,o1,fun t U=> ?_⟩
 obtain ⟨j,v,rfl⟩:=List.mem_iff_getElem.1 U
 exact hd j v (by omega)
theorem Oc (A:Nat) (l:List Value) (u:Value) (ts:List Hd) (lo B:Nat) (w:World) (Z:AP w A BG l) (R:l[7]? =some u) (Q:w.ownsRow lo 197 3 u ts.length (AS ts)) (Y:∀t ∈ ts,FE w 5 (M9) t) (hn:∀t ∈ ts,(0≤t.n∧t.n≤4000000)∧t.k≤16777216):
  AK prog 107 [.pointer (some ⟨A,0,none⟩)] w (fun r x=>r= .bool true∧Below w.heap.size w x):=by
 have hle:=(AF Q).le
 have q:=(CZ B 3)
 refine Az (n:=64) func107 O<|Ad<|Ab O<|Bi<|Ab O<|Ak<|An ?_
 refine Bl (S:=Nat) (fun i=>[(0, .pointer (some ⟨A,0,none⟩)),(2, .bool false),(3, .int .i64 (i:Int))]) (fun i x=>i≤ts.length∧Below w.heap.size w x) (fun i=>ts.length - i) (0) ⟨rfl,rfl,rfl,trivial⟩ ?_ ?_
 ·exact ⟨by omega,Below.refl _ _⟩
 rintro i b ⟨hi,d⟩
 have L:=Z.bs d
 have J:=(AF Q).bs d
 refine Ao<|Ad<|Ac O<|Ac O<|Aa (Ax O) O<|Ba underlying55 O (HD _)<|Aa (Al (Jn _) O L R) O<|Aa (Ap (sz:=3) Ik O J) O<|Bz O<|Ak<|Aq O ?_ ?_
 ·intro h
  have j:i<ts.length:=by simp at h;omega
  have T:=getElem_mem j
  obtain ⟨m,U⟩:=hn _ T
  have t1:=(Y _ T).bs q d
  obtain ⟨⟨G,v,C⟩,⟨I,s,z⟩⟩:=t1
  refine Bw<|Ao<|An<|Ad<|Ac O<|Aa (Ax O) O<|Ba underlying55 O (HD _)<|Aa (Al (Jn _) O L R) O<|Ac O<|Aa (Cl Ik O O J i O j) O<|Aa (C8 (cs:=ts[i].cells) (OM _) (NH _) O J O (by decide) (BT j)) O<|Cz (cs:=ts[i].cells) Kk O O O O (fun _=>rfl) (by simp [Hd.cells,C.one',z.one',DP]) ?_
  rintro F V M D e N
  have E:=bt d e
  have C:=C.bs e
  have z:=z.bs e
  have v:=v.bs q e
  have s:=s.bs q e
  refine Bi<|Ba underlying197 O (BU _)<|Aa (Al (CD _) O ‹_› rfl) O ?_
  refine Aa (Ap (sz:=5) BE O z) O<|Ba underlying197 O (BU _)<|Aa (Al (CD _) O ‹_› rfl) O ?_
  refine Aa (Ap (sz:=5) BE O C) O<|B1 O (by omega)<|Aa (Ct O O) O<|Ak<|Bu O false (by simp)<|Cs<|Ab O<|Ak<|An ?_
  refine Bl (S:=Nat) (fun k=>[(0, .pointer (some ⟨A,0,none⟩)),(2, .bool false),(3, .int .i64 (i:Int)),(4, .pointer (some ⟨F,0,none⟩)),(5, .int .i64 (k:Int))]) (fun k x=>k≤ts[i].k+40∧Below V.heap.size V x) (fun k=>ts[i].k+40 - k) (0) ⟨rfl,rfl,rfl,rfl,rfl,trivial⟩ ?_ ?_
  ·exact ⟨by omega,Below.refl _ _⟩
  rintro k w3 ⟨hk3,c⟩
  have H:=C.bs c
  have K:=z.bs c
  have b3:=D.bs c
  have X:=v.bs q c
  have m4:=s.bs q c
  refine Ao<|Ad<|Ac O<|Ba underlying197 O (BU _)<|Aa (Al (CD _) O ‹_› rfl) O ?_
  refine Aa (Ap (sz:=5) BE O K) O<|Bz O<|Ak<|Aq O ?_ ?_
  ·intro h
   have f:k<ts[i].k+40:=by simp at h;omega
   have o:k<I.length:=by rw [s.els.1];exact f
   refine Bw<|Ao<|An<|Ao<|Da BB (by kernel_rfl)<|Ah (fun b a=>B8 underlying197 O (BU _)) O<|Ah (fun b a=>Al (CD _) O (AP.bs ‹_› a) O) O ?_
   refine Bq O<|Ah (fun b a=>Cl BE O O (K.bs a) k O f) O<|Ah (fun b a=>C8 (cs:=I[k]) (EK _) (EH _) O (K.bs a) (s.els.2 _ (getElem_mem o)) (by decide) (s.els.cells o)) O<|Ah (fun b a=>B8 underlying197 O (BC _)) O<|Ah (fun b a=>Al (AO _) O (AP.bs ‹_› a) O) O ?_
   refine Db O O (fun b a=>(MS B ts[i].n b I[k] m (q.bs (m4.each _ (getElem_mem o)) a)).q a)<|Ah (fun b a=>Co O) O<|Bq O<|Ew 46 (v' := .bool false) O (cngA Value.bool (rfl))<|Bb (dj:=46) O O<|Bq O<|Bb (dj:=46) O O<|Ah (fun b a=>B8 underlying197 O (BU _)) O<|Bb (dj:=46) O O<|Ah (fun b a=>Al (CD _) O (AP.bs ‹_› a) O) O ?_
   refine Bb (dj:=46) O O<|Ah (fun b a=>Ap (sz:=5) BE O (H.bs a)) O<|Bb (dj:=46) O O<|Ah (fun b a=>Er O O) O<|Bb (dj:=46) O O<|Bq O ?_
   refine Dj 52 O ?_ ?_
   ·intro g
    have y:k<ts[i].k:=by simpa using g
    have p:k<G.length:=by rw [v.els.1];exact y
    refine Bb (dj:=52) O O<|Ah (fun b a=>B8 underlying197 O (BU _)) O<|Bb (dj:=52) O O<|Ah (fun b a=>Al (CD _) O (AP.bs ‹_› a) O) O ?_
    refine Bb (dj:=52) O O<|Bq O<|Bb (dj:=52) O O<|Ah (fun b a=>Cl BE O O (H.bs a) k O y) O<|Bb (dj:=52) O O<|Ah (fun b a=>C8 (cs:=G[k]) (EK _) (EH _) O (H.bs a) (v.els.2 _ (getElem_mem p)) (by decide) (v.els.cells p)) O<|Bb (dj:=52) O O<|Ah (fun b a=>B8 underlying197 O (BC _)) O<|Bb (dj:=52) O O<|Ah (fun b a=>Al (AO _) O (AP.bs ‹_› a) O) O ?_
    refine Bb (dj:=52) O O<|Db O O (fun b a=>(MS B ts[i].n b G[k] m (q.bs (X.each _ (getElem_mem p)) a)).q a)<|Bb (dj:=52) O O<|Ah (fun b a=>Co O) O<|Bb (dj:=46) O O<|Ah (fun b a=>C3 O O) O<|Ah (fun b a=>C0 O O) O ?_
    refine C2 (fun W a=> ?_)
    refine Ar<|B9<|Bu O false (rfl)<|Cj<|Bg<|B6<|Ac O<|B1 O (by omega)<|Ab O<|Bd ?_
    exact Ar (Bp (k+1) ⟨rfl,rfl,rfl,rfl,rfl,trivial⟩ (⟨f,bt c a⟩) (by omega))
   ·intro g
    refine Au (dj:=52) O O O O<|Au (dj:=52) O O O O<|Au (dj:=52) O O O O<|Au (dj:=52) O O O O<|Au (dj:=52) O O O O<|Au (dj:=52) O O O O<|Au (dj:=52) O O O O<|Au (dj:=52) O O O O<|Au (dj:=52) O O O O<|Bb (dj:=46) O O<|Ah (fun b a=>C0 O O) O<|Ah (fun b a=>C0 O O) O ?_
    refine C2 (fun W a=> ?_)
    refine Ar<|B9<|D5 O<|Cj<|Bg<|B6<|Ac O<|B1 O (by omega)<|Ab O<|Bd ?_
    exact Ar (Bp (k+1) ⟨rfl,rfl,rfl,rfl,rfl,trivial⟩ (⟨f,bt c a⟩) (by omega))
  intro h
  refine Bk<|Aj<|Aj<|A0<|Bg<|B6<|Ac O<|B1 O (by omega)<|Ab O<|Bd ?_
  exact Ar (Bp (i+1) ⟨rfl,rfl,rfl,trivial⟩ (⟨j,bt E c⟩) (by omega))
 intro h
 exact Bk<|Aj<|Aj<|A0<|Cb<|Ab rfl<|Ay<|As rfl rfl<|⟨rfl,d⟩

theorem GT {v:Value} (h:v.oneCell' =true) (n:Int):[v, .slice none 0 0, .int .i64 n].all (fun x=>x.oneCell')=true:=by
 rw [all_cons,h];rfl
theorem Mg (v:Value) (n:Int) (b:v.cells=[v].toArray):Tryz.prog.built 179 [(0,v),(2, .int .i64 n)]=some [v, .slice none 0 0, .int .i64 n].toArray:=by
 have a:Tryz.prog.info? 179=some Tryz.t179:=by kernel_rfl
 have c:Tryz.prog.info? 28=some Tryz.t28:=by kernel_rfl
 have d:Tryz.prog.info? 3=some Tryz.t3:=by kernel_rfl
 simp [Program.built,a,underlying179,c,d,Instr.fill,b]
 rfl
theorem Ol (A:Nat) (a:List Value) (n:Int) (u:Value) (hs:List Hd) (q:Nat) (w:World) (v:Value) (k:Nat) (xs:List Value) (I:AP w A BG a) (J:a[0]? =some (.int .i64 n)) (M:a[1]? =some u) (K:w.ownsRow q 179 3 u hs.length (AS hs))
  (hlo:q≤w.heap.size) (p:u.ownBlock≠some A) (hn:0≤n∧n≤4000000) (hh:hs.length≤4000000) (N:Sl w 1 v k xs):
  AK prog 70 [.pointer (some ⟨A,0,none⟩),v] w (fun r f=>r= .tuple #[]∧∃m,AP f A BG ((a.set 0 (.int .i64 (n+1))).set 1 m)∧f.ownsRow q 179 3 m (hs.length+1) (AS (hs++[(⟨v,k,xs,n+1, .slice none 0 0⟩:Hd)]))∧BR (fun b=>b=A∨u.ownBlock=some b) w f∧∀b,m.ownBlock=some b→u.ownBlock=some b∨w.heap.size≤b):=by
 have t:0<a.length:=(List.getElem?_eq_some_iff.1 J).1
 have F:1<a.length:=(List.getElem?_eq_some_iff.1 M).1
 refine Az (n:=26) func70 O<|Ad<|Ac O<|Aa (Ax O) O<|Ba underlying55 O (BC _)<|Aa (Al (AO _) O I J) O<|B1 O (by omega)<|Aa (Ax O) O<|Ba underlying55 O (BC _)<|Bv (C5 (u:= .int .i64 (n+1)) (BC _) O O O I t) ?_
 rintro c ⟨R,y,Y⟩
 have o1:=AV K (fun b e=>y.block b (AB K b e).2 (fun H=>p (by rw [e,H])))
 have Z:BR (fun b=>b=A∨u.ownBlock=some b) w c:=(BR.refl _ _).grown y (fun b e=> .inl (.inl (Option.some.inj e).symm))
 have S:(a.set 0 (.int .i64 (n+1)))[0]? =some (.int .i64 (n+1)):=by simp [t]
 have qC:(a.set 0 (.int .i64 (n+1)))[1]? =some u:=by rw [getElem?_set_ne (by decide)];exact M
 have X:=BA I
 refine Ak ?_
 refine Cw.any BB (fun w2 C _=> ?_)
 have G:=AI o1 C
 have D:=R.bs C
 refine Fc (St:=Value) (g:=1) [0,1,2,3,4,5,6,7,8,9,10,11,12,13,14] 15 (fun s=>[(23,s),(25, .pointer (some ⟨A,1,none⟩))]) (fun s f=>BR (fun b=>b=A∨u.ownBlock=some b) w f∧f.ownsRow q 179 3 s (hs.length+1) (AS (hs++[(⟨v,k,xs,n+1, .slice none 0 0⟩:Hd)]))∧AP f A BG (a.set 0 (.int .i64 (n+1)))∧∀b,s.ownBlock=some b→u.ownBlock=some b∨w.heap.size≤b) (by kernel_rfl) O ?_ ?_
 ·refine Dg (fun f=>AP f A BG (a.set 0 (.int .i64 (n+1)))) (fun hC=> ?_) (D)
  refine Cf (Am Br)<|Af 0 O (fun c d=>B4 O) O<|Af 1 O (fun c d=>B4 O) O<|Af 2 O (fun c d=>Ax O) O<|Af 3 O (fun c d=>B8 underlying55 O (HH _)) O<|Af 4 O (fun c d=>Al (Jr _) O d qC) O<|Af 5 O (fun c d=>B4 O) O<|Af 6 O (fun c d=>B4 O) O<|Af 7 O (fun c d=>Ax O) O<|Af 8 O (fun c d=>B8 underlying55 O (BC _)) O<|Af 9 O (fun c d=>Al (AO _) O d S) O<|Af 10 O (fun c d=>C1 (vs:=[(0,v),(2, .int .i64 (n+1))]) (cs:=[v, .slice none 0 0, .int .i64 (n+1)]) O (Mg _ _ N.one)) O<|B5<|AR.only ‹_› (i:=11) (by kernel_rfl) O ?_
  refine Bc (E0 (vs:=[(0, .agg #[v, .slice none 0 0, .int .i64 (n+1)])]) (cs:=[v, .slice none 0 0, .int .i64 (n+1)]) Iq Ko O (by decide) (by decide) (by decide) (by kernel_rfl) O) O ?_
  rintro nv V ⟨o3, -,l, -⟩
  have G:=AI G l
  have D:=D.bs l
  have z3:=(bt C l).size
  have z:q≤V.heap.size:=by omega
  refine AR.back<|AR.only ‹_› (i:=12) (by kernel_rfl) O ?_
  refine Bc (D4 (base:=q) Iq Ko O (by decide) O O G (AF o3) (GT N.one' _) (by omega) (by omega) z) O ?_
  rintro m Q ⟨o4,x,o⟩
  have c4:BR (fun b=>b=A∨u.ownBlock=some b) w Q:=(Z.below (bt C l)).grown x (fun b e=> .inl (.inr e))
  have b4:=D.by x (fun e=>p e.symm)
  have j:∀b,m.ownBlock=some b→u.ownBlock=some b∨w.heap.size≤b:=fun b e=>by
   rcases o with h|⟨h,_⟩
   ·rw [h] at e;exact .inl e
   ·exact .inr (by have:=h b e;omega)
  refine AR.back<|Cf (Am Br)<|Af 13 O (fun c d=>Ax O) O<|Af 14 O (fun c d=>B8 underlying55 O (HH _)) O<|B5<|Cq ‹_› (by kernel_rfl) ?_
  exact Ar (E9 (m) ⟨rfl,rfl,trivial⟩ (⟨c4,by rw [FL];exact o4,b4,j⟩))
 rintro m w5 ⟨L,E,T,j⟩
 have z5:=L.size
 refine Aw.only (i:=15) (by kernel_rfl) O<|Bv (C5 (u:=m) (HH _) O O (AF E).one' T (by rw [length_set];exact F)) ?_
 rintro w6 ⟨W,B, -⟩
 have U:=AV E (fun b e=>B.block b (AB E b e).2 (fun H=>by
  cases H
  rcases j _ e with h|h
  ·exact p h
  ·omega))
 refine Aw.back<|D7 (by kernel_rfl)<|Cu O ?_
 exact ⟨rfl,m,W,U,L.grown B (fun b e=> .inl (.inl (Option.some.inj e).symm)),j⟩
theorem Np (v:Value) (n:Int) (b:v.cells=[v].toArray):Tryz.prog.built 182 [(0,v),(2, .int .i64 n)]=some [v, .slice none 0 0, .int .i64 n].toArray:=by
 have a:Tryz.prog.info? 182=some Tryz.t182:=by kernel_rfl
 have c:Tryz.prog.info? 70=some Tryz.t70:=by kernel_rfl
 have d:Tryz.prog.info? 3=some Tryz.t3:=by kernel_rfl
 simp [Program.built,a,underlying182,c,d,Instr.fill,b]
 rfl
theorem Qf (A:Nat) (a:List Value) (n:Int) (u:Value) (hs:List Hd) (q:Nat) (w:World) (v:Value) (k:Nat) (xs:List Value) (I:AP w A BG a) (J:a[0]? =some (.int .i64 n)) (M:a[2]? =some u) (K:w.ownsRow q 182 3 u hs.length (AS hs))
  (hlo:q≤w.heap.size) (p:u.ownBlock≠some A) (hn:0≤n∧n≤4000000) (hh:hs.length≤4000000) (N:Sl w 1 v k xs):
  AK prog 265 [.pointer (some ⟨A,0,none⟩),v] w (fun r f=>r= .tuple #[]∧∃m,AP f A BG ((a.set 0 (.int .i64 (n+1))).set 2 m)∧f.ownsRow q 182 3 m (hs.length+1) (AS (hs++[(⟨v,k,xs,n+1, .slice none 0 0⟩:Hd)]))∧BR (fun b=>b=A∨u.ownBlock=some b) w f∧∀b,m.ownBlock=some b→u.ownBlock=some b∨w.heap.size≤b):=by
 have t:0<a.length:=(List.getElem?_eq_some_iff.1 J).1
 have F:2<a.length:=(List.getElem?_eq_some_iff.1 M).1
 refine Az (n:=26) func265 O<|Ad<|Ac O<|Aa (Ax O) O<|Ba underlying55 O (BC _)<|Aa (Al (AO _) O I J) O<|B1 O (by omega)<|Aa (Ax O) O<|Ba underlying55 O (BC _)<|Bv (C5 (u:= .int .i64 (n+1)) (BC _) O O O I t) ?_
 rintro c ⟨R,y,Y⟩
 have o1:=AV K (fun b e=>y.block b (AB K b e).2 (fun H=>p (by rw [e,H])))
 have Z:BR (fun b=>b=A∨u.ownBlock=some b) w c:=(BR.refl _ _).grown y (fun b e=> .inl (.inl (Option.some.inj e).symm))
 have S:(a.set 0 (.int .i64 (n+1)))[0]? =some (.int .i64 (n+1)):=by simp [t]
 have qC:(a.set 0 (.int .i64 (n+1)))[2]? =some u:=by rw [getElem?_set_ne (by decide)];exact M
 have X:=BA I
 refine Ak ?_
 refine Cw.any BB (fun w2 C _=> ?_)
 have G:=AI o1 C
 have D:=R.bs C
 refine Fc (St:=Value) (g:=1) [0,1,2,3,4,5,6,7,8,9,10,11,12,13,14] 15 (fun s=>[(23,s),(25, .pointer (some ⟨A,2,none⟩))]) (fun s f=>BR (fun b=>b=A∨u.ownBlock=some b) w f∧f.ownsRow q 182 3 s (hs.length+1) (AS (hs++[(⟨v,k,xs,n+1, .slice none 0 0⟩:Hd)]))∧AP f A BG (a.set 0 (.int .i64 (n+1)))∧∀b,s.ownBlock=some b→u.ownBlock=some b∨w.heap.size≤b) (by kernel_rfl) O ?_ ?_
 ·refine Dg (fun f=>AP f A BG (a.set 0 (.int .i64 (n+1)))) (fun hC=> ?_) (D)
  refine Cf (Am Br)<|Af 0 O (fun c d=>B4 O) O<|Af 1 O (fun c d=>B4 O) O<|Af 2 O (fun c d=>Ax O) O<|Af 3 O (fun c d=>B8 underlying55 O (HG _)) O<|Af 4 O (fun c d=>Al (Jq _) O d qC) O<|Af 5 O (fun c d=>B4 O) O<|Af 6 O (fun c d=>B4 O) O<|Af 7 O (fun c d=>Ax O) O<|Af 8 O (fun c d=>B8 underlying55 O (BC _)) O<|Af 9 O (fun c d=>Al (AO _) O d S) O<|Af 10 O (fun c d=>C1 (vs:=[(0,v),(2, .int .i64 (n+1))]) (cs:=[v, .slice none 0 0, .int .i64 (n+1)]) O (Np _ _ N.one)) O<|B5<|AR.only ‹_› (i:=11) (by kernel_rfl) O ?_
  refine Bc (E0 (vs:=[(0, .agg #[v, .slice none 0 0, .int .i64 (n+1)])]) (cs:=[v, .slice none 0 0, .int .i64 (n+1)]) Ip Kn O (by decide) (by decide) (by decide) (by kernel_rfl) O) O ?_
  rintro nv V ⟨o3, -,l, -⟩
  have G:=AI G l
  have D:=D.bs l
  have z3:=(bt C l).size
  have z:q≤V.heap.size:=by omega
  refine AR.back<|AR.only ‹_› (i:=12) (by kernel_rfl) O ?_
  refine Bc (D4 (base:=q) Ip Kn O (by decide) O O G (AF o3) (GT N.one' _) (by omega) (by omega) z) O ?_
  rintro m Q ⟨o4,x,o⟩
  have c4:BR (fun b=>b=A∨u.ownBlock=some b) w Q:=(Z.below (bt C l)).grown x (fun b e=> .inl (.inr e))
  have b4:=D.by x (fun e=>p e.symm)
  have j:∀b,m.ownBlock=some b→u.ownBlock=some b∨w.heap.size≤b:=fun b e=>by
   rcases o with h|⟨h,_⟩
   ·rw [h] at e;exact .inl e
   ·exact .inr (by have:=h b e;omega)
  refine AR.back<|Cf (Am Br)<|Af 13 O (fun c d=>Ax O) O<|Af 14 O (fun c d=>B8 underlying55 O (HG _)) O<|B5<|Cq ‹_› (by kernel_rfl) ?_
  exact Ar (E9 (m) ⟨rfl,rfl,trivial⟩ (⟨c4,by rw [FL];exact o4,b4,j⟩))
 rintro m w5 ⟨L,E,T,j⟩
 have z5:=L.size
 refine Aw.only (i:=15) (by kernel_rfl) O<|Bv (C5 (u:=m) (HG _) O O (AF E).one' T (by rw [length_set];exact F)) ?_
 rintro w6 ⟨W,B, -⟩
 have U:=AV E (fun b e=>B.block b (AB E b e).2 (fun H=>by
  cases H
  rcases j _ e with h|h
  ·exact p h
  ·omega))
 refine Aw.back<|D7 (by kernel_rfl)<|Cu O ?_
 exact ⟨rfl,m,W,U,L.grown B (fun b e=> .inl (.inl (Option.some.inj e).symm)),j⟩
theorem K5 (v:Value) (n:Int) (b:v.cells=[v].toArray):Tryz.prog.built 185 [(0,v),(2, .int .i64 n)]=some [v, .slice none 0 0, .int .i64 n].toArray:=by
 have a:Tryz.prog.info? 185=some Tryz.t185:=by kernel_rfl
 have c:Tryz.prog.info? 73=some Tryz.t73:=by kernel_rfl
 have d:Tryz.prog.info? 3=some Tryz.t3:=by kernel_rfl
 simp [Program.built,a,underlying185,c,d,Instr.fill,b]
 rfl
theorem LL (A:Nat) (a:List Value) (n:Int) (u:Value) (hs:List Hd) (q:Nat) (w:World) (v:Value) (k:Nat) (xs:List Value) (I:AP w A BG a) (J:a[0]? =some (.int .i64 n)) (M:a[3]? =some u) (K:w.ownsRow q 185 3 u hs.length (AS hs))
  (hlo:q≤w.heap.size) (p:u.ownBlock≠some A) (hn:0≤n∧n≤4000000) (hh:hs.length≤4000000) (N:Sl w 1 v k xs):
  AK prog 266 [.pointer (some ⟨A,0,none⟩),v] w (fun r f=>r= .tuple #[]∧∃m,AP f A BG ((a.set 0 (.int .i64 (n+1))).set 3 m)∧f.ownsRow q 185 3 m (hs.length+1) (AS (hs++[(⟨v,k,xs,n+1, .slice none 0 0⟩:Hd)]))∧BR (fun b=>b=A∨u.ownBlock=some b) w f∧∀b,m.ownBlock=some b→u.ownBlock=some b∨w.heap.size≤b):=by
 have t:0<a.length:=(List.getElem?_eq_some_iff.1 J).1
 have F:3<a.length:=(List.getElem?_eq_some_iff.1 M).1
 refine Az (n:=26) func266 O<|Ad<|Ac O<|Aa (Ax O) O<|Ba underlying55 O (BC _)<|Aa (Al (AO _) O I J) O<|B1 O (by omega)<|Aa (Ax O) O<|Ba underlying55 O (BC _)<|Bv (C5 (u:= .int .i64 (n+1)) (BC _) O O O I t) ?_
 rintro c ⟨R,y,Y⟩
 have o1:=AV K (fun b e=>y.block b (AB K b e).2 (fun H=>p (by rw [e,H])))
 have Z:BR (fun b=>b=A∨u.ownBlock=some b) w c:=(BR.refl _ _).grown y (fun b e=> .inl (.inl (Option.some.inj e).symm))
 have S:(a.set 0 (.int .i64 (n+1)))[0]? =some (.int .i64 (n+1)):=by simp [t]
 have qC:(a.set 0 (.int .i64 (n+1)))[3]? =some u:=by rw [getElem?_set_ne (by decide)];exact M
 have X:=BA I
 refine Ak ?_
 refine Cw.any BB (fun w2 C _=> ?_)
 have G:=AI o1 C
 have D:=R.bs C
 refine Fc (St:=Value) (g:=1) [0,1,2,3,4,5,6,7,8,9,10,11,12,13,14] 15 (fun s=>[(23,s),(25, .pointer (some ⟨A,3,none⟩))]) (fun s f=>BR (fun b=>b=A∨u.ownBlock=some b) w f∧f.ownsRow q 185 3 s (hs.length+1) (AS (hs++[(⟨v,k,xs,n+1, .slice none 0 0⟩:Hd)]))∧AP f A BG (a.set 0 (.int .i64 (n+1)))∧∀b,s.ownBlock=some b→u.ownBlock=some b∨w.heap.size≤b) (by kernel_rfl) O ?_ ?_
 ·refine Dg (fun f=>AP f A BG (a.set 0 (.int .i64 (n+1)))) (fun hC=> ?_) (D)
  refine Cf (Am Br)<|Af 0 O (fun c d=>B4 O) O<|Af 1 O (fun c d=>B4 O) O<|Af 2 O (fun c d=>Ax O) O<|Af 3 O (fun c d=>B8 underlying55 O (HF _)) O<|Af 4 O (fun c d=>Al (Jp _) O d qC) O<|Af 5 O (fun c d=>B4 O) O<|Af 6 O (fun c d=>B4 O) O<|Af 7 O (fun c d=>Ax O) O<|Af 8 O (fun c d=>B8 underlying55 O (BC _)) O<|Af 9 O (fun c d=>Al (AO _) O d S) O<|Af 10 O (fun c d=>C1 (vs:=[(0,v),(2, .int .i64 (n+1))]) (cs:=[v, .slice none 0 0, .int .i64 (n+1)]) O (K5 _ _ N.one)) O<|B5<|AR.only ‹_› (i:=11) (by kernel_rfl) O ?_
  refine Bc (E0 (vs:=[(0, .agg #[v, .slice none 0 0, .int .i64 (n+1)])]) (cs:=[v, .slice none 0 0, .int .i64 (n+1)]) Im Km O (by decide) (by decide) (by decide) (by kernel_rfl) O) O ?_
  rintro nv V ⟨o3, -,l, -⟩
  have G:=AI G l
  have D:=D.bs l
  have z3:=(bt C l).size
  have z:q≤V.heap.size:=by omega
  refine AR.back<|AR.only ‹_› (i:=12) (by kernel_rfl) O ?_
  refine Bc (D4 (base:=q) Im Km O (by decide) O O G (AF o3) (GT N.one' _) (by omega) (by omega) z) O ?_
  rintro m Q ⟨o4,x,o⟩
  have c4:BR (fun b=>b=A∨u.ownBlock=some b) w Q:=(Z.below (bt C l)).grown x (fun b e=> .inl (.inr e))
  have b4:=D.by x (fun e=>p e.symm)
  have j:∀b,m.ownBlock=some b→u.ownBlock=some b∨w.heap.size≤b:=fun b e=>by
   rcases o with h|⟨h,_⟩
   ·rw [h] at e;exact .inl e
   ·exact .inr (by have:=h b e;omega)
  refine AR.back<|Cf (Am Br)<|Af 13 O (fun c d=>Ax O) O<|Af 14 O (fun c d=>B8 underlying55 O (HF _)) O<|B5<|Cq ‹_› (by kernel_rfl) ?_
  exact Ar (E9 (m) ⟨rfl,rfl,trivial⟩ (⟨c4,by rw [FL];exact o4,b4,j⟩))
 rintro m w5 ⟨L,E,T,j⟩
 have z5:=L.size
 refine Aw.only (i:=15) (by kernel_rfl) O<|Bv (C5 (u:=m) (HF _) O O (AF E).one' T (by rw [length_set];exact F)) ?_
 rintro w6 ⟨W,B, -⟩
 have U:=AV E (fun b e=>B.block b (AB E b e).2 (fun H=>by
  cases H
  rcases j _ e with h|h
  ·exact p h
  ·omega))
 refine Aw.back<|D7 (by kernel_rfl)<|Cu O ?_
 exact ⟨rfl,m,W,U,L.grown B (fun b e=> .inl (.inl (Option.some.inj e).symm)),j⟩
theorem K4 (v:Value) (n:Int) (b:v.cells=[v].toArray):Tryz.prog.built 194 [(0,v),(2, .int .i64 n)]=some [v, .slice none 0 0, .int .i64 n].toArray:=by
 have a:Tryz.prog.info? 194=some Tryz.t194:=by kernel_rfl
 have c:Tryz.prog.info? 25=some Tryz.t25:=by kernel_rfl
 have d:Tryz.prog.info? 3=some Tryz.t3:=by kernel_rfl
 simp [Program.built,a,underlying194,c,d,Instr.fill,b]
 rfl
theorem LK (A:Nat) (a:List Value) (n:Int) (u:Value) (hs:List Hd) (q:Nat) (w:World) (v:Value) (k:Nat) (xs:List Value) (I:AP w A BG a) (J:a[0]? =some (.int .i64 n)) (M:a[6]? =some u) (K:w.ownsRow q 194 3 u hs.length (AS hs))
  (hlo:q≤w.heap.size) (p:u.ownBlock≠some A) (hn:0≤n∧n≤4000000) (hh:hs.length≤4000000) (N:Sl w 2 v k xs):
  AK prog 168 [.pointer (some ⟨A,0,none⟩),v] w (fun r f=>r= .tuple #[]∧∃m,AP f A BG ((a.set 0 (.int .i64 (n+1))).set 6 m)∧f.ownsRow q 194 3 m (hs.length+1) (AS (hs++[(⟨v,k,xs,n+1, .slice none 0 0⟩:Hd)]))∧BR (fun b=>b=A∨u.ownBlock=some b) w f∧∀b,m.ownBlock=some b→u.ownBlock=some b∨w.heap.size≤b):=by
 have t:0<a.length:=(List.getElem?_eq_some_iff.1 J).1
 have F:6<a.length:=(List.getElem?_eq_some_iff.1 M).1
 refine Az (n:=26) func168 O<|Ad<|Ac O<|Aa (Ax O) O<|Ba underlying55 O (BC _)<|Aa (Al (AO _) O I J) O<|B1 O (by omega)<|Aa (Ax O) O<|Ba underlying55 O (BC _)<|Bv (C5 (u:= .int .i64 (n+1)) (BC _) O O O I t) ?_
 rintro c ⟨R,y,Y⟩
 have o1:=AV K (fun b e=>y.block b (AB K b e).2 (fun H=>p (by rw [e,H])))
 have Z:BR (fun b=>b=A∨u.ownBlock=some b) w c:=(BR.refl _ _).grown y (fun b e=> .inl (.inl (Option.some.inj e).symm))
 have S:(a.set 0 (.int .i64 (n+1)))[0]? =some (.int .i64 (n+1)):=by simp [t]
 have qC:(a.set 0 (.int .i64 (n+1)))[6]? =some u:=by rw [getElem?_set_ne (by decide)];exact M
 have X:=BA I
 refine Ak ?_
 refine Cw.any BB (fun w2 C _=> ?_)
 have G:=AI o1 C
 have D:=R.bs C
 refine Fc (St:=Value) (g:=1) [0,1,2,3,4,5,6,7,8,9,10,11,12,13,14] 15 (fun s=>[(23,s),(25, .pointer (some ⟨A,6,none⟩))]) (fun s f=>BR (fun b=>b=A∨u.ownBlock=some b) w f∧f.ownsRow q 194 3 s (hs.length+1) (AS (hs++[(⟨v,k,xs,n+1, .slice none 0 0⟩:Hd)]))∧AP f A BG (a.set 0 (.int .i64 (n+1)))∧∀b,s.ownBlock=some b→u.ownBlock=some b∨w.heap.size≤b) (by kernel_rfl) O ?_ ?_
 ·refine Dg (fun f=>AP f A BG (a.set 0 (.int .i64 (n+1)))) (fun hC=> ?_) (D)
  refine Cf (Am Br)<|Af 0 O (fun c d=>B4 O) O<|Af 1 O (fun c d=>B4 O) O<|Af 2 O (fun c d=>Ax O) O<|Af 3 O (fun c d=>B8 underlying55 O (HE _)) O<|Af 4 O (fun c d=>Al (Jo _) O d qC) O<|Af 5 O (fun c d=>B4 O) O<|Af 6 O (fun c d=>B4 O) O<|Af 7 O (fun c d=>Ax O) O<|Af 8 O (fun c d=>B8 underlying55 O (BC _)) O<|Af 9 O (fun c d=>Al (AO _) O d S) O<|Af 10 O (fun c d=>C1 (vs:=[(0,v),(2, .int .i64 (n+1))]) (cs:=[v, .slice none 0 0, .int .i64 (n+1)]) O (K4 _ _ N.one)) O<|B5<|AR.only ‹_› (i:=11) (by kernel_rfl) O ?_
  refine Bc (E0 (vs:=[(0, .agg #[v, .slice none 0 0, .int .i64 (n+1)])]) (cs:=[v, .slice none 0 0, .int .i64 (n+1)]) Il Kl O (by decide) (by decide) (by decide) (by kernel_rfl) O) O ?_
  rintro nv V ⟨o3, -,l, -⟩
  have G:=AI G l
  have D:=D.bs l
  have z3:=(bt C l).size
  have z:q≤V.heap.size:=by omega
  refine AR.back<|AR.only ‹_› (i:=12) (by kernel_rfl) O ?_
  refine Bc (D4 (base:=q) Il Kl O (by decide) O O G (AF o3) (GT N.one' _) (by omega) (by omega) z) O ?_
  rintro m Q ⟨o4,x,o⟩
  have c4:BR (fun b=>b=A∨u.ownBlock=some b) w Q:=(Z.below (bt C l)).grown x (fun b e=> .inl (.inr e))
  have b4:=D.by x (fun e=>p e.symm)
  have j:∀b,m.ownBlock=some b→u.ownBlock=some b∨w.heap.size≤b:=fun b e=>by
   rcases o with h|⟨h,_⟩
   ·rw [h] at e;exact .inl e
   ·exact .inr (by have:=h b e;omega)
  refine AR.back<|Cf (Am Br)<|Af 13 O (fun c d=>Ax O) O<|Af 14 O (fun c d=>B8 underlying55 O (HE _)) O<|B5<|Cq ‹_› (by kernel_rfl) ?_
  exact Ar (E9 (m) ⟨rfl,rfl,trivial⟩ (⟨c4,by rw [FL];exact o4,b4,j⟩))
 rintro m w5 ⟨L,E,T,j⟩
 have z5:=L.size
 refine Aw.only (i:=15) (by kernel_rfl) O<|Bv (C5 (u:=m) (HE _) O O (AF E).one' T (by rw [length_set];exact F)) ?_
 rintro w6 ⟨W,B, -⟩
 have U:=AV E (fun b e=>B.block b (AB E b e).2 (fun H=>by
  cases H
  rcases j _ e with h|h
  ·exact p h
  ·omega))
 refine Aw.back<|D7 (by kernel_rfl)<|Cu O ?_
 exact ⟨rfl,m,W,U,L.grown B (fun b e=> .inl (.inl (Option.some.inj e).symm)),j⟩
theorem Mf (v:Value) (n:Int) (b:v.cells=[v].toArray):Tryz.prog.built 197 [(0,v),(2, .int .i64 n)]=some [v, .slice none 0 0, .int .i64 n].toArray:=by
 have a:Tryz.prog.info? 197=some Tryz.t197:=by kernel_rfl
 have c:Tryz.prog.info? 22=some Tryz.t22:=by kernel_rfl
 have d:Tryz.prog.info? 3=some Tryz.t3:=by kernel_rfl
 simp [Program.built,a,underlying197,c,d,Instr.fill,b]
 rfl
theorem Oj (A:Nat) (a:List Value) (n:Int) (u:Value) (hs:List Hd) (q:Nat) (w:World) (v:Value) (k:Nat) (xs:List Value) (I:AP w A BG a) (J:a[0]? =some (.int .i64 n)) (M:a[7]? =some u) (K:w.ownsRow q 197 3 u hs.length (AS hs))
  (hlo:q≤w.heap.size) (p:u.ownBlock≠some A) (hn:0≤n∧n≤4000000) (hh:hs.length≤4000000) (N:Sl w 5 v k xs):
  AK prog 215 [.pointer (some ⟨A,0,none⟩),v] w (fun r f=>r= .tuple #[]∧∃m,AP f A BG ((a.set 0 (.int .i64 (n+1))).set 7 m)∧f.ownsRow q 197 3 m (hs.length+1) (AS (hs++[(⟨v,k,xs,n+1, .slice none 0 0⟩:Hd)]))∧BR (fun b=>b=A∨u.ownBlock=some b) w f∧∀b,m.ownBlock=some b→u.ownBlock=some b∨w.heap.size≤b):=by
 have t:0<a.length:=(List.getElem?_eq_some_iff.1 J).1
 have F:7<a.length:=(List.getElem?_eq_some_iff.1 M).1
 refine Az (n:=26) func215 O<|Ad<|Ac O<|Aa (Ax O) O<|Ba underlying55 O (BC _)<|Aa (Al (AO _) O I J) O<|B1 O (by omega)<|Aa (Ax O) O<|Ba underlying55 O (BC _)<|Bv (C5 (u:= .int .i64 (n+1)) (BC _) O O O I t) ?_
 rintro c ⟨R,y,Y⟩
 have o1:=AV K (fun b e=>y.block b (AB K b e).2 (fun H=>p (by rw [e,H])))
 have Z:BR (fun b=>b=A∨u.ownBlock=some b) w c:=(BR.refl _ _).grown y (fun b e=> .inl (.inl (Option.some.inj e).symm))
 have S:(a.set 0 (.int .i64 (n+1)))[0]? =some (.int .i64 (n+1)):=by simp [t]
 have qC:(a.set 0 (.int .i64 (n+1)))[7]? =some u:=by rw [getElem?_set_ne (by decide)];exact M
 have X:=BA I
 refine Ak ?_
 refine Cw.any BB (fun w2 C _=> ?_)
 have G:=AI o1 C
 have D:=R.bs C
 refine Fc (St:=Value) (g:=1) [0,1,2,3,4,5,6,7,8,9,10,11,12,13,14] 15 (fun s=>[(23,s),(25, .pointer (some ⟨A,7,none⟩))]) (fun s f=>BR (fun b=>b=A∨u.ownBlock=some b) w f∧f.ownsRow q 197 3 s (hs.length+1) (AS (hs++[(⟨v,k,xs,n+1, .slice none 0 0⟩:Hd)]))∧AP f A BG (a.set 0 (.int .i64 (n+1)))∧∀b,s.ownBlock=some b→u.ownBlock=some b∨w.heap.size≤b) (by kernel_rfl) O ?_ ?_
 ·refine Dg (fun f=>AP f A BG (a.set 0 (.int .i64 (n+1)))) (fun hC=> ?_) (D)
  refine Cf (Am Br)<|Af 0 O (fun c d=>B4 O) O<|Af 1 O (fun c d=>B4 O) O<|Af 2 O (fun c d=>Ax O) O<|Af 3 O (fun c d=>B8 underlying55 O (HD _)) O<|Af 4 O (fun c d=>Al (Jn _) O d qC) O<|Af 5 O (fun c d=>B4 O) O<|Af 6 O (fun c d=>B4 O) O<|Af 7 O (fun c d=>Ax O) O<|Af 8 O (fun c d=>B8 underlying55 O (BC _)) O<|Af 9 O (fun c d=>Al (AO _) O d S) O<|Af 10 O (fun c d=>C1 (vs:=[(0,v),(2, .int .i64 (n+1))]) (cs:=[v, .slice none 0 0, .int .i64 (n+1)]) O (Mf _ _ N.one)) O<|B5<|AR.only ‹_› (i:=11) (by kernel_rfl) O ?_
  refine Bc (E0 (vs:=[(0, .agg #[v, .slice none 0 0, .int .i64 (n+1)])]) (cs:=[v, .slice none 0 0, .int .i64 (n+1)]) Ik Kk O (by decide) (by decide) (by decide) (by kernel_rfl) O) O ?_
  rintro nv V ⟨o3, -,l, -⟩
  have G:=AI G l
  have D:=D.bs l
  have z3:=(bt C l).size
  have z:q≤V.heap.size:=by omega
  refine AR.back<|AR.only ‹_› (i:=12) (by kernel_rfl) O ?_
  refine Bc (D4 (base:=q) Ik Kk O (by decide) O O G (AF o3) (GT N.one' _) (by omega) (by omega) z) O ?_
  rintro m Q ⟨o4,x,o⟩
  have c4:BR (fun b=>b=A∨u.ownBlock=some b) w Q:=(Z.below (bt C l)).grown x (fun b e=> .inl (.inr e))
  have b4:=D.by x (fun e=>p e.symm)
  have j:∀b,m.ownBlock=some b→u.ownBlock=some b∨w.heap.size≤b:=fun b e=>by
   rcases o with h|⟨h,_⟩
   ·rw [h] at e;exact .inl e
   ·exact .inr (by have:=h b e;omega)
  refine AR.back<|Cf (Am Br)<|Af 13 O (fun c d=>Ax O) O<|Af 14 O (fun c d=>B8 underlying55 O (HD _)) O<|B5<|Cq ‹_› (by kernel_rfl) ?_
  exact Ar (E9 (m) ⟨rfl,rfl,trivial⟩ (⟨c4,by rw [FL];exact o4,b4,j⟩))
 rintro m w5 ⟨L,E,T,j⟩
 have z5:=L.size
 refine Aw.only (i:=15) (by kernel_rfl) O<|Bv (C5 (u:=m) (HD _) O O (AF E).one' T (by rw [length_set];exact F)) ?_
 rintro w6 ⟨W,B, -⟩
 have U:=AV E (fun b e=>B.block b (AB E b e).2 (fun H=>by
  cases H
  rcases j _ e with h|h
  ·exact p h
  ·omega))
 refine Aw.back<|D7 (by kernel_rfl)<|Cu O ?_
 exact ⟨rfl,m,W,U,L.grown B (fun b e=> .inl (.inl (Option.some.inj e).symm)),j⟩

abbrev BS (v:Value) (k:Nat) (xs:List Value) (n:Int):Hd:=⟨v,k,xs,n, .slice none 0 0⟩
theorem CB {u d v:Value} {w:World} {j k:Nat} {e:TypeId} {xs:List Value} (h:K9 u v) (g:w.ownsRow j e 3 v k xs) (i:∀b,d.ownBlock=some b→u.ownBlock=some b∨w.heap.size≤b):K9 d v:=fun b f c=>by
 rcases i b f with a|a
 ·exact h b a c
 ·have:=(AB g b c).2;omega
structure Bm (w:World) (lo A:Nat) (n:Int) (hb hi hn ht hd:List Hd) (ub ui un ut ud:Value):Prop where
 box:AP w A BG [.int .i64 n,ub,ui,un, .slice none 0 0, .slice none 0 0,ut,ud, .slice none 0 0, .slice none 0 0, .slice none 0 0, .slice none 0 0, .slice none 0 0, .slice none 0 0, .slice none 0 0, .slice none 0 0]
 ob:w.ownsRow lo 179 3 ub hb.length (AS hb)
 oi:w.ownsRow lo 182 3 ui hi.length (AS hi)
 on:w.ownsRow lo 185 3 un hn.length (AS hn)
 ot:w.ownsRow lo 194 3 ut ht.length (AS ht)
 od:w.ownsRow lo 197 3 ud hd.length (AS hd)
 loA:lo≤A
 q_b:ub.ownBlock≠some A
 q_i:ui.ownBlock≠some A
 q_n:un.ownBlock≠some A
 q_t:ut.ownBlock≠some A
 q_d:ud.ownBlock≠some A
 p_bi:K9 ub ui
 p_bn:K9 ub un
 p_bt:K9 ub ut
 p_bd:K9 ub ud
 p_in:K9 ui un
 p_it:K9 ui ut
 p_id:K9 ui ud
 p_nt:K9 un ut
 p_nd:K9 un ud
 p_td:K9 ut ud
 many:((hb.length+hi.length+hn.length+ht.length+hd.length:Nat):Int)=n
theorem Bm.size {w:World} {a A:Nat} {n:Int} {i j k f b:List Hd} {c g un e d:Value} (h:Bm w a A n i j k f b c g un e d):a<w.heap.size:=Nat.lt_of_le_of_lt h.loA (BA h.box)
theorem Bm.bs {w c:World} {k A:Nat} {n:Int} {j l m f a:List Hd} {b i un e d:Value} (h:Bm w k A n j l m f a b i un e d) (g:Below w.heap.size w c):Bm c k A n j l m f a b i un e d:=
 ⟨h.box.bs g,AI h.ob g,AI h.oi g,AI h.on g,AI h.ot g,AI h.od g,h.loA,h.q_b,h.q_i,h.q_n,h.q_t,h.q_d,h.p_bi,h.p_bn,h.p_bt,h.p_bd,h.p_in,h.p_it,h.p_id,h.p_nt,h.p_nd,h.p_td,h.many⟩
theorem Bm.low {w c:World} {a A:Nat} {n:Int} {o q r l d:List Hd} {f m un i g u:Value} (h:Bm w a A n o q r l d f m un i g) (k:∀b,u.ownBlock=some b→a≤b) (p:BR (fun b=>b=A∨u.ownBlock=some b) w c):Below a w c:=p.to_below (fun b j=>by
 rcases j with rfl|e
 ·exact h.loA
 ·exact k b e) (Nat.le_of_lt h.size)
theorem Nv (w:World) (o A:Nat) (n:Int) (i x y s p:List Hd) (l z un u q v:Value) (k:Nat) (xs:List Value) (h:Bm w o A n i x y s p l z un u q) (C:Sl w 1 v k xs) (D:n≤3999999):
  AK prog 70 [.pointer (some ⟨A,0,none⟩),v] w (fun r g=>r= .tuple #[]∧BR (fun b=>b=A∨l.ownBlock=some b) w g∧∃j,Bm g o A (n+1) (i++[BS v k xs (n+1)]) x y s p j z un u q):=by
 have E:=h.many
 refine (Ol A _ n l i o w v k xs h.box O O h.ob (Nat.le_of_lt h.size) h.q_b (by omega) (by omega) C).mono ?_
 rintro _ g ⟨rfl,j,m,B,d,f⟩
 exact ⟨rfl,d,j,m,(by rw [length_append];exact B),AM h.oi d (fun b a c=>c.elim (fun e=>h.q_i (by rw [a,e])) (fun e=>h.p_bi b e a)),AM h.on d (fun b a c=>c.elim (fun e=>h.q_n (by rw [a,e])) (fun e=>h.p_bn b e a)),AM h.ot d (fun b a c=>c.elim (fun e=>h.q_t (by rw [a,e])) (fun e=>h.p_bt b e a)),AM h.od d (fun b a c=>c.elim (fun e=>h.q_d (by rw [a,e])) (fun e=>h.p_bd b e a)),h.loA,(fun e=>by rcases f _ e with t|t;exact h.q_b t;have:=BA h.box;omega),h.q_i,h.q_n,h.q_t,h.q_d,CB h.p_bi h.oi f,CB h.p_bn h.on f,CB h.p_bt h.ot f,CB h.p_bd h.od f,h.p_in,h.p_it,h.p_id,h.p_nt,h.p_nd,h.p_td,by simp only [length_append,length_singleton];omega⟩
theorem Nt (w:World) (g A:Nat) (n:Int) (f l m e a:List Hd) (o q un j d v:Value) (k:Nat) (xs:List Value) (h:Bm w g A n f l m e a o q un j d) (t:Sl w 1 v k xs) (s:n≤3999999):
  AK prog 21 [.pointer (some ⟨A,0,none⟩),v] w (fun r c=>r= .tuple #[]∧BR (fun b=>b=A∨o.ownBlock=some b) w c∧∃i,Bm c g A (n+1) (f++[BS v k xs (n+1)]) l m e a i q un j d):=by
 refine Az (n:=7) func21 O<|Bn<|Ac O<|Ac O<|Ai O O (Nv w g A n f l m e a o q un j d v k xs h t s) ?_
 rintro _ c ⟨rfl,u,i,p⟩
 exact Bd<|Cu rfl<|⟨rfl,u,i,p⟩
theorem OI (w:World) (o A:Nat) (n:Int) (t j y s p:List Hd) (z m un x q v:Value) (k:Nat) (xs:List Value) (h:Bm w o A n t j y s p z m un x q) (C:Sl w 1 v k xs) (D:n≤3999999):
  AK prog 265 [.pointer (some ⟨A,0,none⟩),v] w (fun r g=>r= .tuple #[]∧BR (fun b=>b=A∨m.ownBlock=some b) w g∧∃i,Bm g o A (n+1) t (j++[BS v k xs (n+1)]) y s p z i un x q):=by
 have E:=h.many
 refine (Qf A _ n m j o w v k xs h.box O O h.oi (Nat.le_of_lt h.size) h.q_i (by omega) (by omega) C).mono ?_
 rintro _ g ⟨rfl,i,l,B,d,f⟩
 exact ⟨rfl,d,i,l,AM h.ob d (fun b a c=>c.elim (fun e=>h.q_b (by rw [a,e])) (fun e=>h.p_bi b a e)),(by rw [length_append];exact B),AM h.on d (fun b a c=>c.elim (fun e=>h.q_n (by rw [a,e])) (fun e=>h.p_in b e a)),AM h.ot d (fun b a c=>c.elim (fun e=>h.q_t (by rw [a,e])) (fun e=>h.p_it b e a)),AM h.od d (fun b a c=>c.elim (fun e=>h.q_d (by rw [a,e])) (fun e=>h.p_id b e a)),h.loA,h.q_b,(fun e=>by rcases f _ e with u|u;exact h.q_i u;have:=BA h.box;omega),h.q_n,h.q_t,h.q_d,(CB h.p_bi.symm h.ob f).symm,h.p_bn,h.p_bt,h.p_bd,CB h.p_in h.on f,CB h.p_it h.ot f,CB h.p_id h.od f,h.p_nt,h.p_nd,h.p_td,by simp only [length_append,length_singleton];omega⟩
theorem Ia (w:World) (g A:Nat) (n:Int) (f l m e a:List Hd) (o q un j d v:Value) (k:Nat) (xs:List Value) (h:Bm w g A n f l m e a o q un j d) (t:Sl w 1 v k xs) (s:n≤3999999):
  AK prog 237 [.pointer (some ⟨A,0,none⟩),v] w (fun r c=>r= .tuple #[]∧BR (fun b=>b=A∨q.ownBlock=some b) w c∧∃i,Bm c g A (n+1) f (l++[BS v k xs (n+1)]) m e a o i un j d):=by
 refine Az (n:=7) func237 O<|Bn<|Ac O<|Ac O<|Ai O O (OI w g A n f l m e a o q un j d v k xs h t s) ?_
 rintro _ c ⟨rfl,u,i,p⟩
 exact Bd<|Cu rfl<|⟨rfl,u,i,p⟩
theorem KP (w:World) (m A:Nat) (n:Int) (s x j q o:List Hd) (y z un u p v:Value) (k:Nat) (xs:List Value) (h:Bm w m A n s x j q o y z un u p) (C:Sl w 1 v k xs) (D:n≤3999999):
  AK prog 266 [.pointer (some ⟨A,0,none⟩),v] w (fun r g=>r= .tuple #[]∧BR (fun b=>b=A∨un.ownBlock=some b) w g∧∃i,Bm g m A (n+1) s x (j++[BS v k xs (n+1)]) q o y z i u p):=by
 have E:=h.many
 refine (LL A _ n un j m w v k xs h.box O O h.on (Nat.le_of_lt h.size) h.q_n (by omega) (by omega) C).mono ?_
 rintro _ g ⟨rfl,i,l,B,d,f⟩
 exact ⟨rfl,d,i,l,AM h.ob d (fun b a c=>c.elim (fun e=>h.q_b (by rw [a,e])) (fun e=>h.p_bn b a e)),AM h.oi d (fun b a c=>c.elim (fun e=>h.q_i (by rw [a,e])) (fun e=>h.p_in b a e)),(by rw [length_append];exact B),AM h.ot d (fun b a c=>c.elim (fun e=>h.q_t (by rw [a,e])) (fun e=>h.p_nt b e a)),AM h.od d (fun b a c=>c.elim (fun e=>h.q_d (by rw [a,e])) (fun e=>h.p_nd b e a)),h.loA,h.q_b,h.q_i,(fun e=>by rcases f _ e with t|t;exact h.q_n t;have:=BA h.box;omega),h.q_t,h.q_d,h.p_bi,(CB h.p_bn.symm h.ob f).symm,h.p_bt,h.p_bd,(CB h.p_in.symm h.oi f).symm,h.p_it,h.p_id,CB h.p_nt h.ot f,CB h.p_nd h.od f,h.p_td,by simp only [length_append,length_singleton];omega⟩
theorem KM (w:World) (g A:Nat) (n:Int) (f l m e a:List Hd) (o q un j d v:Value) (k:Nat) (xs:List Value) (h:Bm w g A n f l m e a o q un j d) (t:Sl w 1 v k xs) (s:n≤3999999):
  AK prog 238 [.pointer (some ⟨A,0,none⟩),v] w (fun r c=>r= .tuple #[]∧BR (fun b=>b=A∨un.ownBlock=some b) w c∧∃i,Bm c g A (n+1) f l (m++[BS v k xs (n+1)]) e a o q i j d):=by
 refine Az (n:=7) func238 O<|Bn<|Ac O<|Ac O<|Ai O O (KP w g A n f l m e a o q un j d v k xs h t s) ?_
 rintro _ c ⟨rfl,u,i,p⟩
 exact Bd<|Cu rfl<|⟨rfl,u,i,p⟩
theorem KO (w:World) (o A:Nat) (n:Int) (s u x i p:List Hd) (y z un l q v:Value) (k:Nat) (xs:List Value) (h:Bm w o A n s u x i p y z un l q) (C:Sl w 2 v k xs) (D:n≤3999999):
  AK prog 168 [.pointer (some ⟨A,0,none⟩),v] w (fun r g=>r= .tuple #[]∧BR (fun b=>b=A∨l.ownBlock=some b) w g∧∃j,Bm g o A (n+1) s u x (i++[BS v k xs (n+1)]) p y z un j q):=by
 have E:=h.many
 refine (LK A _ n l i o w v k xs h.box O O h.ot (Nat.le_of_lt h.size) h.q_t (by omega) (by omega) C).mono ?_
 rintro _ g ⟨rfl,j,m,B,d,f⟩
 exact ⟨rfl,d,j,m,AM h.ob d (fun b a c=>c.elim (fun e=>h.q_b (by rw [a,e])) (fun e=>h.p_bt b a e)),AM h.oi d (fun b a c=>c.elim (fun e=>h.q_i (by rw [a,e])) (fun e=>h.p_it b a e)),AM h.on d (fun b a c=>c.elim (fun e=>h.q_n (by rw [a,e])) (fun e=>h.p_nt b a e)),(by rw [length_append];exact B),AM h.od d (fun b a c=>c.elim (fun e=>h.q_d (by rw [a,e])) (fun e=>h.p_td b e a)),h.loA,h.q_b,h.q_i,h.q_n,(fun e=>by rcases f _ e with t|t;exact h.q_t t;have:=BA h.box;omega),h.q_d,h.p_bi,h.p_bn,(CB h.p_bt.symm h.ob f).symm,h.p_bd,h.p_in,(CB h.p_it.symm h.oi f).symm,h.p_id,(CB h.p_nt.symm h.on f).symm,h.p_nd,CB h.p_td h.od f,by simp only [length_append,length_singleton];omega⟩
theorem Nu (w:World) (o A:Nat) (n:Int) (q u x p g:List Hd) (y z un t j v:Value) (k:Nat) (xs:List Value) (h:Bm w o A n q u x p g y z un t j) (C:Sl w 5 v k xs) (D:n≤3999999):
  AK prog 215 [.pointer (some ⟨A,0,none⟩),v] w (fun r i=>r= .tuple #[]∧BR (fun b=>b=A∨j.ownBlock=some b) w i∧∃l,Bm i o A (n+1) q u x p (g++[BS v k xs (n+1)]) y z un t l):=by
 have E:=h.many
 refine (Oj A _ n j g o w v k xs h.box O O h.od (Nat.le_of_lt h.size) h.q_d (by omega) (by omega) C).mono ?_
 rintro _ i ⟨rfl,l,m,B,d,f⟩
 exact ⟨rfl,d,l,m,AM h.ob d (fun b a c=>c.elim (fun e=>h.q_b (by rw [a,e])) (fun e=>h.p_bd b a e)),AM h.oi d (fun b a c=>c.elim (fun e=>h.q_i (by rw [a,e])) (fun e=>h.p_id b a e)),AM h.on d (fun b a c=>c.elim (fun e=>h.q_n (by rw [a,e])) (fun e=>h.p_nd b a e)),AM h.ot d (fun b a c=>c.elim (fun e=>h.q_t (by rw [a,e])) (fun e=>h.p_td b a e)),(by rw [length_append];exact B),h.loA,h.q_b,h.q_i,h.q_n,h.q_t,(fun e=>by rcases f _ e with s|s;exact h.q_d s;have:=BA h.box;omega),h.p_bi,h.p_bn,h.p_bt,(CB h.p_bd.symm h.ob f).symm,h.p_in,h.p_it,(CB h.p_id.symm h.oi f).symm,h.p_nt,(CB h.p_nd.symm h.on f).symm,(CB h.p_td.symm h.ot f).symm,by simp only [length_append,length_singleton];omega⟩

theorem TQ (w:World) (l A base:Nat) (n:Int) (W hi hn g hd:List Hd) (ub ui un ut ud:Value) (h:Bm w l A n W hi hn g hd ub ui un ut ud) (kb:FB w base 5 1 W) (ki:FB w base 3 1 hi) (kn:FB w base 21 1 hn) (kt:FB w base 75 2 g) (kd:FB w base 79 5 hd)
  (lb:∀b,BF W b→b<l) (C:∀b,BF hi b→b<l) (E:∀b,BF hn b→b<l) (lt:∀b,BF g b→b<l) (D:∀b,BF hd b→b<l) (xbi:∀b,BF W b→¬BF hi b) (xbn:∀b,BF W b→¬BF hn b) (xbt:∀b,BF W b→¬BF g b) (xbd:∀b,BF W b→¬BF hd b) (xin:∀b,BF hi b→¬BF hn b) (xit:∀b,BF hi b→¬BF g b) (xid:∀b,BF hi b→¬BF hd b) (xnt:∀b,BF hn b→¬BF g b) (xnd:∀b,BF hn b→¬BF hd b) (xtd:∀b,BF g b→¬BF hd b) (hbl:base≤l):
  AK prog 22 [.pointer (some ⟨A,0,none⟩)] w (fun r w' =>r= .bool true∧Below base w w'):=by
 have F:∀{b},b<l→b≠A:=fun j i=>by have:=h.loA;omega
 have hlo:base≤w.heap.size:=Nat.le_trans hbl (Nat.le_of_lt h.size)
 have hls:=h.size
 obtain ⟨B,hB⟩:∃B,B=w.heap.size:=⟨_,rfl⟩
 have K:∀b,ub.ownBlock=some b→l≤b∧b<w.heap.size:=AB h.ob
 have J:∀b,ui.ownBlock=some b→l≤b∧b<w.heap.size:=AB h.oi
 have M:∀b,un.ownBlock=some b→l≤b∧b<w.heap.size:=AB h.on
 have I:∀b,ut.ownBlock=some b→l≤b∧b<w.heap.size:=AB h.ot
 have H:∀b,ud.ownBlock=some b→l≤b∧b<w.heap.size:=AB h.od
 have vb:∀b,BF W b→b<B:=fun b e=>by have:=lb b e;omega
 have vi:∀b,BF hi b→b<B:=fun b e=>by have:=C b e;omega
 have vn:∀b,BF hn b→b<B:=fun b e=>by have:=E b e;omega
 have vt:∀b,BF g b→b<B:=fun b e=>by have:=lt b e;omega
 have vd:∀b,BF hd b→b<B:=fun b e=>by have:=D b e;omega
 refine Az (n:=121) func22 O<|Ad<|Ab O<|Be<|Ac O<|Ai O O (OC A _ ub W l base w (h.box) O (h.ob) kb (fun e=>F (lb _ e) O) (fun b d f=>by have:=K b d;have:=lb b f;omega)) ?_
 rintro _ w1 ⟨rfl,R,gb1⟩
 have z1:=R.size
 have A1:=AP.chg (h.box) R (fun e=>F (lb _ e) rfl)
 have ob1:=AM (h.ob) R (fun b d f=>by have:=K b d;have:=lb b f;omega)
 have oi1:=AM (h.oi) R (fun b d f=>by have:=J b d;have:=lb b f;omega)
 have on1:=AM (h.on) R (fun b d f=>by have:=M b d;have:=lb b f;omega)
 have ot1:=AM (h.ot) R (fun b d f=>by have:=I b d;have:=lb b f;omega)
 have od1:=AM (h.od) R (fun b d f=>by have:=H b d;have:=lb b f;omega)
 have ki1:=FB.chg (ki) R (fun c j i=>xbi c i j)
 have kn1:=FB.chg (kn) R (fun c j i=>xbn c i j)
 have kt1:=FB.chg (kt) R (fun c j i=>xbt c i j)
 have kd1:=FB.chg (kd) R (fun c j i=>xbd c i j)
 refine Be<|Ac O<|Ai O O (Qu A _ ui hi l base w1 (A1) O (oi1) ki1 (fun e=>F (C _ e) O) (fun b d f=>by have:=J b d;have:=C b f;omega)) ?_
 rintro _ w2 ⟨rfl,Q,gi2⟩
 have z2:=Q.size
 have A2:=AP.chg (A1) Q (fun e=>F (C _ e) rfl)
 have ob2:=AM (ob1) Q (fun b d f=>by have:=K b d;have:=C b f;omega)
 have oi2:=AM (oi1) Q (fun b d f=>by have:=J b d;have:=C b f;omega)
 have on2:=AM (on1) Q (fun b d f=>by have:=M b d;have:=C b f;omega)
 have ot2:=AM (ot1) Q (fun b d f=>by have:=I b d;have:=C b f;omega)
 have od2:=AM (od1) Q (fun b d f=>by have:=H b d;have:=C b f;omega)
 have gb2:=GA.chg gb1 Q xbi
 have kn2:=FB.chg (kn1) Q (fun c j i=>xin c i j)
 have kt2:=FB.chg (kt1) Q (fun c j i=>xit c i j)
 have kd2:=FB.chg (kd1) Q (fun c j i=>xid c i j)
 refine Be<|Ac O<|Ai O O (LY A _ un hn l base w2 (A2) O (on2) kn2 (fun e=>F (E _ e) O) (fun b d f=>by have:=M b d;have:=E b f;omega)) ?_
 rintro _ w3 ⟨rfl,T,gn3⟩
 have z3:=T.size
 have A3:=AP.chg (A2) T (fun e=>F (E _ e) rfl)
 have ob3:=AM (ob2) T (fun b d f=>by have:=K b d;have:=E b f;omega)
 have oi3:=AM (oi2) T (fun b d f=>by have:=J b d;have:=E b f;omega)
 have on3:=AM (on2) T (fun b d f=>by have:=M b d;have:=E b f;omega)
 have ot3:=AM (ot2) T (fun b d f=>by have:=I b d;have:=E b f;omega)
 have od3:=AM (od2) T (fun b d f=>by have:=H b d;have:=E b f;omega)
 have gb3:=GA.chg gb2 T xbn
 have gi3:=GA.chg gi2 T xin
 have kt3:=FB.chg (kt2) T (fun c j i=>xnt c i j)
 have kd3:=FB.chg (kd2) T (fun c j i=>xnd c i j)
 refine Be<|Ac O<|Ai O O (Sm A _ w3 A3 O) ?_
 rintro _ _ ⟨rfl,rfl⟩
 refine Be<|Ac O<|Ai O O (O5 A _ w3 A3 O) ?_
 rintro _ _ ⟨rfl,rfl⟩
 refine Be<|Ac O<|Ai O O (LW A _ ut g l base B w3 (A3) O (ot3) kt3 (fun e=>F (lt _ e) O) (fun b d f=>by have:=I b d;have:=lt b f;omega) (by omega) vt) ?_
 rintro _ w4 ⟨rfl,U,gt4⟩
 have z4:=U.size
 have A4:=AP.chg (A3) U (fun e=>F (lt _ e) rfl)
 have ob4:=AM (ob3) U (fun b d f=>by have:=K b d;have:=lt b f;omega)
 have oi4:=AM (oi3) U (fun b d f=>by have:=J b d;have:=lt b f;omega)
 have on4:=AM (on3) U (fun b d f=>by have:=M b d;have:=lt b f;omega)
 have ot4:=AM (ot3) U (fun b d f=>by have:=I b d;have:=lt b f;omega)
 have od4:=AM (od3) U (fun b d f=>by have:=H b d;have:=lt b f;omega)
 have gb4:=GA.chg gb3 U xbt
 have gi4:=GA.chg gi3 U xit
 have gn4:=GA.chg gn3 U xnt
 have kd4:=FB.chg (kd3) U (fun c j i=>xtd c i j)
 refine Be<|Ac O<|Ai O O (O7 A _ ud hd l base B w4 (A4) O (od4) kd4 (fun e=>F (D _ e) O) (fun b d f=>by have:=H b d;have:=D b f;omega) (by omega) vd) ?_
 rintro _ w5 ⟨rfl,V,gd5⟩
 have z5:=V.size
 have A5:=AP.chg (A4) V (fun e=>F (D _ e) rfl)
 have ob5:=AM (ob4) V (fun b d f=>by have:=K b d;have:=D b f;omega)
 have oi5:=AM (oi4) V (fun b d f=>by have:=J b d;have:=D b f;omega)
 have on5:=AM (on4) V (fun b d f=>by have:=M b d;have:=D b f;omega)
 have ot5:=AM (ot4) V (fun b d f=>by have:=I b d;have:=D b f;omega)
 have od5:=AM (od4) V (fun b d f=>by have:=H b d;have:=D b f;omega)
 have gb5:=GA.chg gb4 V xbd
 have gi5:=GA.chg gi4 V xid
 have gn5:=GA.chg gn4 V xnd
 have gt5:=Gr.chg gt4 (CV B 3) V vd xtd
 refine Be<|Ac O<|Ai O O (O6 A _ w5 A5 O) ?_
 rintro _ _ ⟨rfl,rfl⟩
 refine Be<|Ac O<|Ai O O (OB A _ w5 A5 O) ?_
 rintro _ _ ⟨rfl,rfl⟩
 refine Be<|Ac O<|Ai O O (LX A _ w5 A5 O) ?_
 rintro _ _ ⟨rfl,rfl⟩
 refine Be<|Ac O<|Ai O O (Ni A _ w5 A5 O) ?_
 rintro _ _ ⟨rfl,rfl⟩
 refine Be<|Ac O<|Ai O O (Qv A _ w5 A5 O) ?_
 rintro _ _ ⟨rfl,rfl⟩
 refine Be<|Ac O<|Ai O O (OA A _ w5 A5 O) ?_
 rintro _ _ ⟨rfl,rfl⟩
 refine Be<|Ac O<|Ai O O (O9 A _ w5 A5 O) ?_
 rintro _ _ ⟨rfl,rfl⟩
 refine Be<|Ac O<|Ai O O (O8 A _ w5 A5 O) ?_
 rintro _ _ ⟨rfl,rfl⟩
 refine Be<|Ac O<|Ai O O (O4 A _ ub W l base w5 A5 O (ob5) kb.toKOk gb5 (fun e=>F (lb _ e) O) (fun b d f=>by have:=K b d;have:=lb b f;omega) h.q_b (by omega)) ?_
 rintro _ w6 ⟨rfl,c6,tb,yb,ob6,db6⟩
 have z6:=c6.size
 have j6:∀b,(BF W b∨ub.ownBlock=some b)→b<B:=fun b e=>e.elim (vb b) (fun e=>by have:=K b e;omega)
 have A6:=A5.chg c6 (fun e=>e.elim (fun e=>F (lb _ e) rfl) (fun e=>h.q_b e))
 have oi6:=AM (oi5) c6 (fun b d f=>f.elim (fun e=>by have:=J b d;have:=lb b e;omega) (fun e=>h.p_bi.symm b d e))
 have gi6:=GA.chg gi5 c6 (fun b d f=>f.elim (fun e=>(fun c j i=>xbi c i j) b d e) (fun e=>by have:=K b e;have:=C b d;omega))
 have on6:=AM (on5) c6 (fun b d f=>f.elim (fun e=>by have:=M b d;have:=lb b e;omega) (fun e=>h.p_bn.symm b d e))
 have gn6:=GA.chg gn5 c6 (fun b d f=>f.elim (fun e=>(fun c j i=>xbn c i j) b d e) (fun e=>by have:=K b e;have:=E b d;omega))
 have ot6:=AM (ot5) c6 (fun b d f=>f.elim (fun e=>by have:=I b d;have:=lb b e;omega) (fun e=>h.p_bt.symm b d e))
 have gt6:=Gr.chg gt5 (CV B 3) c6 j6 (fun b d f=>f.elim (fun e=>(fun c j i=>xbt c i j) b d e) (fun e=>by have:=K b e;have:=lt b d;omega))
 have od6:=AM (od5) c6 (fun b d f=>f.elim (fun e=>by have:=H b d;have:=lb b e;omega) (fun e=>h.p_bd.symm b d e))
 have gd6:=Gr.chg gd5 (CZ B 3) c6 j6 (fun b d f=>f.elim (fun e=>(fun c j i=>xbd c i j) b d e) (fun e=>by have:=K b e;have:=D b d;omega))
 refine Be<|Ac O<|Ai O O (Qn A _ ui hi l base w6 A6 O (oi6) ki.toKOk gi6 (fun e=>F (C _ e) O) (fun b d f=>by have:=J b d;have:=C b f;omega) h.q_i (by omega)) ?_
 rintro _ w7 ⟨rfl,c7,ti,yi,oi7,di7⟩
 have z7:=c7.size
 have j7:∀b,(BF hi b∨ui.ownBlock=some b)→b<B:=fun b e=>e.elim (vi b) (fun e=>by have:=J b e;omega)
 have A7:=A6.chg c7 (fun e=>e.elim (fun e=>F (C _ e) rfl) (fun e=>h.q_i e))
 have ob7:=AM (ob6) c7 (fun b d f=>f.elim (fun e=>by have:=K b d;have:=C b e;omega) (fun e=>h.p_bi b d e))
 have db7:=yb.tall db6 c7 (fun b d f=>f.elim (fun e=>xbi b d e) (fun e=>by have:=J b e;have:=lb b d;omega)) (fun b d f=>by have:=j7 b f;omega)
 have on7:=AM (on6) c7 (fun b d f=>f.elim (fun e=>by have:=M b d;have:=C b e;omega) (fun e=>h.p_in.symm b d e))
 have gn7:=GA.chg gn6 c7 (fun b d f=>f.elim (fun e=>(fun c j i=>xin c i j) b d e) (fun e=>by have:=J b e;have:=E b d;omega))
 have ot7:=AM (ot6) c7 (fun b d f=>f.elim (fun e=>by have:=I b d;have:=C b e;omega) (fun e=>h.p_it.symm b d e))
 have gt7:=Gr.chg gt6 (CV B 3) c7 j7 (fun b d f=>f.elim (fun e=>(fun c j i=>xit c i j) b d e) (fun e=>by have:=J b e;have:=lt b d;omega))
 have od7:=AM (od6) c7 (fun b d f=>f.elim (fun e=>by have:=H b d;have:=C b e;omega) (fun e=>h.p_id.symm b d e))
 have gd7:=Gr.chg gd6 (CZ B 3) c7 j7 (fun b d f=>f.elim (fun e=>(fun c j i=>xid c i j) b d e) (fun e=>by have:=J b e;have:=D b d;omega))
 refine Be<|Ac O<|Ai O O (LU A _ un hn l base w7 A7 O (on7) kn.toKOk gn7 (fun e=>F (E _ e) O) (fun b d f=>by have:=M b d;have:=E b f;omega) h.q_n (by omega)) ?_
 rintro _ w8 ⟨rfl,Y,tn,yn,on8,dn8⟩
 have z8:=Y.size
 have j8:∀b,(BF hn b∨un.ownBlock=some b)→b<B:=fun b e=>e.elim (vn b) (fun e=>by have:=M b e;omega)
 have A8:=A7.chg Y (fun e=>e.elim (fun e=>F (E _ e) rfl) (fun e=>h.q_n e))
 have ob8:=AM (ob7) Y (fun b d f=>f.elim (fun e=>by have:=K b d;have:=E b e;omega) (fun e=>h.p_bn b d e))
 have db8:=yb.tall db7 Y (fun b d f=>f.elim (fun e=>xbn b d e) (fun e=>by have:=M b e;have:=lb b d;omega)) (fun b d f=>by have:=j8 b f;omega)
 have oi8:=AM (oi7) Y (fun b d f=>f.elim (fun e=>by have:=J b d;have:=E b e;omega) (fun e=>h.p_in b d e))
 have di8:=yi.tall di7 Y (fun b d f=>f.elim (fun e=>xin b d e) (fun e=>by have:=M b e;have:=C b d;omega)) (fun b d f=>by have:=j8 b f;omega)
 have ot8:=AM (ot7) Y (fun b d f=>f.elim (fun e=>by have:=I b d;have:=E b e;omega) (fun e=>h.p_nt.symm b d e))
 have gt8:=Gr.chg gt7 (CV B 3) Y j8 (fun b d f=>f.elim (fun e=>(fun c j i=>xnt c i j) b d e) (fun e=>by have:=M b e;have:=lt b d;omega))
 have od8:=AM (od7) Y (fun b d f=>f.elim (fun e=>by have:=H b d;have:=E b e;omega) (fun e=>h.p_nd.symm b d e))
 have gd8:=Gr.chg gd7 (CZ B 3) Y j8 (fun b d f=>f.elim (fun e=>(fun c j i=>xnd c i j) b d e) (fun e=>by have:=M b e;have:=D b d;omega))
 refine Be<|Ac O<|Ai O O (Sa A _ w8 A8 O) ?_
 rintro _ _ ⟨rfl,rfl⟩
 refine Be<|Ac O<|Ai O O (Ox A _ w8 A8 O) ?_
 rintro _ _ ⟨rfl,rfl⟩
 refine Be<|Ac O<|Ai O O (LQ A _ ut g l base B w8 A8 O (ot8) kt.toKOk gt8 (fun e=>F (lt _ e) O) (fun b d f=>by have:=I b d;have:=lt b f;omega) h.q_t (by omega) (by omega) vt (fun b e=>by have:=I b e;omega)) ?_
 rintro _ w9 ⟨rfl,X,tt,yt,ot9,dt9⟩
 have z9:=X.size
 have j9:∀b,(BF g b∨ut.ownBlock=some b)→b<B:=fun b e=>e.elim (vt b) (fun e=>by have:=I b e;omega)
 have A9:=A8.chg X (fun e=>e.elim (fun e=>F (lt _ e) rfl) (fun e=>h.q_t e))
 have ob9:=AM (ob8) X (fun b d f=>f.elim (fun e=>by have:=K b d;have:=lt b e;omega) (fun e=>h.p_bt b d e))
 have db9:=yb.tall db8 X (fun b d f=>f.elim (fun e=>xbt b d e) (fun e=>by have:=I b e;have:=lb b d;omega)) (fun b d f=>by have:=j9 b f;omega)
 have oi9:=AM (oi8) X (fun b d f=>f.elim (fun e=>by have:=J b d;have:=lt b e;omega) (fun e=>h.p_it b d e))
 have di9:=yi.tall di8 X (fun b d f=>f.elim (fun e=>xit b d e) (fun e=>by have:=I b e;have:=C b d;omega)) (fun b d f=>by have:=j9 b f;omega)
 have on9:=AM (on8) X (fun b d f=>f.elim (fun e=>by have:=M b d;have:=lt b e;omega) (fun e=>h.p_nt b d e))
 have dn9:=yn.tall dn8 X (fun b d f=>f.elim (fun e=>xnt b d e) (fun e=>by have:=I b e;have:=E b d;omega)) (fun b d f=>by have:=j9 b f;omega)
 have od9:=AM (od8) X (fun b d f=>f.elim (fun e=>by have:=H b d;have:=lt b e;omega) (fun e=>h.p_td.symm b d e))
 have gd9:=Gr.chg gd8 (CZ B 3) X j9 (fun b d f=>f.elim (fun e=>(fun c j i=>xtd c i j) b d e) (fun e=>by have:=I b e;have:=D b d;omega))
 refine Be<|Ac O<|Ai O O (Oz A _ ud hd l base B w9 A9 O (od9) kd.toKOk gd9 (fun e=>F (D _ e) O) (fun b d f=>by have:=H b d;have:=D b f;omega) h.q_d (by omega) (by omega) vd (fun b e=>by have:=H b e;omega)) ?_
 rintro _ z ⟨rfl,u,td,yd,od10,dd10⟩
 have z10:=u.size
 have Z:∀b,(BF hd b∨ud.ownBlock=some b)→b<B:=fun b e=>e.elim (vd b) (fun e=>by have:=H b e;omega)
 have y:=A9.chg u (fun e=>e.elim (fun e=>F (D _ e) rfl) (fun e=>h.q_d e))
 have ob10:=AM (ob9) u (fun b d f=>f.elim (fun e=>by have:=K b d;have:=D b e;omega) (fun e=>h.p_bd b d e))
 have db10:=yb.tall db9 u (fun b d f=>f.elim (fun e=>xbd b d e) (fun e=>by have:=H b e;have:=lb b d;omega)) (fun b d f=>by have:=Z b f;omega)
 have oi10:=AM (oi9) u (fun b d f=>f.elim (fun e=>by have:=J b d;have:=D b e;omega) (fun e=>h.p_id b d e))
 have di10:=yi.tall di9 u (fun b d f=>f.elim (fun e=>xid b d e) (fun e=>by have:=H b e;have:=C b d;omega)) (fun b d f=>by have:=Z b f;omega)
 have on10:=AM (on9) u (fun b d f=>f.elim (fun e=>by have:=M b d;have:=D b e;omega) (fun e=>h.p_nd b d e))
 have dn10:=yn.tall dn9 u (fun b d f=>f.elim (fun e=>xnd b d e) (fun e=>by have:=H b e;have:=E b d;omega)) (fun b d f=>by have:=Z b f;omega)
 have ot10:=AM (ot9) u (fun b d f=>f.elim (fun e=>by have:=I b d;have:=D b e;omega) (fun e=>h.p_td b d e))
 have dt10:=yt.tallN (CV B 3) dt9 u Z (fun b d f=>f.elim (fun e=>xtd b d e) (fun e=>by have:=H b e;have:=lt b d;omega)) (fun b d f=>by have:=Z b f;omega)
 refine Be<|Ac O<|Ai O O (Oy A _ z y O) ?_
 rintro _ _ ⟨rfl,rfl⟩
 refine Be<|Ac O<|Ai O O (O3 A _ z y O) ?_
 rintro _ _ ⟨rfl,rfl⟩
 refine Be<|Ac O<|Ai O O (LS A _ z y O) ?_
 rintro _ _ ⟨rfl,rfl⟩
 refine Be<|Ac O<|Ai O O (Nb A _ z y O) ?_
 rintro _ _ ⟨rfl,rfl⟩
 refine Be<|Ac O<|Ai O O (Qo A _ z y O) ?_
 rintro _ _ ⟨rfl,rfl⟩
 refine Be<|Ac O<|Ai O O (O2 A _ z y O) ?_
 rintro _ _ ⟨rfl,rfl⟩
 refine Be<|Ac O<|Ai O O (O1 A _ z y O) ?_
 rintro _ _ ⟨rfl,rfl⟩
 refine Be<|Ac O<|Ai O O (O0 A _ z y O) ?_
 rintro _ _ ⟨rfl,rfl⟩
 have bel:Below base w z:=by
  have d:∀{S:Nat→Prop} {a b:World},BR S a b→(∀k,S k→base≤k)→base≤a.heap.size→Below base a b:=fun c j i=>c.to_below j i
  have q1:=d R (fun k e=>by obtain ⟨x,G,e⟩:=e;exact ((kb.own x G).lt k e).1) (by omega)
  have q2:=d Q (fun k e=>by obtain ⟨x,G,e⟩:=e;exact ((ki.own x G).lt k e).1) (by omega)
  have q3:=d T (fun k e=>by obtain ⟨x,G,e⟩:=e;exact ((kn.own x G).lt k e).1) (by omega)
  have q4:=d U (fun k e=>by obtain ⟨x,G,e⟩:=e;exact ((kt.own x G).lt k e).1) (by omega)
  have q5:=d V (fun k e=>by obtain ⟨x,G,e⟩:=e;exact ((kd.own x G).lt k e).1) (by omega)
  have q6:=d c6 (fun k e=>e.elim (fun e=>by obtain ⟨x,G,e⟩:=e;exact ((kb.own x G).lt k e).1) (fun e=>by have:=K k e;omega)) (by omega)
  have q7:=d c7 (fun k e=>e.elim (fun e=>by obtain ⟨x,G,e⟩:=e;exact ((ki.own x G).lt k e).1) (fun e=>by have:=J k e;omega)) (by omega)
  have q8:=d Y (fun k e=>e.elim (fun e=>by obtain ⟨x,G,e⟩:=e;exact ((kn.own x G).lt k e).1) (fun e=>by have:=M k e;omega)) (by omega)
  have q9:=d X (fun k e=>e.elim (fun e=>by obtain ⟨x,G,e⟩:=e;exact ((kt.own x G).lt k e).1) (fun e=>by have:=I k e;omega)) (by omega)
  have q10:=d u (fun k e=>e.elim (fun e=>by obtain ⟨x,G,e⟩:=e;exact ((kd.own x G).lt k e).1) (fun e=>by have:=H k e;omega)) (by omega)
  exact (((((((((q1.trans q2).trans q3).trans q4).trans q5).trans q6).trans q7).trans q8).trans q9).trans q10)
 refine Be<|Ac O<|Ai O O (Oh A _ ub tb l z y O (by rw [yb.len];exact ob10) db10 (yb.nums kb.toKOk)) ?_
 rintro _ w11 ⟨rfl,m⟩
 have A11:=y.bs m
 have ob11:=AI (ob10) m
 have oi11:=AI (oi10) m
 have on11:=AI (on10) m
 have ot11:=AI (ot10) m
 have od11:=AI (od10) m
 have db11:∀t ∈ tb,DT w11 CL t:=fun t g=>(db10 t g).bs m
 have di11:∀t ∈ ti,DT w11 DH t:=fun t g=>(di10 t g).bs m
 have dn11:∀t ∈ tn,DT w11 BQ t:=fun t g=>(dn10 t g).bs m
 have dt11:=fun t (g:t ∈ tt)=>(dt10 t g).bs (CV B 3) m
 have dd11:=fun t (g:t ∈ td)=>(dd10 t g).bs (CZ B 3) m
 refine Ac O<|Cm 65 (v' := .bool true) O (cngA Value.bool (rfl))<|Ag (dj:=65) O O<|Ac O<|Ag (dj:=65) O O<|Ai O O (PZ A _ ui ti l w11 A11 O (by rw [yi.len];exact oi11) di11 (yi.nums ki.toKOk)) ?_
 rintro _ w12 ⟨rfl,s⟩
 have A12:=A11.bs s
 have ob12:=AI (ob11) s
 have oi12:=AI (oi11) s
 have on12:=AI (on11) s
 have ot12:=AI (ot11) s
 have od12:=AI (od11) s
 have db12:∀t ∈ tb,DT w12 CL t:=fun t g=>(db11 t g).bs s
 have di12:∀t ∈ ti,DT w12 DH t:=fun t g=>(di11 t g).bs s
 have dn12:∀t ∈ tn,DT w12 BQ t:=fun t g=>(dn11 t g).bs s
 have dt12:=fun t (g:t ∈ tt)=>(dt11 t g).bs (CV B 3) s
 have dd12:=fun t (g:t ∈ td)=>(dd11 t g).bs (CZ B 3) s
 refine B7 O<|Ac O<|Cm 69 (v' := .bool true) O (cngA Value.bool (rfl))<|Ag (dj:=69) O O<|Ac O<|Ag (dj:=69) O O<|Ai O O (LG A _ un tn l w12 A12 O (by rw [yn.len];exact on12) dn12 (yn.nums kn.toKOk)) ?_
 rintro _ N ⟨rfl,q⟩
 have A13:=A12.bs q
 have ob13:=AI (ob12) q
 have oi13:=AI (oi12) q
 have on13:=AI (on12) q
 have ot13:=AI (ot12) q
 have od13:=AI (od12) q
 have db13:∀t ∈ tb,DT N CL t:=fun t g=>(db12 t g).bs q
 have di13:∀t ∈ ti,DT N DH t:=fun t g=>(di12 t g).bs q
 have dn13:∀t ∈ tn,DT N BQ t:=fun t g=>(dn12 t g).bs q
 have dt13:=fun t (g:t ∈ tt)=>(dt12 t g).bs (CV B 3) q
 have dd13:=fun t (g:t ∈ td)=>(dd12 t g).bs (CZ B 3) q
 refine B7 O<|Ac O<|Cm 73 (v' := .bool true) O (cngA Value.bool (rfl))<|Ag (dj:=73) O O<|Ac O<|Ag (dj:=73) O O<|Ai O O (RD A _ N A13 O) ?_
 rintro _ _ ⟨rfl,rfl⟩
 refine B7 O<|Ac O<|Cm 77 (v' := .bool true) O (cngA Value.bool (rfl))<|Ag (dj:=77) O O<|Ac O<|Ag (dj:=77) O O<|Ai O O (Oa A _ N A13 O) ?_
 rintro _ _ ⟨rfl,rfl⟩
 refine B7 O<|Ac O<|Cm 81 (v' := .bool true) O (cngA Value.bool (rfl))<|Ag (dj:=81) O O<|Ac O<|Ag (dj:=81) O O<|Ai O O (LD A _ ut tt l B N A13 O (by rw [yt.len];exact ot13) dt13 (yt.nums kt.toKOk)) ?_
 rintro _ w14 ⟨rfl,p⟩
 have A14:=A13.bs p
 have ob14:=AI (ob13) p
 have oi14:=AI (oi13) p
 have on14:=AI (on13) p
 have ot14:=AI (ot13) p
 have od14:=AI (od13) p
 have db14:∀t ∈ tb,DT w14 CL t:=fun t g=>(db13 t g).bs p
 have di14:∀t ∈ ti,DT w14 DH t:=fun t g=>(di13 t g).bs p
 have dn14:∀t ∈ tn,DT w14 BQ t:=fun t g=>(dn13 t g).bs p
 have dt14:=fun t (g:t ∈ tt)=>(dt13 t g).bs (CV B 3) p
 have dd14:=fun t (g:t ∈ td)=>(dd13 t g).bs (CZ B 3) p
 refine B7 O<|Ac O<|Cm 85 (v' := .bool true) O (cngA Value.bool (rfl))<|Ag (dj:=85) O O<|Ac O<|Ag (dj:=85) O O<|Ai O O (Oc A _ ud td l B w14 A14 O (by rw [yd.len];exact od14) dd14 (yd.nums kd.toKOk)) ?_
 rintro _ v ⟨rfl,o⟩
 have L:=A14.bs o
 have ob15:=AI (ob14) o
 have oi15:=AI (oi14) o
 have on15:=AI (on14) o
 have ot15:=AI (ot14) o
 have od15:=AI (od14) o
 have db15:∀t ∈ tb,DT v CL t:=fun t g=>(db14 t g).bs o
 have di15:∀t ∈ ti,DT v DH t:=fun t g=>(di14 t g).bs o
 have dn15:∀t ∈ tn,DT v BQ t:=fun t g=>(dn14 t g).bs o
 have dt15:=fun t (g:t ∈ tt)=>(dt14 t g).bs (CV B 3) o
 have dd15:=fun t (g:t ∈ td)=>(dd14 t g).bs (CZ B 3) o
 refine B7 O<|Ac O<|Cm 89 (v' := .bool true) O (cngA Value.bool (rfl))<|Ag (dj:=89) O O<|Ac O<|Ag (dj:=89) O O<|Ai O O (Ob A _ v L O) ?_
 rintro _ _ ⟨rfl,rfl⟩
 refine B7 O<|Ac O<|Cm 93 (v' := .bool true) O (cngA Value.bool (rfl))<|Ag (dj:=93) O O<|Ac O<|Ag (dj:=93) O O<|Ai O O (Og A _ v L O) ?_
 rintro _ _ ⟨rfl,rfl⟩
 refine B7 O<|Ac O<|Cm 97 (v' := .bool true) O (cngA Value.bool (rfl))<|Ag (dj:=97) O O<|Ac O<|Ag (dj:=97) O O<|Ai O O (LF A _ v L O) ?_
 rintro _ _ ⟨rfl,rfl⟩
 refine B7 O<|Ac O<|Cm 101 (v' := .bool true) O (cngA Value.bool (rfl))<|Ag (dj:=101) O O<|Ac O<|Ag (dj:=101) O O<|Ai O O (ML A _ v L O) ?_
 rintro _ _ ⟨rfl,rfl⟩
 refine B7 O<|Ac O<|Cm 105 (v' := .bool true) O (cngA Value.bool (rfl))<|Ag (dj:=105) O O<|Ac O<|Ag (dj:=105) O O<|Ai O O (Qa A _ v L O) ?_
 rintro _ _ ⟨rfl,rfl⟩
 refine B7 O<|Ac O<|Cm 109 (v' := .bool true) O (cngA Value.bool (rfl))<|Ag (dj:=109) O O<|Ac O<|Ag (dj:=109) O O<|Ai O O (Of A _ v L O) ?_
 rintro _ _ ⟨rfl,rfl⟩
 refine B7 O<|Ac O<|Cm 113 (v' := .bool true) O (cngA Value.bool (rfl))<|Ag (dj:=113) O O<|Ac O<|Ag (dj:=113) O O<|Ai O O (Oe A _ v L O) ?_
 rintro _ _ ⟨rfl,rfl⟩
 refine B7 O<|Ac O<|Cm 117 (v' := .bool true) O (cngA Value.bool (rfl))<|Ag (dj:=117) O O<|Ac O<|Ag (dj:=117) O O<|Ai O O (Od A _ v L O) ?_
 rintro _ _ ⟨rfl,rfl⟩
 refine B7 O<|Ab O<|Ay<|As O O ?_
 have bel2:=bt m (bt s (bt q (bt p (o))))
 exact ⟨rfl,bel.trans (bel2.mono (by omega))⟩

theorem Mh (w:World) (f A:Nat) (n:Int) (l C p j g:List Hd) (q H un o i x y:Value) (k m:Nat) (xs s:List Value) (h:Bm w f A n l C p j g q H un o i) (Q:Sl w 1 x k xs) (M:Sl w 1 y m s) (v:∀b,y.ownBlock=some b→b<f) (T:n≤3999990):
  AK prog 167 [.pointer (some ⟨A,0,none⟩), .agg #[x,y]] w (fun r D=>r= .tuple #[]∧Below f w D∧∃c d,Bm D f A (n+2) l (C++[BS x k xs (n+1)]) (p++[BS y m s (n+2)]) j g q c d o i):=by
 refine Az (n:=12) func167 O<|Ad<|Bc (Xw.box (cs:=[x,y]) O O) O ?_
 rintro _ I ⟨rfl,b,a,J⟩
 have z:=h.bs a
 have hs:=h.size
 have R:=BA h.box
 have B:=AB h.oi
 refine Be<|Ac O<|Ba underlying75 O (AT _)<|Aa (Al (AN _) O ‹_› rfl) O ?_
 refine Ai O O (Ia I f A n l C p j g q H un o i x k xs z (Q.bs a) (by omega)) ?_
 rintro _ G ⟨rfl,E,c,t⟩
 have l2:=z.low (fun b e=>(AB z.oi b e).1) E
 have u:Sl G 1 y m s:=(M.bs a).keep fun b _ e=>l2.block b (v b e)
 have U:=b.chg E (fun e=>by
  rcases e with e|e
  ·omega
  ·have:=(B _ e).2;omega)
 refine Ak<|Bn<|Ac O<|Ba underlying75 O (CW _)<|Aa (Al (DC _) O ‹_› rfl) O ?_
 refine Ai O O (KM G f A (n+1) l _ p j g q c un o i y m s t u (by omega)) ?_
 rintro _ S ⟨rfl,N,d,F⟩
 have L:=t.low (fun b e=>(AB t.on b e).1) N
 have K:n+1+1=n+2:=by omega
 rw [K] at F
 exact Bd<|Cu rfl<|⟨rfl,((a.mono (Nat.le_of_lt hs)).trans l2).trans L,c,d,F⟩

def Po (n:Int):List T4→List Hd
 |[]=>[]
 |t::ts=>BS t.x t.s.length (t.s.map (Value.int .i64)) (n+1)::Po (n+2) ts
def Pn (n:Int):List T4→List Hd
 |[]=>[]
 |t::ts=>BS t.y t.l.length (t.l.map i32) (n+2)::Pn (n+2) ts
theorem MX (t:T4):∀(ts:List T4) (n:Int),Po n (ts++[t])=Po n ts++[BS t.x t.s.length (t.s.map (Value.int .i64)) (n+2*ts.length+1)]
 |[],n=>by simp [Po]
 |a::ts,n=>by
  simp only [cons_append,Po,MX t ts (n+2),length_cons]
  rw [show n+2+2*(ts.length:Int)+1=n+2*((ts.length+1:Nat):Int)+1 by omega]
theorem MW (t:T4):∀(ts:List T4) (n:Int),Pn n (ts++[t])=Pn n ts++[BS t.y t.l.length (t.l.map i32) (n+2*ts.length+2)]
 |[],n=>by simp [Pn]
 |a::ts,n=>by
  simp only [cons_append,Pn,MW t ts (n+2),length_cons]
  rw [show n+2+2*(ts.length:Int)+2=n+2*((ts.length+1:Nat):Int)+2 by omega]
def T4.low (lo:Nat) (t:T4):Prop:=(∀b,t.x.ownBlock=some b→b<lo)∧∀b,t.y.ownBlock=some b→b<lo
theorem CS {w a:World} {c sz n:Nat} {v:Value} {xs:List Value} (h:Sl w sz v n xs) (d:∀b,v.ownBlock=some b→b<c) (g:Below c w a):Sl a sz v n xs:=h.keep fun b _ e=>g.block b (d b e)
def SH (w:World) (v:Value) (ts:List T4):Prop:=Sl w 2 v ts.length (cellsOf ts)∧∀t ∈ ts,t.at w
theorem JG {w c:World} {a:Nat} {v:Value} {ts:List T4} (h:SH w v ts) (e:∀b,v.ownBlock=some b→b<a) (d:∀t ∈ ts,t.low a) (g:Below a w c):SH c v ts:=
 ⟨CS h.1 e g,fun t m=>⟨CS (h.2 t m).1 (d t m).1 g,CS (h.2 t m).2 (d t m).2 g⟩⟩
theorem HO {ts:List T4} {j:Nat} (h:j<ts.length):∀i,i<2→∃q,[ts[j].x,ts[j].y][i]? =some q∧(cellsOf ts)[j*2+i]? =some q:=fun i c=>by
 obtain ⟨a,b⟩:=FY h
 rcases (show i=0∨i=1 by omega) with rfl|rfl
 ·exact ⟨_,rfl,a⟩
 ·exact ⟨_,rfl,b⟩
theorem KL (w:World) (f A:Nat) (n:Int) (y D E u o:List Hd) (F X un G q v:Value) (ts:List T4) (h:Bm w f A n y D E u o F X un G q) (V:SH w v ts) (I:∀b,v.ownBlock=some b→b<f) (j:∀t ∈ ts,t.low f) (hf:n+2*ts.length≤3999980):
  AK prog 69 [.pointer (some ⟨A,0,none⟩),v] w (fun r p=>r= .tuple #[]∧Below f w p∧∃L M l,Bm p f A (n+2*ts.length+1) y (D++Po n ts) (E++Pn n ts) (u++[BS v ts.length (cellsOf ts) (n+2*ts.length+1)]) o F L M l q):=by
 have sv:=V.1
 have hnn:=h.many
 refine Az (n:=20) func69 O<|Ao<|Ad<|Ab O<|Ak<|An ?_
 refine Bl (S:=(Nat×Value×Value)) (fun z=>[(0, .pointer (some ⟨A,0,none⟩)),(1,v),(4, .int .i64 (z.1:Int))]) (fun z p=>z.1≤ts.length∧Below f w p∧Bm p f A (n+2*z.1) y (D++Po n (ts.take z.1)) (E++Pn n (ts.take z.1)) u o F z.2.1 z.2.2 G q) (fun z=>ts.length - z.1) ((0,X,un)) ⟨rfl,rfl,rfl,trivial⟩ ?_ ?_
 ·exact ⟨Nat.zero_le _,Below.refl _ _,by simpa [Po,Pn] using h⟩
 rintro ⟨i,T,R⟩ W ⟨J,U,m⟩
 dsimp only at J m ⊢
 have B:=JG V I j U
 have k:=B.1
 refine Ao<|Ad<|Ac O<|Ac O<|Aa (Ap BK O ‹_›) O ?_
 refine Bz O<|Ak<|Aq O ?_ ?_
 ·intro g
  have c:i<ts.length:=by have:=AC g;omega
  obtain ⟨a,H⟩:∃a,a=ts[i]:=⟨_,rfl⟩
  have x:a ∈ ts:=H ▸ getElem_mem c
  have s:=HO c
  rw [← H] at s
  have C:=B.2 a x
  refine Bw<|Ao<|An<|Bn<|Ac O<|Ac O<|Ac O<|Aa (Cl BK O O k i O c) O<|Aa (C8 (cs:=[a.x,a.y]) (FZ _) (FX _) O k O (by decide) s) O<|Ai O O (Mh W f A (n+2*i) y _ _ u o F T R G q a.x a.y a.s.length a.l.length _ _ m C.1 C.2 (j a x).2 (by omega)) ?_
  rintro _ Y ⟨rfl,Q,N,K,d⟩
  have Z:D++Po n (ts.take (i+1))=D++Po n (ts.take i)++[BS a.x a.s.length (a.s.map (Value.int .i64)) (n+2*i+1)]:=by
   rw [take_succ_eq_append_getElem c,MX,← H,length_take,Nat.min_eq_left (by omega),append_assoc]
  have eN:E++Pn n (ts.take (i+1))=E++Pn n (ts.take i)++[BS a.y a.l.length (a.l.map i32) (n+2*i+2)]:=by
   rw [take_succ_eq_append_getElem c,MW,← H,length_take,Nat.min_eq_left (by omega),append_assoc]
  have eK:n+2*(i:Int)+2=n+2*((i+1:Nat):Int):=by omega
  rw [← Z,← eN,eK] at d
  refine Bd<|Bg<|B6<|Ac O<|B1 O (by omega)<|Ab O<|Bd ?_
  exact Ar (Bp ((i+1,N,K)) ⟨rfl,rfl,rfl,trivial⟩ (⟨c,U.trans Q,d⟩) (by simp only;omega))
 intro g
 have c:i=ts.length:=by have:=AD g;omega
 subst c
 rw [take_length] at m
 refine Bk<|Aj<|Aj<|A0<|B6<|Ac O<|Ac O<|Ai O O (KO W f A (n+2*ts.length) y _ _ u o F T R G q v ts.length (cellsOf ts) m k (by omega)) ?_
 rintro _ Y ⟨rfl,hc,l,d⟩
 have l3:=m.low (fun b e=>(AB m.ot b e).1) hc
 exact Bd<|Cu rfl<|⟨rfl,U.trans l3,T,R,l,d⟩
end Go.Proofs.YtblbopcaflaldaaGreatDoor

namespace Go.Proofs.YtblbopcaflaldaaGreatDoor
open Go Go.Dd Go.RowKit Go.Proofs.Tryz
open List hiding all
set_option maxRecDepth 100000
theorem Tn {w:World} {base sz n b:Nat} {e:TypeId} {v:Value} {xs:List Value} (h:w.ownsRow base e sz v n xs) (a:v.ownBlock=some b):∃cs,AP w b e cs:=AQ.ty (.inl h) a
theorem Kh {w i:World} {base a:Nat} {e T:TypeId} {sz d n m:Nat} {v q:Value} {xs l:List Value} (h:AQ w base e sz v n xs) (k:AQ w a T d q m l) (c:e≠T) (g:w.grownBy i q.ownBlock):AQ i base e sz v n xs:=by
 cases hq:q.ownBlock with
 |none=>rw [hq] at g;exact h.bs (EU g (AU _) fun _ e=>by cases e)
 |some A=>
  rw [hq] at g
  obtain ⟨cs,o⟩:=k.ty hq
  refine h.heap fun b f=>g.block b (h.lt b f).2 fun p=> ?_
  cases p
  obtain ⟨ds,j⟩:=h.ty f
  exact c (BM j o)
theorem KX {w d:World} {base a:Nat} {e T:TypeId} {sz c n m:Nat} {v q:Value} {xs j:List Value} (h:w.ownsRow base e sz v n xs) (i:AQ w a T c q m j) (b:e≠T) (g:w.grownBy d q.ownBlock):d.ownsRow base e sz v n xs:=by
 cases hq:q.ownBlock with
 |none=>rw [hq] at g;exact AI h (EU g (AU _) fun _ e=>by cases e)
 |some A=>
  rw [hq] at g
  obtain ⟨cs,k⟩:=i.ty hq
  refine h.kept g (.inr fun l=> ?_)
  obtain ⟨ds,f⟩:=Tn h l
  exact b (BM f k)
def Nx (w:World) (base:Nat) (T:TypeId) (sz:Nat) (r:Value) (n:Nat) (cells mk:List Value):Prop:=
 ∃b cap,r= .slice (some ⟨b,0,none⟩) n cap∧w.ownsRow base T sz (.slice (some ⟨b,0,none⟩) (n+1) cap) (n+1) (cells++mk)
theorem Nx.bs {w c:World} {base:Nat} {T:TypeId} {sz:Nat} {r:Value} {n:Nat} {a mk:List Value} (h:Nx w base T sz r n a mk) (g:Below w.heap.size w c):Nx c base T sz r n a mk:=by
 obtain ⟨b,cap,e,d⟩:=h
 exact ⟨b,cap,e,AI d g⟩
theorem Uc {b n m cap sz:Nat}:cut (.slice (some ⟨b,0,none⟩) m cap) sz 0 n= .slice (some ⟨b,0,none⟩) n cap:=by
 show Value.slice (if cap=0 then _ else Option.map _ _) (n - 0) (cap - 0)=_
 have a:(if cap=0 then some (⟨b,0,none⟩:Addr) else (some (⟨b,0,none⟩:Addr)).map (·.add (0*sz)))=some ⟨b,0,none⟩:=by
  split
  ·rfl
  ·simp [add_lit]
 rw [a];rfl
theorem OX {w:World} {base:Nat} {T:TypeId} {sz:Nat} {v:Value} {n:Nat} {a mk:List Value} (h:w.ownsRow base T sz v (n+1) (a++mk)):Nx w base T sz (cut v sz 0 n) n a mk:=by
 have d:=h
 rcases h.2 with ⟨_,e⟩|⟨b,cap,c,rfl,_⟩
 ·omega
 ·exact ⟨b,cap,Uc,d⟩
theorem Nx.own {w:World} {base:Nat} {T:TypeId} {sz:Nat} {r:Value} {n:Nat} {a mk:List Value} (h:Nx w base T sz r n a mk) (d:a.length=n*sz):w.ownsRow base T sz r n a:=by
 obtain ⟨b,cap,rfl,c⟩:=h
 have:=Ry c (Nat.le_succ n)
 rw [take_append_of_le_length (by omega),take_of_length_le (by omega),Uc] at this
 exact this
theorem Twn.awayS {α:Type} {w i:World} {B c:Nat} {e T:TypeId} {enc:α→Value} {a v q:Value} {l:List α} {f m:Nat} {n:List Value} (h:Twn w B e enc a v l) (j:AQ w c T f q m n) (d:e≠T) (g:w.grownBy i q.ownBlock):Twn i B e enc a v l:=by
 obtain ⟨b,cap,rfl,k⟩:=h
 exact ⟨b,cap,rfl,KX k j d g⟩
theorem GK.awayS {w e:World} {f i a:Nat} {T:TypeId} {q:Value} {b m:Nat} {j:List Value} {c:T4} (h:GK w f i c) (d:AQ w a T b q m j) (l:3≠T) (k:21≠T) (g:w.grownBy e q.ownBlock):GK e f i c:=
 ⟨Kh h.rx d l g,Kh h.ry d k g,h.bx,h.by',h.apart⟩
theorem EE.awayS {w e:World} {j k a:Nat} {T:TypeId} {q x y:Value} {d m:Nat} {l:List Value} {c:T4} (h:EE w j k x y c) (b:AQ w a T d q m l) (i:3≠T) (f:21≠T) (g:w.grownBy e q.ownBlock):EE e j k x y c:=
 ⟨h.held.awayS b i f g,Twn.awayS h.tx b i g,Twn.awayS h.ty b f g⟩
theorem EE.wide {w:World} {e f a b:Nat} {x y:Value} {c:T4} (h:EE w e f x y c) (d:a≤e) (g:f≤b):EE w a b x y c:=
 ⟨h.held.wide d g,Twn.mono h.tx d,Twn.mono h.ty d⟩
theorem AZ.awayS {w e:World} {a:Nat} {T:TypeId} {q:Value} {c m:Nat} {j:List Value} (d:AQ w a T c q m j) (i:3≠T) (f:21≠T) (g:w.grownBy e q.ownBlock):∀{cs:List T4} {base b:Nat},AZ w base b cs→AZ e base b cs
 |[],_,_,h=>h
 |_::_,_,_,⟨lo,hi,q1,q2,q3,q4⟩=>⟨lo,hi,q1,q2,q3.awayS d i f g,AZ.awayS d i f g q4⟩
theorem AZ.snoc {w:World} {c:T4} {b d:Nat} (f:GK w b d c) (e:b≤d):∀{cs:List T4} {base a:Nat},AZ w base a cs→a≤b→AZ w base d (cs++[c])
 |[],_,_,h,ht=>⟨b,d,Nat.le_trans h ht,e,f,AU _⟩
 |_::_,_,_,⟨l1,h1,q1,q2,q3,q4⟩,ht=>⟨l1,h1,q1,q2,q3,AZ.snoc f e q4 ht⟩
theorem AZ.top {w:World} {b:Nat}:∀{cs:List T4} {base a:Nat},AZ w base a cs→a≤b→AZ w base b cs
 |[],_,_,h,ht=>Nat.le_trans h ht
 |_::_,_,_,⟨l1,h1,q1,q2,q3,q4⟩,ht=>⟨l1,h1,q1,q2,q3,AZ.top q4 ht⟩
theorem G1:∀us:List T4,(cellsOf us).length=us.length*2
 |[]=>rfl
 |_::us=>by simp only [cellsOf,length_cons,G1 us];omega
theorem Rk {w:World} {sz n:Nat} {v:Value} {xs:List Value} (h:Sl w sz v n xs):∃a k c,v= .slice a k c:=by
 obtain ⟨_,a,cap,rfl,_⟩:=h
 exact ⟨a,n,cap,rfl⟩
def vl (t:T4):List Int×List (BitVec 32):=(t.s,t.l)
structure DQ (w:World) (lo hi:Nat) (r:Value) (us:List T4):Prop where
 all:AZ w lo hi us
 tw:∀c ∈ us,EE w lo hi c.x c.y c
 m:∃m,Nx w lo 75 2 r us.length (cellsOf us) [m, .slice none 0 0]∧BO (Value.int .i64) w m [77]
 rb:∀b,r.ownBlock=some b→lo≤b∧b<hi
theorem DQ.bs {w b:World} {a d:Nat} {r:Value} {us:List T4} (h:DQ w a d r us) (g:Below w.heap.size w b):DQ b a d r us:=
 ⟨h.all.bs g,fun c i=>(h.tw c i).bs g,by obtain ⟨m,f,e⟩:=h.m;exact ⟨m,f.bs g,e.bs g⟩,h.rb⟩
theorem DQ.own {w:World} {a c:Nat} {r:Value} {us:List T4} (h:DQ w a c r us):w.ownsRow a 75 2 r us.length (cellsOf us):=by
 obtain ⟨m,b,_⟩:=h.m
 exact b.own (G1 us)
theorem DQ.tens {w:World} {a b:Nat} {r:Value} {us:List T4} (h:DQ w a b r us):EM w r us:=⟨AF h.own,fun c d=>(h.tw c d).held.at⟩
theorem TJ (x:Value) (f:∃a n c,x= .slice a n c):Tryz.prog.built 75 [(0,x)]=some [x, .slice none 0 0].toArray:=by
 obtain ⟨a,n,c,rfl⟩:=f
 have d:Tryz.prog.info? 75=some Tryz.t75:=rfl
 have b:Tryz.prog.info? 70=some Tryz.t70:=rfl
 have e:Tryz.prog.info? 73=some Tryz.t73:=rfl
 simp [Program.built,d,underlying75,b,e,Instr.fill,Value.cells]
 rfl
theorem HN {ts:List T4} {j:Nat} (h:j<ts.length):∀i,i<2→∃q,[ts[j].x,ts[j].y][i]? =some q∧(cellsOf ts)[j*2+i]? =some q:=G2 (FY h).1 (FY h).2
theorem Md (a b:List T4):cellsOf (a++b)=cellsOf a++cellsOf b:=by
 induction a with
 |nil=>rfl
 |cons x a ih=>simp only [cons_append,cellsOf,ih]
theorem P4 (v:Value) (ts:List T4) (W:World) (h:EM W v ts) (hb:∀t ∈ ts,t.s.length≤4194304∧t.l.length≤4194304) (hl:ts.length≤2097152):
  AK prog 40 [v] W (fun r A=>Below W.heap.size W A∧∃us,DQ A W.heap.size A.heap.size r us∧us.map vl=ts.map vl):=by
 have sv:=h.1
 refine Az (n:=31) func40 O<|Ad<|Ab O<|Be<|Ac O<|Aa (Ap BK O ‹_›) O ?_
 refine B1 O (by omega)<|Bc (Eg (l:=0) (c:=ts.length+1) BK EC O O O (by omega) (by omega) (by omega)) O ?_
 rintro r0 w1 ⟨e, -,C, -⟩
 replace e:w1.ownsRow W.heap.size 75 2 r0 0 []:=e
 refine Ab O<|Bi<|Ab O<|Ak<|An ?_
 refine Bl (S:=(Nat×Value×List T4)) (fun z=>[(0,v),(3,z.2.1),(4, .int .i64 (z.1:Int))]) (fun z A=>z.1≤ts.length∧Below W.heap.size W A∧A.ownsRow W.heap.size 75 2 z.2.1 z.1 (cellsOf z.2.2)∧AZ A W.heap.size A.heap.size z.2.2∧(∀c ∈ z.2.2,EE A W.heap.size A.heap.size c.x c.y c)∧z.2.2.map vl=(ts.take z.1).map vl) (fun z=>ts.length - z.1) ((0,r0,[])) ⟨rfl,rfl,rfl,trivial⟩ ?_ ?_
 ·exact ⟨Nat.zero_le _,C,e,C.size,fun _ k=>absurd k not_mem_nil,rfl⟩
 clear e C
 rintro ⟨i,r,us⟩ w ⟨hi,C,e,Y,X,L⟩
 replace hi:i≤ts.length:=hi
 replace e:w.ownsRow W.heap.size 75 2 r i (cellsOf us):=e
 replace Y:AZ w W.heap.size w.heap.size us:=Y
 replace X:∀c ∈ us,EE w W.heap.size w.heap.size c.x c.y c:=X
 replace L:us.map vl=(ts.take i).map vl:=L
 have R:=sv.bs C
 have z2:=C.size
 have lus:us.length=i:=by have:=cngA length L;rw [length_map,length_map,length_take] at this;omega
 refine Ao<|Ad<|Ac O<|Ac O<|Aa (Ap BK O ‹_›) O ?_
 refine Bz O<|Ak<|Aq O ?_ ?_
 ·intro g
  have o:i<ts.length:=by have:=AC g;omega
  obtain ⟨a,ha⟩:∃a,a=ts[i]:=⟨_,rfl⟩
  have G:a ∈ ts:=ha ▸ getElem_mem o
  have N:=HN o
  rw [← ha] at N
  refine Bw<|Ao<|An<|Bn<|Ac O<|Ac O<|Ac O<|Aa (Cl BK O O R i O o) O<|Aa (C8 (cs:=[a.x,a.y]) (FZ _) (FX _) O R O (by decide) N) O<|Ai O O (SQ a w ((h.2 a G).bs C) (hb a G).1 (hb a G).2) ?_
  rintro _ V ⟨b,x,y,rfl,M⟩
  have J:=bt C b
  have q:=AI e b
  have H3:=Y.bs b
  have T3:∀c ∈ us,EE V W.heap.size w.heap.size c.x c.y c:=fun c k=>(X c k).bs b
  have z3:=b.size
  refine Bc (D8 (cs:=[x,y]) BK EC O O (by decide) (by decide)) O ?_
  rintro p K ⟨I, -,b, -⟩
  have s:=bt J b
  have f:=AI q b
  have H4:=H3.bs b
  have H:∀c ∈ us,EE K W.heap.size w.heap.size c.x c.y c:=fun c k=>(T3 c k).bs b
  have M:=M.bs b
  have z4:=b.size
  have ox:=M.held.at.one
  refine Bc (Cn (base:=W.heap.size) BK EC O (by decide) O O f (AF I) ox (by omega) (by omega) s.size) O ?_
  rintro Z u ⟨d,b,D, -⟩
  have B:=s.trans b
  have z5:=b.size
  have e1:cellsOf (us++[⟨x,y,a.s,a.l⟩])=cellsOf us++[x,y]:=by rw [Md];rfl
  rw [← e1] at d
  have E:AQ K W.heap.size 75 2 r i (cellsOf us):= .inl f
  have T5:∀c ∈ us++[⟨x,y,a.s,a.l⟩],EE u W.heap.size u.heap.size c.x c.y c:=by
   intro c k
   rcases List.mem_append.1 k with k|k
   ·exact ((H c k).awayS E (by decide) (by decide) D).wide (AU _) (by omega)
   ·rw [List.mem_singleton.1 k]
    exact (show EE K w.heap.size V.heap.size x y (⟨x,y,a.s,a.l⟩:T4) from ⟨M.held,M.tx,M.ty⟩).awayS E (by decide) (by decide) D|>.wide z2 (by omega)
  have H5:AZ u W.heap.size u.heap.size (us++[⟨x,y,a.s,a.l⟩]):=AZ.top (AZ.snoc (M.held.awayS E (by decide) (by decide) D) z3 (H4.awayS E (by decide) (by decide) D) (AU _)) (by omega)
  have hp5:(us++[(⟨x,y,a.s,a.l⟩:T4)]).map vl=(ts.take (i+1)).map vl:=by
   rw [map_append,L,take_succ_eq_append_getElem o,map_append,← ha];rfl
  refine Ab O<|Bd<|Bg<|B6<|Ac O<|B1 O (by omega)<|Ab O<|Bd ?_
  exact Ar (Bp ((i+1,Z,us++[⟨x,y,a.s,a.l⟩])) ⟨rfl,rfl,rfl,trivial⟩ (⟨o,B,d,H5,T5,hp5⟩) (by simp only;omega))
 intro g
 have o:i=ts.length:=by have:=AD g;omega
 rw [o,take_length] at L
 refine Bk<|Aj<|Aj<|A0<|Cb<|Ac O<|Bc (Cv (vs:=[(77:Int)].map (Value.int .i64)) AE DO O O O O O) O ?_
 rintro m V ⟨F, -,b, -⟩
 have J:=bt C b
 have q:=AI e b
 have H3:=Y.bs b
 have T3:∀c ∈ us,EE V W.heap.size w.heap.size c.x c.y c:=fun c k=>(X c k).bs b
 have z3:=b.size
 refine Aa (C1 (vs:=[(0,m)]) (cs:=[m, .slice none 0 0]) O (TJ m (Rk (AF F)))) O<|Bc (D8 (cs:=[m, .slice none 0 0]) BK EC O O (by decide) (by decide)) O ?_
 rintro p K ⟨I, -,b, -⟩
 have s:=bt J b
 have f:=AI q b
 have U:=AI F b
 have H4:=H3.bs b
 have H:∀c ∈ us,EE K W.heap.size w.heap.size c.x c.y c:=fun c k=>(T3 c k).bs b
 have z4:=b.size
 refine Bc (Cn (base:=W.heap.size) BK EC O (by decide) O O f (AF I) (by rw [all_cons,(AF F).one'];rfl) (by omega) (by omega) s.size) O ?_
 rintro Z u ⟨d,b,D, -⟩
 have B:=s.trans b
 have z5:=b.size
 have E:AQ K W.heap.size 75 2 r i (cellsOf us):= .inl f
 have Q:=KX U E (by decide) D
 have T5:∀c ∈ us,EE u W.heap.size u.heap.size c.x c.y c:=fun c k=>((H c k).awayS E (by decide) (by decide) D).wide (AU _) (by omega)
 have H5:AZ u W.heap.size u.heap.size us:=AZ.top (H4.awayS E (by decide) (by decide) D) (by omega)
 have T:=AF d
 rw [show i+1=us.length+1 by omega] at d
 have hS:=OX d
 have sv5:=sv.bs B
 have hR:DQ u W.heap.size u.heap.size (cut Z 2 0 us.length) us:=⟨H5,T5,⟨m,hS,BD Q⟩,AB (hS.own (G1 us))⟩
 rw [show us.length=ts.length by omega] at hR
 refine Ac O<|Aa (Ap BK O ‹_›) O ?_
 refine Aa (El (j:=ts.length) BK O O T (by omega)) O<|Ab O<|Ay<|As O O ?_
 exact ⟨B,us,hR,L⟩
theorem RE (r v:Value) (us ts:List T4) (H K:Nat) (W:World) (h:DQ W H K r us) (T:EM W v ts) (e:us.map vl=ts.map vl):
  AK prog 68 [r,v] W (fun r D=>r= .bool true∧Below W.heap.size W D):=by
 have Z:=T.1
 have hle:=Z.le
 have M:=AF h.own
 have B:us.length=ts.length:=by have:=cngA length e;simpa using this
 obtain ⟨m,hS,C⟩:=h.m
 obtain ⟨b,cap,rfl,Y⟩:=hS
 have X:us.length+1≤cap∧cap≤9223372036854775807:=by
  obtain ⟨_,ao,R,he,h1,h2,_⟩:=AF Y
  cases he;unfold maxLen at h2;exact ⟨h1,by omega⟩
 refine Az (n:=55) func68 O<|Ad<|Ab O<|Bi<|Ac O<|Aa (Ap BK O ‹_›) O ?_
 refine Ac O<|Aa (Ap BK O ‹_›) O ?_
 refine Aa (Ct O O) O<|Ac O<|Cm 12 (v' := .bool false) O (cngA Value.bool ((by simp [B])))<|Ag (dj:=12) O O<|Ac O<|Ag (dj:=12) O O<|Aa (E4 BK O) O<|Ag (dj:=12) O O<|Ac O<|Ag (dj:=12) O O<|Aa (Ap BK O ‹_›) O ?_
 refine Ag (dj:=12) O O<|Aa (Dy O O) O<|Ci O<|Ak<|Bu O false ((by simp;omega))<|Bw<|Ao<|Ad<|Ab O<|Ak<|An ?_
 refine Bl (S:=Nat) (fun k=>[(0, .slice (some ⟨b,0,none⟩) us.length cap),(1,v),(5, .int .i64 (k:Int))]) (fun k D=>k≤ts.length∧Below W.heap.size W D) (fun k=>ts.length - k) (0) ⟨rfl,rfl,rfl,trivial⟩ ?_ ?_
 ·exact ⟨by omega,Below.refl _ _⟩
 rintro k u ⟨hk,d⟩
 have y:=Z.bs d
 have A:=M.bs d
 refine Ao<|Ad<|Ac O<|Ac O<|Aa (Ap BK O ‹_›) O ?_
 refine Bz O<|Ak<|Aq O ?_ ?_
 ·intro g
  have i:k<ts.length:=by have:=AC g;omega
  have o:k<us.length:=by omega
  obtain ⟨a,L⟩:∃a,a=ts[k]:=⟨_,rfl⟩
  obtain ⟨c,I⟩:∃c,c=us[k]:=⟨_,rfl⟩
  have F:a ∈ ts:=L ▸ getElem_mem i
  have E:c ∈ us:=I ▸ getElem_mem o
  have w:=HN i
  rw [← L] at w
  have x:=HN o
  rw [← I] at x
  have ev:vl c=vl a:=by
   have z:(us.map vl)[k]? =(ts.map vl)[k]? :=by rw [e]
   rw [getElem?_map,getElem?_map,getElem?_eq_getElem o,getElem?_eq_getElem i,← L,← I] at z
   exact Option.some.inj z
  have es:c.s=a.s:=cngA Prod.fst ev
  have V:c.l=a.l:=cngA Prod.snd ev
  have s:=(h.tw c E).bs d
  have G:EE u H K c.x c.y a:=⟨⟨by have:=s.held.rx;rw [es] at this;exact this,by have:=s.held.ry;rw [V] at this;exact this,s.held.bx,s.held.by',s.held.apart⟩,es ▸ s.tx,V ▸ s.ty⟩
  refine Bw<|Ao<|An<|Ao<|Cw.tail 8 BB (by kernel_rfl)<|Bq O<|Bq O<|Ah (fun u l=>Cl BK O O (Sl.bs A l) k O o) O<|Ah (fun u l=>C8 (cs:=[c.x,c.y]) (FZ _) (FX _) O (Sl.bs A l) O (by decide) x) O<|Bq O<|Bq O<|Ah (fun u l=>Cl BK O O (Sl.bs y l) k O i) O<|Ah (fun u l=>C8 (cs:=[a.x,a.y]) (FZ _) (FX _) O (Sl.bs y l) O (by decide) w) O ?_
  refine D0 (fun w2 l=> ?_)
  refine Ai O O (LH a c.x c.y H K w2 (((T.2 a F).bs d).bs l) (G.bs l)) ?_
  rintro _ w3 ⟨rfl,t⟩
  have t:=bt l t
  have J:=bt d t
  refine Aa (Co O) O<|Ak<|Bu O false ((by simp))<|Cj<|Bg<|B6<|Ac O<|B1 O (by omega)<|Ab O<|Bd ?_
  exact Ar (Bp (k+1) ⟨rfl,rfl,rfl,trivial⟩ (⟨by omega,J⟩) (by omega))
 ·intro g
  have i:k=ts.length:=by have:=AD g;omega
  subst i
  have f:=AF (AI Y d)
  have q:=C.bs d
  have N:=G1 us
  have Q:(cellsOf us++[m,Value.slice none 0 0])[us.length*2]? =some m:=by rw [getElem?_append_right (by omega),N,Nat.sub_self];rfl
  have z:(cellsOf us++[m,Value.slice none 0 0])[us.length*2+1]? =some (.slice none 0 0):=by rw [getElem?_append_right (by omega),N,Nat.add_sub_cancel_left];rfl
  rw [B] at f Q z
  refine Bk<|Aj<|Aj<|A0<|Cb<|Ac O<|Ac O<|Aa (Ap BK O ‹_›) O ?_
  refine B1 O (by omega)<|Aa (Ej (j:=ts.length+1) BK O O (by omega)) O<|Ac O<|Aa (Ap BK O ‹_›) O ?_
  refine Aa (Cl BK O O f ts.length O (by omega)) O<|Aa (C8 (cs:=[m, .slice none 0 0]) (FZ _) (FX _) O f O (by decide) (G2 Q z)) O<|Cz (cs:=[m, .slice none 0 0]) EC O O O O (fun _=>rfl) ((by rw [all_cons,q.one'];rfl)) ?_
  rintro A_m w2 U b_m t zhn
  have p:=q.bs t
  refine Be<|Ba underlying75 O (AT _)<|Aa (Al (AN _) O ‹_› rfl) O ?_
  refine Aa (Ap AE O ‹_›) O ?_
  refine Aa (C6 O O) O<|Ac O<|Cm 48 (v' := .bool true) O (cngA Value.bool (rfl))<|Ag (dj:=48) O O<|Ba underlying75 O (AT _)<|Ag (dj:=48) O O<|Aa (Al (AN _) O ‹_› rfl) O ?_
  refine Ag (dj:=48) O O<|Aa (Bh AE O O p 0 O (by decide)) O<|Ag (dj:=48) O O<|Aa (Bo (AO _) O p (by decide)) O<|Ag (dj:=48) O O<|Aa (C6 O O) O<|B7 O<|Ab O<|Ay<|As O O ?_
  exact ⟨cngA Value.bool (by simp),bt d t⟩
end Go.Proofs.YtblbopcaflaldaaGreatDoor

namespace Go.Proofs.YtblbopcaflaldaaGreatDoor
open Go Go.Dd Go.RowKit List Go.Proofs.Tryz
set_option maxRecDepth 100000
structure FV (w:World) (lo hi:Nat) (E:TypeId) (sz:Nat) (hs:List Hd):Prop where
 kept:FB w lo E sz hs
 top:∀b,BF hs b→b<hi
theorem Fp (w:World) (a c:Nat) (E:TypeId) (sz:Nat):FV w a c E sz []:=⟨FB.nil _ _ _ _,fun b ⟨_,h,_⟩=>by cases h⟩
theorem FV.low {w:World} {a c:Nat} {E:TypeId} {sz:Nat} {hs:List Hd} (h:FV w a c E sz hs) {b:Nat} (e:BF hs b):a≤b:=(h.kept.blk e).1
theorem FV.below {w c:World} {d a B:Nat} {E:TypeId} {sz:Nat} {hs:List Hd} (h:FV w d a E sz hs) (g:Below B w c) (i:a≤B):FV c d a E sz hs:=
 ⟨⟨h.kept.toKOk,fun x f=>(h.kept.own x f).heap fun b e=>g.block b (by have:=h.top b ⟨x,f,e⟩;omega)⟩,h.top⟩
theorem FV.wide {w:World} {d f a c:Nat} {E:TypeId} {sz:Nat} {hs:List Hd} (h:FV w d f E sz hs) (g:a≤d) (j:f≤c):FV w a c E sz hs:=
 ⟨⟨h.kept.toKOk,fun x i=>(h.kept.own x i).mono g⟩,fun b e=>by have:=h.top b e;omega⟩
theorem FV.app {w:World} {a b c d:Nat} {E:TypeId} {sz:Nat} {hs i:List Hd} (h:FV w a b E sz hs) (k:FV w c d E sz i) (n:a≤c) (r:b≤c) (s:b≤d):FV w a d E sz (hs++i):=by
 have g:∀{P:Hd→Prop},(∀x ∈ hs,P x)→(∀x ∈ i,P x)→∀x ∈ hs++i,P x:=fun p q x f=>(List.mem_append.1 f).elim (p x) (q x)
 refine ⟨⟨⟨g h.kept.num k.kept.num,g h.kept.few k.kept.few,List.pairwise_append.2 ⟨h.kept.apart,k.kept.apart,fun x f y m e l o=> ?_⟩,g h.kept.new k.kept.new⟩,g h.kept.own fun x f=>(k.kept.own x f).mono n⟩,fun e ⟨x,f,j⟩=> ?_⟩
 ·have:=h.top e ⟨x,f,l⟩
  have:=k.low ⟨y,m,o⟩
  omega
 ·rcases List.mem_append.1 f with f|f
  ·have:=h.top e ⟨x,f,j⟩;omega
  ·exact k.top e ⟨x,f,j⟩
theorem FV.one {w:World} {d f:Nat} {E:TypeId} {sz k:Nat} {v:Value} {xs:List Value} {n:Int} (h:AQ w d E sz v k xs) (i:∀b,v.ownBlock=some b→b<f) (j:0≤n) (c:n≤4000000) (g:k≤16777216):FV w d f E sz [BS v k xs n]:=
 ⟨⟨⟨fun x a=>by rw [List.mem_singleton.1 a];exact ⟨j,c⟩,fun x a=>by rw [List.mem_singleton.1 a];exact g,pairwise_singleton _ _,fun x a=>by rw [List.mem_singleton.1 a]⟩,fun x a=>by rw [List.mem_singleton.1 a];exact h⟩,fun b ⟨x,a,e⟩=>by rw [List.mem_singleton.1 a] at e;exact i b e⟩
theorem FV.cons {w:World} {a b c d:Nat} {E:TypeId} {sz:Nat} {x:Hd} {e:List Hd} (h:FV w a b E sz [x]) (k:FV w c d E sz e) (g:a≤c) (f:b≤c) (i:b≤d):FV w a d E sz (x::e):=h.app k g f i
theorem AZ.kin:∀{w:World} {cs:List T4} {base a:Nat} (_:AZ w base a cs) {n:Int},0≤n→n+2*cs.length≤4000000→(∀c ∈ cs,c.s.length≤16777216∧c.l.length≤16777216)→FV w base a 3 1 (Po n cs)∧FV w base a 21 1 (Pn n cs)
 |_,[],_,_,_,_,_,_,_=>⟨Fp _ _ _ _ _,Fp _ _ _ _ _⟩
 |w,c::cs,base,a,⟨lo,hi,h1,h2,h3,h4⟩,n,n0,n1,hk=>by
  simp only [length_cons] at n1
  obtain ⟨g,h⟩:=h4.kin (n:=n+2) (by omega) (by omega) fun d f=>hk d (by simp [f])
  have:=hk c (by simp)
  have:=h4.le
  exact ⟨((FV.one h3.rx (fun b e=>(h3.bx b e).2) (by omega) (by omega) (by omega)).cons g (by omega) (AU _) (by omega)).wide h1 (AU _),((FV.one h3.ry (fun b e=>(h3.by' b e).2) (by omega) (by omega) (by omega)).cons h (by omega) (AU _) (by omega)).wide h1 (AU _)⟩
theorem DU {w:World} {a b c d:Nat} {E T:TypeId} {sz l:Nat} {hs f:List Hd} (h:FV w a b E sz hs) (k:FV w c d T l f) (e:E≠T):∀x,BF hs x→¬BF f x:=fun x ⟨y,j,g⟩ ⟨z,o,n⟩=>by
 obtain ⟨cs,m⟩:=(h.kept.own y j).ty g
 obtain ⟨ds,i⟩:=(k.kept.own z o).ty n
 exact e (BM m i)
theorem S4 (w:World) (a A base:Nat) (n:Int) (j k l i f:List Hd) (m q un p o:Value) (h:Bm w a A n j k l i f m q un p o) (d:FV w base a 5 1 j) (c:FV w base a 3 1 k) (kn:FV w base a 21 1 l) (b:FV w base a 75 2 i) (e:FV w base a 79 5 f) (g:base≤a):
  AK prog 22 [.pointer (some ⟨A,0,none⟩)] w (fun r s=>r= .bool true∧Below base w s):=
 TQ w a A base n j k l i f m q un p o h d.kept c.kept kn.kept b.kept e.kept d.top c.top kn.top b.top e.top (DU d c (by decide)) (DU d kn (by decide)) (DU d b (by decide)) (DU d e (by decide)) (DU c kn (by decide)) (DU c b (by decide)) (DU c e (by decide)) (DU kn b (by decide)) (DU kn e (by decide)) (DU b e (by decide)) g
theorem UJ {w:World} {A:Nat} (h:AP w A BG (.int .i64 0::replicate 15 (.slice none 0 0))):Bm w A A 0 [] [] [] [] [] (.slice none 0 0) (.slice none 0 0) (.slice none 0 0) (.slice none 0 0) (.slice none 0 0):=
 ⟨h,⟨rfl, .inl ⟨rfl,rfl⟩⟩,⟨rfl, .inl ⟨rfl,rfl⟩⟩,⟨rfl, .inl ⟨rfl,rfl⟩⟩,⟨rfl, .inl ⟨rfl,rfl⟩⟩,⟨rfl, .inl ⟨rfl,rfl⟩⟩,AU _,(by rintro ⟨⟩),(by rintro ⟨⟩),(by rintro ⟨⟩),(by rintro ⟨⟩),(by rintro ⟨⟩),(fun b e=>by cases e),(fun b e=>by cases e),(fun b e=>by cases e),(fun b e=>by cases e),(fun b e=>by cases e),(fun b e=>by cases e),(fun b e=>by cases e),(fun b e=>by cases e),(fun b e=>by cases e),(fun b e=>by cases e),rfl⟩

theorem Oi (a:N5) (x y:Value) (g o:Nat) (W:World) (d:N5.at W a) (h:EL W g o x y a):AK prog 213 [(N5.mk a.k x y a.i a.s a.n a.p).v,a.v] W (fun r k=>r= .bool true∧Below W.heap.size W k):=by
 have e:=Below.refl W.heap.size W
 refine Az (n:=38) func213 O<|Ad<|Cr (cs:=(N5.mk a.k x y a.i a.s a.n a.p).cells) O O O ?_
 rintro l w j c b -
 have e:=e.bs b
 have d:=d.bs b
 have h:=h.bs b
 refine Cr (cs:=a.cells) O O O ?_
 rintro m w i f b -
 have e:=e.bs b
 have d:=d.bs b
 have h:=h.bs b
 have c:=c.bs b
 refine Ab O<|Be<|Ba underlying79 O (EA _)<|Aa (Al (ED _) O ‹_› rfl) O ?_
 refine Ba underlying79 O (EA _)<|Aa (Al (ED _) O ‹_› rfl) O ?_
 refine Aa (Ch O O) O<|Ac O<|Cm 10 (v' := .bool true) O (cngA Value.bool ((by simp)))<|Ag (dj:=10) O O<|Ba underlying79 O (AT _)<|Ag (dj:=10) O O<|Aa (Al (AN _) O ‹_› rfl) O ?_
 refine Ag (dj:=10) O O<|Ba underlying79 O (AT _)<|Ag (dj:=10) O O<|Aa (Al (AN _) O ‹_› rfl) O ?_
 refine Ag (dj:=10) O O<|Ai O O (HV x a.x a.i g _ h.tx d.i) ?_
 rintro _ w ⟨rfl,b⟩
 have e:=e.bs b
 have d:=d.bs b
 have h:=h.bs b
 have c:=c.bs b
 have f:=f.bs b
 refine B7 O<|Ac O<|Cm 17 (v' := .bool true) O (cngA Value.bool (rfl))<|Ag (dj:=17) O O<|Ba underlying79 O (AT _)<|Ag (dj:=17) O O<|Aa (Al (AN _) O ‹_› rfl) O ?_
 refine Ag (dj:=17) O O<|Ba underlying79 O (AT _)<|Ag (dj:=17) O O<|Aa (Al (AN _) O ‹_› rfl) O ?_
 refine Ag (dj:=17) O O<|Ai O O (HV y a.y a.s g _ h.ty d.s) ?_
 rintro _ w ⟨rfl,b⟩
 have e:=e.bs b
 have d:=d.bs b
 have h:=h.bs b
 have c:=c.bs b
 have f:=f.bs b
 refine B7 O<|Ac O<|Cm 24 (v' := .bool true) O (cngA Value.bool (rfl))<|Ag (dj:=24) O O<|Ba underlying79 O (BC _)<|Ag (dj:=24) O O<|Aa (Al (AO _) O ‹_› rfl) O ?_
 refine Ag (dj:=24) O O<|Ba underlying79 O (BC _)<|Ag (dj:=24) O O<|Aa (Al (AO _) O ‹_› rfl) O ?_
 refine Ag (dj:=24) O O<|Aa (C6 O O) O<|B7 O<|Ac O<|Cm 31 (v' := .bool true) O (cngA Value.bool ((by simp)))<|Ag (dj:=31) O O<|Ba underlying79 O (BC _)<|Ag (dj:=31) O O<|Aa (Al (AO _) O ‹_› rfl) O ?_
 refine Ag (dj:=31) O O<|Ba underlying79 O (BC _)<|Ag (dj:=31) O O<|Aa (Al (AO _) O ‹_› rfl) O ?_
 exact Ag (dj:=31) rfl rfl<|Aa (C6 rfl rfl) rfl<|B7 rfl<|Ab rfl<|Ay<|As rfl rfl<|⟨cngA Value.bool (by simp),e⟩
theorem EL.kin {w:World} {j i:Nat} {x y:Value} {a:N5} (h:EL w j i x y a) {n:Int} (o:0≤n) (m:n+2≤4000000) (g:a.i.length≤16777216) (hs:a.s.length≤16777216):FV w j i 3 1 [BS x a.i.length (a.i.map (Value.int .i64)) (n+1),BS y a.s.length (a.s.map (Value.int .i64)) (n+2)]:=by
 have d:=FV.one (n:=n+1) (.inl h.tx.own) (fun b e=>(h.bx b e).2) (by omega) (by omega) g
 have f:=FV.one (n:=n+2) (.inl h.ty.own) (fun b e=>(h.by' b e).2) (by omega) (by omega) hs
 refine ⟨⟨⟨?_, ?_,List.Pairwise.cons ?_ (pairwise_singleton _ _), ?_⟩, ?_⟩, ?_⟩
 ·intro z c
  rcases List.mem_cons.1 c with rfl|c
  ·exact d.kept.num _ (List.mem_singleton.2 rfl)
  ·exact f.kept.num _ c
 ·intro z c
  rcases List.mem_cons.1 c with rfl|c
  ·exact d.kept.few _ (List.mem_singleton.2 rfl)
  ·exact f.kept.few _ c
 ·intro z c
  rw [List.mem_singleton.1 c]
  exact fun b k l=>h.apart b k l
 ·intro z c
  rcases List.mem_cons.1 c with rfl|c
  ·rfl
  ·rw [List.mem_singleton.1 c]
 ·intro z c
  rcases List.mem_cons.1 c with rfl|c
  ·exact d.kept.own _ (List.mem_singleton.2 rfl)
  ·exact f.kept.own _ c
 ·rintro b ⟨z,c,e⟩
  rcases List.mem_cons.1 c with rfl|c
  ·exact (h.bx b e).2
  ·rw [List.mem_singleton.1 c] at e
   exact (h.by' b e).2
end Go.Proofs.YtblbopcaflaldaaGreatDoor

namespace Go.Proofs.YtblbopcaflaldaaGreatDoor
open Go Go.Dd Go.RowKit Go.Proofs.Tryz
open List hiding all
set_option maxRecDepth 100000
theorem MA {w d:World} {base A:Nat} {e T:TypeId} {sz n:Nat} {v:Value} {xs cs:List Value} (h:w.ownsRow base e sz v n xs) (k:AP w A T cs) (c:e≠T) (g:w.grownBy d (some A)):d.ownsRow base e sz v n xs:=
 AV h fun b a=>g.block b (AB h b a).2 fun j=>by
  cases j
  rcases h.2 with ⟨rfl,_⟩|⟨l,cap,i,rfl,_,f,_⟩
  ·cases a
  ·simp only [Value.ownBlock,Option.some.injEq] at a
   subst a
   unfold AP at k
   rw [k] at f
   have:=Option.some.inj f
   injection this with _ h2 _
   exact c h2.symm
def nl (a:N5):BitVec 8×List Int×List Int×Int×Int:=(a.k,a.i,a.s,a.n,a.p)
def BJ (w:World):Nat→Nat→List N5→Prop
 |base,top,[]=>base≤top
 |base,top,c::cs=>∃lo hi,base≤lo∧lo≤hi∧EL w lo hi c.x c.y c∧BJ w hi top cs
theorem BJ.le:∀{w:World} {cs:List N5} {base a:Nat},BJ w base a cs→base≤a
 |_,[],_,_,h=>h
 |_,_::_,_,_,⟨_,_,h1,h2,_,h3⟩=>by have:=h3.le;omega
theorem BJ.bs {w b:World} (g:Below w.heap.size w b):∀{cs:List N5} {base a:Nat},BJ w base a cs→BJ b base a cs
 |[],_,_,h=>h
 |_::_,_,_,⟨lo,hi,h1,h2,h3,h4⟩=>⟨lo,hi,h1,h2,h3.bs g,BJ.bs g h4⟩
theorem EL.awayS {w e:World} {i j a:Nat} {T:TypeId} {q x y:Value} {b m:Nat} {k:List Value} {c:N5} (h:EL w i j x y c) (d:AQ w a T b q m k) (f:3≠T) (g:w.grownBy e q.ownBlock):EL e i j x y c:=
 ⟨Twn.awayS h.tx d f g,Twn.awayS h.ty d f g,h.bx,h.by',h.apart⟩
theorem BJ.awayS {w e:World} {a:Nat} {T:TypeId} {q:Value} {c m:Nat} {i:List Value} (d:AQ w a T c q m i) (f:3≠T) (g:w.grownBy e q.ownBlock):∀{cs:List N5} {base b:Nat},BJ w base b cs→BJ e base b cs
 |[],_,_,h=>h
 |_::_,_,_,⟨lo,hi,q1,q2,q3,q4⟩=>⟨lo,hi,q1,q2,q3.awayS d f g,BJ.awayS d f g q4⟩
theorem BJ.snoc {w:World} {c:N5} {b d:Nat} (f:EL w b d c.x c.y c) (e:b≤d):∀{cs:List N5} {base a:Nat},BJ w base a cs→a≤b→BJ w base d (cs++[c])
 |[],_,_,h,ht=>⟨b,d,Nat.le_trans h ht,e,f,AU _⟩
 |_::_,_,_,⟨l1,h1,q1,q2,q3,q4⟩,ht=>⟨l1,h1,q1,q2,q3,BJ.snoc f e q4 ht⟩
theorem BJ.top {w:World} {b:Nat}:∀{cs:List N5} {base a:Nat},BJ w base a cs→a≤b→BJ w base b cs
 |[],_,_,h,ht=>Nat.le_trans h ht
 |_::_,_,_,⟨l1,h1,q1,q2,q3,q4⟩,ht=>⟨l1,h1,q1,q2,q3,BJ.top q4 ht⟩
theorem EL.wide {w:World} {g i a d:Nat} {x y:Value} {c:N5} (h:EL w g i x y c) (f:a≤g) (j:i≤d):EL w a d x y c:=
 ⟨Ii h.tx f,Ii h.ty f,fun b e=>by have:=h.bx b e;omega,fun b e=>by have:=h.by' b e;omega,h.apart⟩
theorem BJ.each:∀{w:World} {cs:List N5} {base b:Nat},BJ w base b cs→∀c ∈ cs,EL w base b c.x c.y c
 |_,[],_,_,_=>fun c a=>by cases a
 |_,d::ds,_,_,⟨lo,hi,h1,h2,h3,h4⟩=>fun c a=>by
  have:=h4.le
  rcases List.mem_cons.1 a with rfl|a
  ·exact h3.wide h1 (by omega)
  ·exact (h4.each c a).wide (by omega) (AU _)
def Nz (n:Int):List N5→List Hd
 |[]=>[]
 |t::ts=>BS t.x t.i.length (t.i.map (Value.int .i64)) (n+1)::BS t.y t.s.length (t.s.map (Value.int .i64)) (n+2)::Nz (n+2) ts
theorem MY (t:N5):∀(ts:List N5) (n:Int),Nz n (ts++[t])=Nz n ts++[BS t.x t.i.length (t.i.map (Value.int .i64)) (n+2*ts.length+1),BS t.y t.s.length (t.s.map (Value.int .i64)) (n+2*ts.length+2)]
 |[],n=>by simp [Nz]
 |a::ts,n=>by
  simp only [cons_append,Nz,MY t ts (n+2),length_cons]
  rw [show n+2+2*(ts.length:Int)+1=n+2*((ts.length+1:Nat):Int)+1 by omega,show n+2+2*(ts.length:Int)+2=n+2*((ts.length+1:Nat):Int)+2 by omega]
theorem BJ.kin:∀{w:World} {cs:List N5} {base a:Nat} (_:BJ w base a cs) {n:Int},0≤n→n+2*cs.length≤4000000→(∀c ∈ cs,c.i.length≤16777216∧c.s.length≤16777216)→FV w base a 3 1 (Nz n cs)
 |_,[],_,_,_,_,_,_,_=>Fp _ _ _ _ _
 |w,c::cs,base,a,⟨lo,hi,h1,h2,h3,h4⟩,n,n0,n1,hk=>by
  simp only [length_cons] at n1
  have f:=h4.kin (n:=n+2) (by omega) (by omega) fun d e=>hk d (by simp [e])
  have b:=hk c (by simp)
  have:=h4.le
  exact ((h3.kin (n:=n) n0 (by omega) b.1 b.2).app f (by omega) (AU _) (by omega)).wide h1 (AU _)
structure DF (w:World) (lo hi:Nat) (r:Value) (us:List N5):Prop where
 all:BJ w lo hi us
 m:Nx w lo Gw 5 r us.length (GI N5.cells us) [b8 0#8, .slice none 0 0, .slice none 0 0, .int .i64 77, .int .i64 0]
 rb:∀b,r.ownBlock=some b→lo≤b∧b<hi
theorem DF.bs {w a:World} {c b:Nat} {r:Value} {us:List N5} (h:DF w c b r us) (g:Below w.heap.size w a):DF a c b r us:=⟨h.all.bs g,h.m.bs g,h.rb⟩
theorem Ky (us:List N5):(GI N5.cells us).length=us.length*5:=by
 induction us with
 |nil=>rfl
 |cons a us ih=>rw [Kz,length_append,ih,Ed,length_cons];omega
theorem DF.own {w:World} {a b:Nat} {r:Value} {us:List N5} (h:DF w a b r us):w.ownsRow a Gw 5 r us.length (GI N5.cells us):=h.m.own (Ky us)
theorem DF.gn {w:World} {b d:Nat} {r:Value} {us:List N5} (h:DF w b d r us):GN w r us:=⟨AF h.own,fun c a=>⟨(h.all.each c a).tx.sl,(h.all.each c a).ty.sl⟩⟩
theorem Q0:Tryz.prog.built Gw [(3, .int .i64 77)]=some [b8 0#8, .slice none 0 0, .slice none 0 0, .int .i64 77, .int .i64 0].toArray:=by
 have a:Tryz.prog.info? Gw=some Tryz.t79:=by kernel_rfl
 have b:Tryz.prog.info? 3=some Tryz.t3:=by kernel_rfl
 have d:Tryz.prog.info? 77=some Tryz.t77:=by kernel_rfl
 have c:Tryz.prog.info? 70=some Tryz.t70:=by kernel_rfl
 simp [Program.built,a,underlying79,b,d,c,Instr.fill]
 rfl
theorem Sh (a b:List N5):GI N5.cells (a++b)=GI N5.cells a++GI N5.cells b:=by simp [GI]
theorem Mq (v:Value) (ls:List N5) (W:World) (h:GN W v ls) (hb:∀t ∈ ls,t.i.length≤4194304∧t.s.length≤4194304) (hl:ls.length≤2097152):
  AK prog 117 [v] W (fun r s=>Below W.heap.size W s∧∃us,DF s W.heap.size s.heap.size r us∧us.map nl=ls.map nl):=by
 have sv:=h.sl
 refine Az (n:=30) func117 O<|Ad<|Ab O<|Be<|Ac O<|Aa (Ap BE O ‹_›) O ?_
 refine B1 O (by omega)<|Bc (Eg (l:=0) (c:=ls.length+1) BE EJ O O O (by omega) (by omega) (by omega)) O ?_
 rintro r0 w1 ⟨e, -,q, -⟩
 replace e:w1.ownsRow W.heap.size Gw 5 r0 0 []:=e
 refine Ab O<|Bi<|Ab O<|Ak<|An ?_
 refine Bl (S:=(Nat×Value×List N5)) (fun z=>[(0,v),(3,z.2.1),(4, .int .i64 (z.1:Int))]) (fun z s=>z.1≤ls.length∧Below W.heap.size W s∧s.ownsRow W.heap.size Gw 5 z.2.1 z.1 (GI N5.cells z.2.2)∧BJ s W.heap.size s.heap.size z.2.2∧z.2.2.map nl=(ls.take z.1).map nl) (fun z=>ls.length - z.1) ((0,r0,[])) ⟨rfl,rfl,rfl,trivial⟩ ?_ ?_
 ·exact ⟨Nat.zero_le _,q,e,q.size,rfl⟩
 clear e q
 rintro ⟨i,r,us⟩ G ⟨hi,q,e,J,B⟩
 replace hi:i≤ls.length:=hi
 replace e:G.ownsRow W.heap.size Gw 5 r i (GI N5.cells us):=e
 replace J:BJ G W.heap.size G.heap.size us:=J
 replace B:us.map nl=(ls.take i).map nl:=B
 have E:=sv.bs q
 have z2:=q.size
 have lus:us.length=i:=by have:=cngA length B;rw [length_map,length_map,length_take] at this;omega
 refine Ao<|Ad<|Ac O<|Ac O<|Aa (Ap BE O ‹_›) O ?_
 refine Bz O<|Ak<|Aq O ?_ ?_
 ·intro g
  have k:i<ls.length:=by have:=AC g;omega
  obtain ⟨a,U⟩:∃a,a=ls[i]:=⟨_,rfl⟩
  have u:a ∈ ls:=U ▸ getElem_mem k
  have C:=h.cells k
  rw [← U] at C
  refine Bw<|Ao<|An<|Bn<|Ac O<|Ac O<|Ac O<|Aa (Cl BE O O E i O k) O<|Aa (C8 (cs:=a.cells) (EK _) (EH _) O E O (by decide) C) O<|Ai O O (NA a G ((h.each a u).bs q) (hb a u).1 (hb a u).2) ?_
  rintro _ Z ⟨b,x,y,rfl,M⟩
  obtain ⟨c,I⟩:∃c:N5,c=⟨a.k,x,y,a.i,a.s,a.n,a.p⟩:=⟨_,rfl⟩
  rw [← I]
  have X:=bt q b
  have D:=AI e b
  have H3:=J.bs b
  have z3:=b.size
  have V:EL Z G.heap.size Z.heap.size c.x c.y c:=by rw [I];exact ⟨M.tx,M.ty,M.bx,M.by',M.apart⟩
  have Y:c.cells.all (·.oneCell')=true:=by rw [I];exact (M.at a.k a.n a.p).ones
  clear b M
  refine Bc (D8 (cs:=c.cells) BE EJ O O (by decide) (by decide)) O ?_
  rintro p L ⟨w, -,b, -⟩
  have m:=bt X b
  have f:=AI D b
  have T:=H3.bs b
  have V:=V.bs b
  have z4:=b.size
  refine Bc (Cn (base:=W.heap.size) BE EJ O (by decide) O O f (AF w) Y (by omega) (by omega) m.size) O ?_
  rintro N A ⟨d,b,H, -⟩
  have o:=m.trans b
  have z5:=b.size
  have e1:GI N5.cells (us++[c])=GI N5.cells us++c.cells:=by rw [Sh];simp [GI]
  rw [← e1] at d
  have K:AQ L W.heap.size Gw 5 r i (GI N5.cells us):= .inl f
  have R:BJ A W.heap.size A.heap.size (us++[c]):=BJ.top (BJ.snoc (V.awayS K (by decide) H) z3 (T.awayS K (by decide) H) (AU _)) (by omega)
  have Q:(us++[c]).map nl=(ls.take (i+1)).map nl:=by
   rw [map_append,B,take_succ_eq_append_getElem k,map_append,← U,I];rfl
  refine Ab O<|Bd<|Bg<|B6<|Ac O<|B1 O (by omega)<|Ab O<|Bd ?_
  exact Ar (Bp ((i+1,N,us++[c])) ⟨rfl,rfl,rfl,trivial⟩ (⟨k,o,d,R,Q⟩) (by simp only;omega))
 intro g
 have k:i=ls.length:=by have:=AD g;omega
 rw [k,take_length] at B
 refine Bk<|Aj<|Aj<|A0<|Cb<|Ac O<|Aa (C1 (vs:=[(3, .int .i64 77)]) (cs:=[b8 0#8, .slice none 0 0, .slice none 0 0, .int .i64 77, .int .i64 0]) O Q0) O<|Bc (D8 (cs:=[b8 0#8, .slice none 0 0, .slice none 0 0, .int .i64 77, .int .i64 0]) BE EJ O O (by decide) (by decide)) O ?_
 rintro p L ⟨w, -,b, -⟩
 have m:=bt q b
 have f:=AI e b
 have T:=J.bs b
 have z4:=b.size
 refine Bc (Cn (base:=W.heap.size) BE EJ O (by decide) O O f (AF w) O (by omega) (by omega) m.size) O ?_
 rintro N A ⟨d,b,H, -⟩
 have o:=m.trans b
 have z5:=b.size
 have K:AQ L W.heap.size Gw 5 r i (GI N5.cells us):= .inl f
 have R:BJ A W.heap.size A.heap.size us:=BJ.top (T.awayS K (by decide) H) (by omega)
 have F:=AF d
 rw [show i+1=us.length+1 by omega] at d
 have hS:=OX d
 have sv5:=sv.bs o
 have hR:DF A W.heap.size A.heap.size (cut N 5 0 us.length) us:=⟨R,hS,AB (hS.own (Ky us))⟩
 rw [show us.length=ls.length by omega] at hR
 refine Ac O<|Aa (Ap BE O ‹_›) O ?_
 refine Aa (El (j:=ls.length) BE O O F (by omega)) O<|Ab O<|Ay<|As O O ?_
 exact ⟨o,us,hR,B⟩
theorem Sy (x:Value) (c:x.cells=[x].toArray):Tryz.prog.built 24 [(0,x)]=some [x].toArray:=by
 have a:Tryz.prog.info? 24=some Tryz.t24:=by kernel_rfl
 have b:Tryz.prog.info? 22=some Tryz.t22:=by kernel_rfl
 simp [Program.built,a,underlying24,b,Instr.fill,c]
 rfl
theorem DF.by {w d:World} {t p A:Nat} {r:Value} {us:List N5} {T:TypeId} {cs:List Value} (h:DF w t p r us) (g:w.grownBy d (some A)) (b:AP w A T cs) (y:3≠T) (u:Gw≠T):DF d t p r us:=by
 have o:∀{e:TypeId} {sz n:Nat} {v:Value} {xs:List Value} {B:Nat},e≠T→w.ownsRow B e sz v n xs→d.ownsRow B e sz v n xs:=fun j i=>MA i b j g
 have D:∀{cs:List N5} {base a:Nat},BJ w base a cs→BJ d base a cs:=by
  intro cs
  induction cs with
  |nil=>exact fun h=>h
  |cons c cs ih=>
   rintro base a ⟨l,k,x,E,f,C⟩
   have q:∀{z:Value} {s:List Int} {B:Nat},tI w B z s→tI d B z s:=fun ⟨m,cap,e,i⟩=>⟨m,cap,e,o y i⟩
   exact ⟨l,k,x,E,⟨q f.tx,q f.ty,f.bx,f.by',f.apart⟩,ih C⟩
 obtain ⟨m,cap,e,i⟩:=h.m
 exact ⟨D h.all,⟨m,cap,e,o u i⟩,h.rb⟩
theorem DF.wide {w:World} {i j a d:Nat} {r:Value} {us:List N5} (h:DF w i j r us) (f:a≤i) (g:j≤d):DF w a d r us:=by
 obtain ⟨b,cap,e,m⟩:=h.m
 have q:BJ w a d us:=by
  cases hu:us with
  |nil=>have:=h.all;rw [hu] at this;exact Nat.le_trans f (Nat.le_trans this g)
  |cons c cs=>
   have:=h.all
   rw [hu] at this
   obtain ⟨l,k,o,s,p,n⟩:=this
   exact ⟨l,k,Nat.le_trans f o,s,p,BJ.top n g⟩
 exact ⟨q,⟨b,cap,e,BY m f⟩,fun b e=>by have:=h.rb b e;omega⟩
theorem Ms (v:Value) (ls:List N5) (W:World) (h:GN W v ls) (C:∀t ∈ ls,t.i.length≤4194304∧t.s.length≤4194304) (E:ls.length≤2097152):
  AK prog 24 [.agg [v].toArray] W (fun r f=>Below W.heap.size W f∧∃u us,r= .agg [u].toArray∧DF f W.heap.size f.heap.size u us∧us.map nl=ls.map nl):=by
 have d:=Below.refl W.heap.size W
 have B:[v].all (·.oneCell')=true:=by rw [all_cons,h.sl.one'];rfl
 refine Az (n:=7) func24 O<|Ad<|Cr (cs:=[v]) O O O ?_
 rintro D w q c b -
 have d:=d.bs b
 have J:=BA c
 refine Du Vz O ?_
 rintro z w y l b -
 have d:=d.bs b
 have c:=c.bs b
 refine Be<|Ba underlying24 O (BU _)<|Aa (Al (CD _) O ‹_› rfl) O ?_
 have x:=AA d
 refine Ai O O (Mq v ls w (h.bs d) C E) ?_
 rintro u A ⟨b,us,m,F⟩
 have H:=b.size
 have a:=l.bs b
 have g:u.cells=[u].toArray:=(AF m.own).one
 have i:=d.trans (b.mono x)
 refine Aa (C1 (cs:=[u]) O (Sy u g)) O<|Bv (C7 (cs:=[u]) (k:=1) (by kernel_rfl) O O O (by rw [all_cons,(AF m.own).one'];rfl) a O) ?_
 rintro G ⟨s,j,I⟩
 have o:=i.grown j (by omega) (by rintro _ e;have:=Option.some.inj e;omega)
 have p:=(m.by j a (by decide) (by decide)).wide (show W.heap.size≤_ from x) (show A.heap.size≤G.heap.size from j.size)
 refine Ay<|Eh O O ‹_› underlying24 O O O ?_
 exact ⟨o,u,us,rfl,p,F⟩
theorem MM (r v:Value) (us ls:List N5) (U y:Nat) (W:World) (h:DF W U y r us) (H:GN W v ls) (e:us.map nl=ls.map nl):
  AK prog 131 [r,v] W (fun r F=>r= .bool true∧Below W.heap.size W F):=by
 have sv:=H.sl
 have hle:=sv.le
 have V:=AF h.own
 have u:us.length=ls.length:=by have:=cngA length e;simpa using this
 obtain ⟨b,cap,rfl,ho⟩:=h.m
 have hcap:us.length+1≤cap∧cap≤9223372036854775807:=by
  obtain ⟨_,ao,Y,he,h1,h2,_⟩:=AF ho
  cases he;unfold maxLen at h2;exact ⟨h1,by omega⟩
 refine Az (n:=47) func131 O<|Ad<|Ab O<|Bi<|Ac O<|Aa (Ap BE O ‹_›) O ?_
 refine Ac O<|Aa (Ap BE O ‹_›) O ?_
 refine Aa (Ct O O) O<|Ac O<|Cm 12 (v' := .bool false) O (cngA Value.bool ((by simp [u])))<|Ag (dj:=12) O O<|Ac O<|Ag (dj:=12) O O<|Aa (E4 BE O) O<|Ag (dj:=12) O O<|Ac O<|Ag (dj:=12) O O<|Aa (Ap BE O ‹_›) O ?_
 refine Ag (dj:=12) O O<|Aa (Dy O O) O<|Ci O<|Ak<|Bu O false ((by simp;omega))<|Bw<|Ao<|Ad<|Ab O<|Ak<|An ?_
 refine Bl (S:=Nat) (fun k=>[(0, .slice (some ⟨b,0,none⟩) us.length cap),(1,v),(5, .int .i64 (k:Int))]) (fun k F=>k≤ls.length∧Below W.heap.size W F) (fun k=>ls.length - k) (0) ⟨rfl,rfl,rfl,trivial⟩ ?_ ?_
 ·exact ⟨by omega,Below.refl _ _⟩
 rintro k B ⟨hk,f⟩
 have x:=sv.bs f
 have A:=V.bs f
 refine Ao<|Ad<|Ac O<|Ac O<|Aa (Ap BE O ‹_›) O ?_
 refine Bz O<|Ak<|Aq O ?_ ?_
 ·intro g
  have l:k<ls.length:=by have:=AC g;omega
  have o:k<us.length:=by omega
  obtain ⟨a,R⟩:∃a,a=ls[k]:=⟨_,rfl⟩
  obtain ⟨c,L⟩:∃c,c=us[k]:=⟨_,rfl⟩
  have J:a ∈ ls:=R ▸ getElem_mem l
  have G:c ∈ us:=L ▸ getElem_mem o
  have s:=H.cells l
  rw [← R] at s
  have t:=h.gn.cells o
  rw [← L] at t
  have ev:nl c=nl a:=by
   have e1:(us.map nl)[k]? =(ls.map nl)[k]? :=by rw [e]
   rw [getElem?_map,getElem?_map,getElem?_eq_getElem o,getElem?_eq_getElem l,← R,← L] at e1
   exact Option.some.inj e1
  have w:=(h.all.each c G).bs f
  obtain ⟨C,K,I,D,cs,cn,E⟩:=c
  obtain ⟨ak,N,Q,ai,as',an,ap⟩:=a
  simp only [nl,Prod.mk.injEq] at ev
  obtain ⟨rfl,rfl,rfl,rfl,rfl⟩:=ev
  refine Bw<|Ao<|An<|Ao<|Cw.tail 8 BB (by kernel_rfl)<|Bq O<|Bq O<|Ah (fun B m=>Cl BE O O (Sl.bs A m) k O o) O<|Ah (fun B m=>C8 (cs:=(N5.mk C K I D cs cn E).cells) (EK _) (EH _) O (Sl.bs A m) O (by decide) t) O<|Bq O<|Bq O<|Ah (fun B m=>Cl BE O O (Sl.bs x m) k O l) O<|Ah (fun B m=>C8 (cs:=(N5.mk C N Q D cs cn E).cells) (EK _) (EH _) O (Sl.bs x m) O (by decide) s) O ?_
  refine D0 (fun T m=> ?_)
  refine Ai O O (Oi ⟨C,N,Q,D,cs,cn,E⟩ K I U y T (((H.each _ J).bs f).bs m) (show EL T U y K I ⟨C,N,Q,D,cs,cn,E⟩ from ⟨w.tx.bs m,w.ty.bs m,w.bx,w.by',w.apart⟩)) ?_
  rintro _ w3 ⟨rfl,z⟩
  have z:=bt m z
  have M:=bt f z
  refine Aa (Co O) O<|Ak<|Bu O false ((by simp))<|Cj<|Bg<|B6<|Ac O<|B1 O (by omega)<|Ab O<|Bd ?_
  exact Ar (Bp (k+1) ⟨rfl,rfl,rfl,trivial⟩ (⟨by omega,M⟩) (by omega))
 ·intro g
  have l:k=ls.length:=by have:=AD g;omega
  subst l
  have d:=AF (AI ho f)
  have lc:=Ky us
  obtain ⟨mk,p⟩:∃mk,mk=[b8 0#8,Value.slice none 0 0, .slice none 0 0, .int .i64 77, .int .i64 0]:=⟨_,rfl⟩
  have X:∀i,i<5→∃q,mk[i]? =some q∧(GI N5.cells us++mk)[us.length*5+i]? =some q:=fun i y=>by
   have hl:i<mk.length:=by rw [p];exact y
   exact ⟨mk[i],getElem?_eq_getElem hl,by rw [getElem?_append_right (by omega),lc,Nat.add_sub_cancel_left];exact getElem?_eq_getElem hl⟩
  rw [u] at d X
  rw [← p] at d
  refine Bk<|Aj<|Aj<|A0<|Cb<|Ac O<|Ac O<|Aa (Ap BE O ‹_›) O ?_
  refine B1 O (by omega)<|Aa (Ej (j:=ls.length+1) BE O O (by omega)) O<|Ac O<|Aa (Ap BE O ‹_›) O ?_
  refine Aa (Cl BE O O d ls.length O (by omega)) O<|Aa (C8 (cs:=mk) (EK _) (EH _) O d (by rw [p];rfl) (by decide) X) O ?_
  rw [p]
  refine Cz (cs:=[b8 0#8, .slice none 0 0, .slice none 0 0, .int .i64 77, .int .i64 0]) EJ O O O O (fun _=>rfl) (rfl) ?_
  rintro A_m T Z b_m z zhn
  refine Be<|Ba underlying79 O (BC _)<|Aa (Al (AO _) O ‹_› rfl) O ?_
  exact Aa (C6 rfl rfl) rfl<|Ab rfl<|Ay<|As rfl rfl<|⟨cngA Value.bool (by simp),bt f z⟩
theorem MO (r v:Value) (us ls:List N5) (l m:Nat) (W:World) (h:DF W l m r us) (d:GN W v ls) (e:us.map nl=ls.map nl):
  AK prog 30 [.agg [r].toArray, .agg [v].toArray] W (fun r j=>r= .bool true∧Below W.heap.size W j):=by
 have c:=Below.refl W.heap.size W
 refine Az (n:=10) func30 O<|Ad<|Cr (cs:=[r]) O O O ?_
 rintro k w g b a -
 have c:=c.bs a
 have h:=h.bs a
 have d:=d.bs a
 refine Cr (cs:=[v]) O O O ?_
 rintro o w i f a -
 have c:=c.bs a
 have h:=h.bs a
 have d:=d.bs a
 have b:=b.bs a
 refine Ab O<|Be<|Ba underlying24 O (BU _)<|Aa (Al (CD _) O ‹_› rfl) O ?_
 refine Ba underlying24 O (BU _)<|Aa (Al (CD _) O ‹_› rfl) O ?_
 refine Ai O O (MM r v us ls _ _ _ h d e) ?_
 rintro _ w ⟨rfl,a⟩
 have c:=c.bs a
 have h:=h.bs a
 have d:=d.bs a
 have b:=b.bs a
 have f:=f.bs a
 exact Ab rfl<|Ay<|As rfl rfl<|⟨rfl,c⟩
def N5.low (lo:Nat) (t:N5):Prop:=(∀b,t.x.ownBlock=some b→b<lo)∧∀b,t.y.ownBlock=some b→b<lo
theorem Sc {w c:World} {a:Nat} {v:Value} {ls:List N5} (h:GN w v ls) (e:∀b,v.ownBlock=some b→b<a) (d:∀t ∈ ls,t.low a) (g:Below a w c):GN c v ls:=
 ⟨CS h.sl e g,fun t m=>⟨CS (h.each t m).i (d t m).1 g,CS (h.each t m).s (d t m).2 g⟩⟩
end Go.Proofs.YtblbopcaflaldaaGreatDoor

namespace Go.Proofs.YtblbopcaflaldaaGreatDoor
open Go Go.Dd Go.RowKit List Go.Proofs.Tryz
set_option maxRecDepth 100000
theorem Uy (a b:N5):decide (pn a=pn b)=(decide (a.k=b.k) && (decide (a.i=b.i) && (decide (a.s=b.s) && (decide (a.n=b.n) && decide (a.p=b.p))))):=by
 unfold pn
 simp only [Prod.mk.injEq,Bool.decide_and]
theorem NP (a b:N5) (W:World) (d:N5.at W a) (c:N5.at W b):AK prog 212 [a.v,b.v] W (fun r t=>r= .bool (decide (pn a=pn b))∧Below W.heap.size W t):=by
 have h:=Below.refl W.heap.size W
 rw [Uy]
 refine Az (n:=38) func212 O<|Ad<|Cr (cs:=a.cells) O O O ?_
 rintro u w q f e -
 have h:=h.bs e
 have d:=d.bs e
 have c:=c.bs e
 refine Cr (cs:=b.cells) O O O ?_
 rintro v w p i e -
 have h:=h.bs e
 have d:=d.bs e
 have c:=c.bs e
 have f:=f.bs e
 refine Ab O<|Be<|Ba underlying79 O (EA _)<|Aa (Al (ED _) O ‹_› rfl) O ?_
 refine Ba underlying79 O (EA _)<|Aa (Al (ED _) O ‹_› rfl) O ?_
 refine Aa (Ch O O) O<|Ac O ?_
 refine Cc 10 O ?_ ?_
 ·intro g
  have j:=d.i
  have m:=c.i
  refine Ag (dj:=10) O O<|Ba underlying79 O (AT _)<|Ag (dj:=10) O O<|Aa (Al (AN _) O ‹_› rfl) O ?_
  refine Ag (dj:=10) O O<|Ba underlying79 O (AT _)<|Ag (dj:=10) O O<|Aa (Al (AN _) O ‹_› rfl) O ?_
  refine Ag (dj:=10) O O<|Ai O O (HP a.x b.x a.i b.i w d.i c.i) ?_
  rintro _ s ⟨rfl,e⟩
  replace h:=bt h e
  have d:=d.bs e
  have c:=c.bs e
  have f:=f.bs e
  have i:=i.bs e
  clear e j m
  rw [g]
  refine B7 O<|Ac O ?_
  refine Cc 17 O ?_ ?_
  ·intro k
   refine Ag (dj:=17) O O<|Ba underlying79 O (AT _)<|Ag (dj:=17) O O<|Aa (Al (AN _) O ‹_› rfl) O ?_
   refine Ag (dj:=17) O O<|Ba underlying79 O (AT _)<|Ag (dj:=17) O O<|Aa (Al (AN _) O ‹_› rfl) O ?_
   refine Ag (dj:=17) O O<|Ai O O (HP a.y b.y a.s b.s s d.s c.s) ?_
   rintro _ x ⟨rfl,e⟩
   replace h:=bt h e
   have f:=f.bs e
   have i:=i.bs e
   rw [k]
   refine B7 O<|Ac O ?_
   refine Cc 24 O ?_ ?_
   ·intro o
    rw [o]
    refine Ag (dj:=24) O O<|Ba underlying79 O (BC _)<|Ag (dj:=24) O O<|Aa (Al (AO _) O ‹_› rfl) O ?_
    refine Ag (dj:=24) O O<|Ba underlying79 O (BC _)<|Ag (dj:=24) O O<|Aa (Al (AO _) O ‹_› rfl) O ?_
    refine Ag (dj:=24) O O<|Aa (C6 O O) O<|B7 O<|Ac O ?_
    refine Cc 31 O ?_ ?_
    ·intro l
     rw [l]
     refine Ag (dj:=31) O O<|Ba underlying79 O (BC _)<|Ag (dj:=31) O O<|Aa (Al (AO _) O ‹_› rfl) O ?_
     refine Ag (dj:=31) O O<|Ba underlying79 O (BC _)<|Ag (dj:=31) O O<|Aa (Al (AO _) O ‹_› rfl) O ?_
     exact Ag (dj:=31) rfl rfl<|Aa (C6 rfl rfl) rfl<|B7 rfl<|Ab rfl<|Ay<|As rfl rfl<|⟨rfl,h⟩
    intro l
    rw [l]
    exact Ae (dj:=31) rfl rfl rfl rfl<|Ae (dj:=31) rfl rfl rfl rfl<|Ae (dj:=31) rfl rfl rfl rfl<|Ae (dj:=31) rfl rfl rfl rfl<|Ae (dj:=31) rfl rfl rfl rfl<|Ci rfl<|Ab rfl<|Ay<|As rfl rfl<|⟨rfl,h⟩
   intro o
   rw [o]
   exact Ae (dj:=24) rfl rfl rfl rfl<|Ae (dj:=24) rfl rfl rfl rfl<|Ae (dj:=24) rfl rfl rfl rfl<|Ae (dj:=24) rfl rfl rfl rfl<|Ae (dj:=24) rfl rfl rfl rfl<|Ci rfl<|Ac rfl<|Ae (dj:=31) rfl rfl rfl rfl<|Ae (dj:=31) rfl rfl rfl rfl<|Ae (dj:=31) rfl rfl rfl rfl<|Ae (dj:=31) rfl rfl rfl rfl<|Ae (dj:=31) rfl rfl rfl rfl<|Ci rfl<|Ab rfl<|Ay<|As rfl rfl<|⟨rfl,h⟩
  intro k
  rw [k]
  exact Ae (dj:=17) rfl rfl rfl rfl<|Ae (dj:=17) rfl rfl rfl rfl<|Ae (dj:=17) rfl rfl rfl rfl<|Ae (dj:=17) rfl rfl rfl rfl<|Ae (dj:=17) rfl rfl rfl rfl<|Ci rfl<|Ac rfl<|Ae (dj:=24) rfl rfl rfl rfl<|Ae (dj:=24) rfl rfl rfl rfl<|Ae (dj:=24) rfl rfl rfl rfl<|Ae (dj:=24) rfl rfl rfl rfl<|Ae (dj:=24) rfl rfl rfl rfl<|Ci rfl<|Ac rfl<|Ae (dj:=31) rfl rfl rfl rfl<|Ae (dj:=31) rfl rfl rfl rfl<|Ae (dj:=31) rfl rfl rfl rfl<|Ae (dj:=31) rfl rfl rfl rfl<|Ae (dj:=31) rfl rfl rfl rfl<|Ci rfl<|Ab rfl<|Ay<|As rfl rfl<|⟨rfl,h⟩
 intro g
 rw [g]
 exact Ae (dj:=10) rfl rfl rfl rfl<|Ae (dj:=10) rfl rfl rfl rfl<|Ae (dj:=10) rfl rfl rfl rfl<|Ae (dj:=10) rfl rfl rfl rfl<|Ae (dj:=10) rfl rfl rfl rfl<|Ci rfl<|Ac rfl<|Ae (dj:=17) rfl rfl rfl rfl<|Ae (dj:=17) rfl rfl rfl rfl<|Ae (dj:=17) rfl rfl rfl rfl<|Ae (dj:=17) rfl rfl rfl rfl<|Ae (dj:=17) rfl rfl rfl rfl<|Ci rfl<|Ac rfl<|Ae (dj:=24) rfl rfl rfl rfl<|Ae (dj:=24) rfl rfl rfl rfl<|Ae (dj:=24) rfl rfl rfl rfl<|Ae (dj:=24) rfl rfl rfl rfl<|Ae (dj:=24) rfl rfl rfl rfl<|Ci rfl<|Ac rfl<|Ae (dj:=31) rfl rfl rfl rfl<|Ae (dj:=31) rfl rfl rfl rfl<|Ae (dj:=31) rfl rfl rfl rfl<|Ae (dj:=31) rfl rfl rfl rfl<|Ae (dj:=31) rfl rfl rfl rfl<|Ci rfl<|Ab rfl<|Ay<|As rfl rfl<|⟨rfl,h⟩
theorem Mx (u v:Value) (xs f:List N5) (W:World) (q:GN W u xs) (x:GN W v f):AK prog 130 [u,v] W (fun r p=>r= .bool (decide (xs.map pn=f.map pn))∧Below W.heap.size W p):=by
 have y:=q.1
 have D:=x.1
 have T:=q.1.le
 refine Az (n:=27) func130 O<|Ad<|Ab O<|Bi<|Ac O<|Aa (Ap BE O ‹_›) O ?_
 refine Ac O<|Aa (Ap BE O ‹_›) O ?_
 refine Aa (Ct O O) O<|Ak<|Aq O ?_ ?_
 ·intro g
  have C:¬xs.length=f.length:=fun e=>by rw [e] at g;simp at g
  refine Ad<|Ab O<|B2<|As O O ?_
  exact ⟨by rw [decide_eq_false fun e=>C (by have:=cngA length e;simpa using this)],Below.refl _ _⟩
 intro g
 have C:xs.length=f.length:=by simp at g;omega
 refine Bw<|Ao<|Ad<|Ab O<|Ak<|An ?_
 refine Bl (S:=Nat) (fun i=>[(0,u),(1,v),(5, .int .i64 (i:Int))]) (fun i p=>i≤xs.length∧(xs.take i).map pn=(f.take i).map pn∧Below W.heap.size W p) (fun i=>xs.length - i) (0) ⟨rfl,rfl,rfl,trivial⟩ ?_ ?_
 ·exact ⟨Nat.zero_le _,rfl,Below.refl _ _⟩
 rintro i d ⟨U,E,m⟩
 have y:=q.1.bs m
 have D:=x.1.bs m
 refine Ao<|Ad<|Ac O<|Ac O<|Aa (Ap BE O ‹_›) O ?_
 refine Bz O<|Ak<|Aq O ?_ ?_
 ·intro h
  have c:i<xs.length:=by have:=AC h;omega
  have k:i<f.length:=by omega
  obtain ⟨a,w⟩:∃a,a=xs[i]:=⟨_,rfl⟩
  obtain ⟨b,t⟩:∃b,b=f[i]:=⟨_,rfl⟩
  have G:=q.cells c
  have H:=x.cells k
  rw [← w] at G
  rw [← t] at H
  have B:=(q.2 a (w ▸ getElem_mem c)).bs m
  have z:=(x.2 b (t ▸ getElem_mem k)).bs m
  have N:(xs.take (i+1)).map pn=(xs.take i).map pn++[pn a]:=by rw [take_succ_eq_append_getElem c,map_append,← w];rfl
  have K:(f.take (i+1)).map pn=(f.take i).map pn++[pn b]:=by rw [take_succ_eq_append_getElem k,map_append,← t];rfl
  refine Bw<|Ao<|An<|Ao ?_
  refine Cw.any BB (fun Q o _=> ?_)
  refine Dg (fun p=>Below d.heap.size d p) (fun R=> ?_) (o)
  refine Cf (Am (Bf (Am (Am (Bf (Am Br))))))<|Af 0 O (fun d j=>B4 O) O<|Af 1 O (fun d j=>B4 O) O<|Af 2 O (fun d j=>Cl BE O O (y.bs j) i O c) O<|Af 3 O (fun d j=>C8 (cs:=a.cells) (EK _) (EH _) O (y.bs j) O (by decide) G) O<|Af 4 O (fun d j=>B4 O) O<|Af 5 O (fun d j=>B4 O) O<|Af 6 O (fun d j=>Cl BE O O (D.bs j) i O k) O<|Af 7 O (fun d j=>C8 (cs:=b.cells) (EK _) (EH _) O (D.bs j) O (by decide) H) O<|B5<|AR.only ‹_› (i:=8) (by kernel_rfl) O ?_
  refine Ai O O (NP a b Q (B.bs o) (z.bs o)) ?_
  rintro _ J ⟨rfl,M⟩
  have A:Below d.heap.size d J:=o.trans (M.mono o.size)
  have s:=m.trans (A.mono (AA m))
  refine AR.back<|Cf (Am (Bf (Am (Am (Bf (Am Br))))))<|Af 9 O (fun d j=>Co O) O<|B5<|Cq ‹_› (by kernel_rfl) ?_
  refine Ar<|B9<|Aq O ?_ ?_
  ·intro l
   have l:¬pn a=pn b:=by simpa using l
   refine Ad<|Ab O<|Ay<|Bj<|Av<|Av<|Bj<|Av<|As O O ?_
   refine ⟨?_,s⟩
   rw [decide_eq_false fun e=>l ?_]
   have F:(xs.map pn)[i]? =some (pn a):=by rw [getElem?_map,getElem?_eq_getElem c,← w];rfl
   have I:(f.map pn)[i]? =some (pn b):=by rw [getElem?_map,getElem?_eq_getElem k,← t];rfl
   rw [e,I] at F
   exact (Option.some.inj F).symm
  intro l
  have l:pn a=pn b:=by simpa using l
  refine Cj<|Bg<|B6<|Ac O<|B1 O (by omega)<|Ab O<|Bd ?_
  exact Ar (Bp (i+1) ⟨rfl,rfl,rfl,trivial⟩ (⟨c,by rw [N,K,E,l],s⟩) (by omega))
 intro h
 have c:i=xs.length:=by have:=AD h;omega
 subst c
 have L:f.take xs.length=f:=by rw [C,take_length]
 rw [take_length,L] at E
 exact Bk<|Aj<|Aj<|A0<|Cb<|Ab rfl<|Ay<|As rfl rfl<|⟨by rw [decide_eq_true E],m⟩
theorem My (u v:Value) (xs f:List N5) (W:World) (d:GN W u xs) (c:GN W v f):AK prog 29 [.agg [u].toArray, .agg [v].toArray] W (fun r j=>r= .bool (decide (xs.map pn=f.map pn))∧Below W.heap.size W j):=by
 have e:=Below.refl W.heap.size W
 refine Az (n:=10) func29 O<|Ad<|Cr (cs:=[u]) O O O ?_
 rintro l w g b a -
 have e:=e.bs a
 have d:=d.bs a
 have c:=c.bs a
 refine Cr (cs:=[v]) O O O ?_
 rintro i w h k a -
 have e:=e.bs a
 have d:=d.bs a
 have c:=c.bs a
 have b:=b.bs a
 refine Ab O<|Be<|Ba underlying24 O (BU _)<|Aa (Al (CD _) O ‹_› rfl) O ?_
 refine Ba underlying24 O (BU _)<|Aa (Al (CD _) O ‹_› rfl) O ?_
 refine Ai O O (Mx u v xs f w d c) ?_
 rintro _ m ⟨rfl,a⟩
 exact Ab rfl<|Ay<|As rfl rfl<|⟨rfl,bt e a⟩
theorem Tf (a b:T4) (W:World) (c:a.at W) (d:b.at W):AK prog 165 [a.v,b.v] W (fun r p=>r= .bool (decide (pv a=pv b))∧Below W.heap.size W p):=by
 have i:=Below.refl W.heap.size W
 have x:decide (pv a=pv b)=(decide (a.s=b.s) && decide (a.l=b.l)):=by
  rw [← Bool.decide_and]
  exact decide_eq_decide.2 ⟨fun h=>⟨cngA (·.1) h,cngA (·.2) h⟩,fun ⟨s,q⟩=>by unfold pv;rw [s,q]⟩
 rw [x]
 refine Az (n:=17) func165 O<|Ad<|Cr (cs:=[a.x,a.y]) O O O ?_
 rintro u w m f e -
 have i:=i.bs e
 have c:=c.bs e
 have d:=d.bs e
 refine Cr (cs:=[b.x,b.y]) O O O ?_
 rintro v w l j e -
 have i:=i.bs e
 have c:=c.bs e
 have d:=d.bs e
 have f:=f.bs e
 refine Ab O<|Be<|Ba underlying75 O (AT _)<|Aa (Al (AN _) O ‹_› rfl) O ?_
 refine Ba underlying75 O (AT _)<|Aa (Al (AN _) O ‹_› rfl) O ?_
 have y:=c.1
 have t:=c.2
 refine Ai O O (HP a.x b.x a.s b.s w c.1 d.1) ?_
 rintro _ o ⟨rfl,e⟩
 have f:=f.bs e
 have j:=j.bs e
 have i:=bt i e
 have c:=c.bs e
 have d:=d.bs e
 refine Ac O ?_
 refine Cc 10 O ?_ ?_
 ·intro g
  refine Ag (dj:=10) O O<|Ba underlying75 O (CW _)<|Ag (dj:=10) O O<|Aa (Al (DC _) O ‹_› rfl) O ?_
  refine Ag (dj:=10) O O<|Ba underlying75 O (CW _)<|Ag (dj:=10) O O<|Aa (Al (DC _) O ‹_› rfl) O ?_
  refine Ag (dj:=10) O O<|Ai O O (KC a.y b.y a.l b.l o c.2 d.2) ?_
  rintro _ z ⟨rfl,k⟩
  exact B7 rfl<|Ab rfl<|Ay<|As rfl rfl<|⟨by rw [g,Bool.true_and],bt i k⟩
 intro g
 refine Ae (dj:=10) O O O O<|Ae (dj:=10) O O O O<|Ae (dj:=10) O O O O<|Ae (dj:=10) O O O O<|Ae (dj:=10) O O O O<|Ci O<|Ab O<|Ay<|As O O ?_
 exact ⟨by rw [g];rfl,i⟩
theorem Rp (u v:Value) (xs f:List T4) (W:World) (t:EM W u xs) (E:EM W v f):AK prog 67 [u,v] W (fun r p=>r= .bool (decide (xs.map pv=f.map pv))∧Below W.heap.size W p):=by
 have x:=t.1
 have C:=E.1
 have T:=t.1.le
 refine Az (n:=27) func67 O<|Ad<|Ab O<|Bi<|Ac O<|Aa (Ap BK O ‹_›) O ?_
 refine Ac O<|Aa (Ap BK O ‹_›) O ?_
 refine Aa (Ct O O) O<|Ak<|Aq O ?_ ?_
 ·intro g
  have B:¬xs.length=f.length:=fun e=>by rw [e] at g;simp at g
  refine Ad<|Ab O<|B2<|As O O ?_
  exact ⟨by rw [decide_eq_false fun e=>B (by have:=cngA length e;simpa using this)],Below.refl _ _⟩
 intro g
 have B:xs.length=f.length:=by simp at g;omega
 refine Bw<|Ao<|Ad<|Ab O<|Ak<|An ?_
 refine Bl (S:=Nat) (fun i=>[(0,u),(1,v),(5, .int .i64 (i:Int))]) (fun i p=>i≤xs.length∧(xs.take i).map pv=(f.take i).map pv∧Below W.heap.size W p) (fun i=>xs.length - i) (0) ⟨rfl,rfl,rfl,trivial⟩ ?_ ?_
 ·exact ⟨Nat.zero_le _,rfl,Below.refl _ _⟩
 rintro i d ⟨U,D,m⟩
 have x:=t.1.bs m
 have C:=E.1.bs m
 refine Ao<|Ad<|Ac O<|Ac O<|Aa (Ap BK O ‹_›) O ?_
 refine Bz O<|Ak<|Aq O ?_ ?_
 ·intro h
  have c:i<xs.length:=by have:=AC h;omega
  have k:i<f.length:=by omega
  obtain ⟨a,w⟩:∃a,a=xs[i]:=⟨_,rfl⟩
  obtain ⟨b,s⟩:∃b,b=f[i]:=⟨_,rfl⟩
  have G:=HO c
  have H:=HO k
  rw [← w] at G
  rw [← s] at H
  have A:=(t.2 a (w ▸ getElem_mem c)).bs m
  have y:=(E.2 b (s ▸ getElem_mem k)).bs m
  have N:(xs.take (i+1)).map pv=(xs.take i).map pv++[pv a]:=by rw [take_succ_eq_append_getElem c,map_append,← w];rfl
  have K:(f.take (i+1)).map pv=(f.take i).map pv++[pv b]:=by rw [take_succ_eq_append_getElem k,map_append,← s];rfl
  refine Bw<|Ao<|An<|Ao ?_
  refine Cw.any BB (fun Q o _=> ?_)
  refine Dg (fun p=>Below d.heap.size d p) (fun R=> ?_) (o)
  refine Cf (Am (Bf (Am (Am (Bf (Am Br))))))<|Af 0 O (fun d j=>B4 O) O<|Af 1 O (fun d j=>B4 O) O<|Af 2 O (fun d j=>Cl BK O O (x.bs j) i O c) O<|Af 3 O (fun d j=>C8 (cs:=[a.x,a.y]) (FZ _) (FX _) O (x.bs j) O (by decide) G) O<|Af 4 O (fun d j=>B4 O) O<|Af 5 O (fun d j=>B4 O) O<|Af 6 O (fun d j=>Cl BK O O (C.bs j) i O k) O<|Af 7 O (fun d j=>C8 (cs:=[b.x,b.y]) (FZ _) (FX _) O (C.bs j) O (by decide) H) O<|B5<|AR.only ‹_› (i:=8) (by kernel_rfl) O ?_
  refine Ai O O (Tf a b Q (A.bs o) (y.bs o)) ?_
  rintro _ J ⟨rfl,M⟩
  have z:Below d.heap.size d J:=o.trans (M.mono o.size)
  have q:=m.trans (z.mono (AA m))
  refine AR.back<|Cf (Am (Bf (Am (Am (Bf (Am Br))))))<|Af 9 O (fun d j=>Co O) O<|B5<|Cq ‹_› (by kernel_rfl) ?_
  refine Ar<|B9<|Aq O ?_ ?_
  ·intro l
   have l:¬pv a=pv b:=by simpa using l
   refine Ad<|Ab O<|Ay<|Bj<|Av<|Av<|Bj<|Av<|As O O ?_
   refine ⟨?_,q⟩
   rw [decide_eq_false fun e=>l ?_]
   have F:(xs.map pv)[i]? =some (pv a):=by rw [getElem?_map,getElem?_eq_getElem c,← w];rfl
   have I:(f.map pv)[i]? =some (pv b):=by rw [getElem?_map,getElem?_eq_getElem k,← s];rfl
   rw [e,I] at F
   exact (Option.some.inj F).symm
  intro l
  have l:pv a=pv b:=by simpa using l
  refine Cj<|Bg<|B6<|Ac O<|B1 O (by omega)<|Ab O<|Bd ?_
  exact Ar (Bp (i+1) ⟨rfl,rfl,rfl,trivial⟩ (⟨c,by rw [N,K,D,l],q⟩) (by omega))
 intro h
 have c:i=xs.length:=by have:=AD h;omega
 subst c
 have L:f.take xs.length=f:=by rw [B,take_length]
 rw [take_length,L] at D
 exact Bk<|Aj<|Aj<|A0<|Cb<|Ab rfl<|Ay<|As rfl rfl<|⟨by rw [decide_eq_true D],m⟩
theorem IY (u v i j:Value) (xs l:List N5) (ts us:List T4) (W:World) (f:GN W u xs) (h:GN W v l) (d:EM W i ts) (hs:EM W j us):AK prog 17 [.agg [u,i].toArray, .agg [v,j].toArray] W (fun r q=>r= .bool (decide (xs.map pn=l.map pn) && decide (ts.map pv=us.map pv))∧Below W.heap.size W q):=by
 have c:=Below.refl W.heap.size W
 refine Az (n:=17) func17 O<|Ad<|Cr (cs:=[u,i]) O O O ?_
 rintro t w m b a -
 have c:=c.bs a
 have f:=f.bs a
 have h:=h.bs a
 have d:=d.bs a
 have hs:=hs.bs a
 refine Cr (cs:=[v,j]) O O O ?_
 rintro s w o e a -
 have c:=c.bs a
 have f:=f.bs a
 have h:=h.bs a
 have d:=d.bs a
 have hs:=hs.bs a
 have b:=b.bs a
 refine Ab O<|Be<|Ba underlying27 O (BX _)<|Aa (D3 (ds:=[u]) (Gx _) (BX _) O O ‹_› rfl) O ?_
 refine Ba underlying27 O (BX _)<|Aa (D3 (ds:=[v]) (Gx _) (BX _) O O ‹_› rfl) O ?_
 refine Ai O O (My u v xs l w f h) ?_
 rintro _ p ⟨rfl,a⟩
 replace c:=bt c a
 have d:=d.bs a
 have hs:=hs.bs a
 have b:=b.bs a
 have e:=e.bs a
 refine Ac O ?_
 refine Cc 10 O ?_ ?_
 ·intro g
  refine Ag (dj:=10) O O<|Ba underlying27 O (CF _)<|Ag (dj:=10) O O<|Aa (Al (DD _) O ‹_› rfl) O ?_
  refine Ag (dj:=10) O O<|Ba underlying27 O (CF _)<|Ag (dj:=10) O O<|Aa (Al (DD _) O ‹_› rfl) O ?_
  refine Ag (dj:=10) O O<|Ai O O (Rp i j ts us p d hs) ?_
  rintro _ x ⟨rfl,k⟩
  rw [g]
  exact B7 rfl<|Ab rfl<|Ay<|As rfl rfl<|⟨rfl,bt c k⟩
 intro g
 rw [g]
 exact Ae (dj:=10) rfl rfl rfl rfl<|Ae (dj:=10) rfl rfl rfl rfl<|Ae (dj:=10) rfl rfl rfl rfl<|Ae (dj:=10) rfl rfl rfl rfl<|Ae (dj:=10) rfl rfl rfl rfl<|Ci rfl<|Ab rfl<|Ay<|As rfl rfl<|⟨rfl,c⟩
theorem MN (r l v u:Value) (us ls:List N5) (ts ws:List T4) (s o f i:Nat) (W:World) (h:DF W s o r us) (g:GN W v ls) (e:us.map nl=ls.map nl) (k:DQ W f i l ts) (c:EM W u ws) (A:ts.map vl=ws.map vl):
  AK prog 18 [.agg [r,l].toArray, .agg [v,u].toArray] W (fun r y=>r= .bool true∧Below W.heap.size W y):=by
 have d:=Below.refl W.heap.size W
 refine Az (n:=17) func18 O<|Ad<|Cr (cs:=[r,l]) O O O ?_
 rintro t w p b a -
 have d:=d.bs a
 have h:=h.bs a
 have g:=g.bs a
 have k:=k.bs a
 have c:=c.bs a
 refine Cr (cs:=[v,u]) O O O ?_
 rintro z w q j a -
 have d:=d.bs a
 have h:=h.bs a
 have g:=g.bs a
 have k:=k.bs a
 have c:=c.bs a
 have b:=b.bs a
 refine Ab O<|Be<|Ba underlying27 O (BX _)<|Aa (D3 (ds:=[r]) (Gx _) (BX _) O O ‹_› rfl) O ?_
 refine Ba underlying27 O (BX _)<|Aa (D3 (ds:=[v]) (Gx _) (BX _) O O ‹_› rfl) O ?_
 refine Ai O O (MO r v us ls s o w h g e) ?_
 rintro _ x ⟨rfl,a⟩
 replace d:=bt d a
 have k:=k.bs a
 have c:=c.bs a
 have b:=b.bs a
 have j:=j.bs a
 refine Ac O<|Cm 10 (v' := .bool true) O (cngA Value.bool (rfl))<|Ag (dj:=10) O O<|Ba underlying27 O (CF _)<|Ag (dj:=10) O O<|Aa (Al (DD _) O ‹_› rfl) O ?_
 refine Ag (dj:=10) O O<|Ba underlying27 O (CF _)<|Ag (dj:=10) O O<|Aa (Al (DD _) O ‹_› rfl) O ?_
 refine Ag (dj:=10) O O<|Ai O O (RE l u ts ws f i x k c A) ?_
 rintro _ B ⟨rfl,m⟩
 exact B7 rfl<|Ab rfl<|Ay<|As rfl rfl<|⟨rfl,bt d m⟩
def UV (w w' :World):Prop:=∀b cs,AP w b 27 cs→AP w' b 27 cs
theorem Ph {w a:World} {p A:Nat} {n:Int} {o q r m f:List Hd} {g d un l j:Value} (h:Bm w p A n o q r m f g d un l j) (c:BR (fun b=>b=A∨d.ownBlock=some b) w a):UV w a:=fun b cs k=>k.chg c fun e=>by
 rcases e with rfl|e
 ·exact absurd (BM h.box k) (by decide)
 ·obtain ⟨ds,i⟩:=AQ.ty (.inl h.oi) e
  exact absurd (BM i k) (by decide)
theorem R6 {w a:World} {p A:Nat} {n:Int} {o q r l f:List Hd} {g m un j d:Value} (h:Bm w p A n o q r l f g m un j d) (c:BR (fun b=>b=A∨d.ownBlock=some b) w a):UV w a:=fun b cs k=>k.chg c fun e=>by
 rcases e with rfl|e
 ·exact absurd (BM h.box k) (by decide)
 ·obtain ⟨ds,i⟩:=AQ.ty (.inl h.od) e
  exact absurd (BM i k) (by decide)
theorem OH (w:World) (i A:Nat) (n:Int) (s H v q l:List Hd) (z M un u p a x y c d:Value) (k m:Nat) (xs B:List Value) (h:Bm w i A n s H v q l z M un u p) (W:Sl w 1 x k xs) (U:Sl w 1 y m B) (E:∀b,y.ownBlock=some b→b<i) (Z:n≤3999990):
  AK prog 214 [.pointer (some ⟨A,0,none⟩), .agg #[a,x,y,c,d]] w (fun r C=>r= .tuple #[]∧Below i w C∧UV w C∧∃g,Bm C i A (n+2) s (H++[BS x k xs (n+1),BS y m B (n+2)]) v q l z g un u p):=by
 refine Az (n:=12) func214 O<|Ad<|Bc (Xw.box (cs:=[a,x,y,c,d]) O O) O ?_
 rintro _ I ⟨rfl,b,f,R⟩
 have t:=h.bs f
 have V:UV w I:=fun b cs k=>k.bs f
 have hs:=h.size
 have X:=BA h.box
 have G:=AB h.oi
 refine Be<|Ac O<|Ba underlying79 O (AT _)<|Aa (Al (AN _) O ‹_› rfl) O ?_
 refine Ai O O (Ia I i A n s H v q l z M un u p x k xs t (W.bs f) (by omega)) ?_
 rintro _ L ⟨rfl,F,g,o⟩
 have N:=Ph t F
 have l2:=t.low (fun b e=>(AB t.oi b e).1) F
 have D:Sl L 1 y m B:=(U.bs f).keep fun b _ e=>l2.block b (E b e)
 have b2:=b.chg F (fun e=>by
  rcases e with e|e
  ·omega
  ·have:=(G _ e).2;omega)
 refine Ak<|Bn<|Ac O<|Ba underlying79 O (AT _)<|Aa (Al (AN _) O ‹_› rfl) O ?_
 refine Ai O O (Ia L i A (n+1) s _ v q l z g un u p y m B o D (by omega)) ?_
 rintro _ Y ⟨rfl,J,j,K⟩
 have Q:=Ph o J
 have T:=o.low (fun b e=>(AB o.oi b e).1) J
 have S:n+1+1=n+2:=by omega
 rw [S,append_assoc] at K
 exact Bd<|Cu rfl<|⟨rfl,((f.mono (Nat.le_of_lt hs)).trans l2).trans T,fun b cs k=>Q b cs (N b cs (V b cs k)),j,K⟩
theorem Nq (w:World) (f A:Nat) (n:Int) (B E F x s:List Hd) (G Y un D H v:Value) (ls:List N5) (h:Bm w f A n B E F x s G Y un D H) (W:GN w v ls) (J:∀b,v.ownBlock=some b→b<f) (j:∀t ∈ ls,t.low f) (hf:n+2*ls.length≤3999980):
  AK prog 132 [.pointer (some ⟨A,0,none⟩),v] w (fun r l=>r= .tuple #[]∧Below f w l∧UV w l∧∃L m,Bm l f A (n+2*ls.length+1) B (E++Nz n ls) F x (s++[BS v ls.length (GI N5.cells ls) (n+2*ls.length+1)]) G L un D m):=by
 have sv:=W.sl
 have hnn:=h.many
 refine Az (n:=20) func132 O<|Ao<|Ad<|Ab O<|Ak<|An ?_
 refine Bl (S:=(Nat×Value)) (fun z=>[(0, .pointer (some ⟨A,0,none⟩)),(1,v),(4, .int .i64 (z.1:Int))]) (fun z l=>z.1≤ls.length∧Below f w l∧UV w l∧Bm l f A (n+2*z.1) B (E++Nz n (ls.take z.1)) F x s G z.2 un D H) (fun z=>ls.length - z.1) ((0,Y)) ⟨rfl,rfl,rfl,trivial⟩ ?_ ?_
 ·exact ⟨Nat.zero_le _,Below.refl _ _,fun _ _ k=>k,by simpa [Nz] using h⟩
 rintro ⟨i,R⟩ X ⟨K,T,U,p⟩
 dsimp only at K p ⊢
 have o:=Sc W J j T
 have q:=o.sl
 refine Ao<|Ad<|Ac O<|Ac O<|Aa (Ap BE O ‹_›) O ?_
 refine Bz O<|Ak<|Aq O ?_ ?_
 ·intro g
  have c:i<ls.length:=by have:=AC g;omega
  obtain ⟨a,Q⟩:∃a,a=ls[i]:=⟨_,rfl⟩
  have y:a ∈ ls:=Q ▸ getElem_mem c
  have u:=o.cells c
  rw [← Q] at u
  have C:=o.each a y
  refine Bw<|Ao<|An<|Bn<|Ac O<|Ac O<|Ac O<|Aa (Cl BE O O q i O c) O<|Aa (C8 (cs:=a.cells) (EK _) (EH _) O q O (by decide) u) O<|Ai O O (OH X f A (n+2*i) B _ F x s G R un D H (b8 a.k) a.x a.y (.int .i64 a.n) (.int .i64 a.p) a.i.length a.s.length _ _ p C.i C.s (j a y).2 (by omega)) ?_
  rintro _ w3 ⟨rfl,N,I,M,d⟩
  have eI:E++Nz n (ls.take (i+1))=E++Nz n (ls.take i)++[BS a.x a.i.length (a.i.map (Value.int .i64)) (n+2*i+1),BS a.y a.s.length (a.s.map (Value.int .i64)) (n+2*i+2)]:=by
   rw [take_succ_eq_append_getElem c,MY,← Q,length_take,Nat.min_eq_left (by omega),append_assoc]
  have eK:n+2*(i:Int)+2=n+2*((i+1:Nat):Int):=by omega
  rw [← eI,eK] at d
  refine Bd<|Bg<|B6<|Ac O<|B1 O (by omega)<|Ab O<|Bd ?_
  exact Ar (Bp ((i+1,M)) ⟨rfl,rfl,rfl,trivial⟩ (⟨c,T.trans N,fun b cs k=>I b cs (U b cs k),d⟩) (by simp only;omega))
 intro g
 have c:i=ls.length:=by have:=AD g;omega
 subst c
 rw [take_length] at p
 refine Bk<|Aj<|Aj<|A0<|B6<|Ac O<|Ac O<|Ai O O (Nu X f A (n+2*ls.length) B _ F x s G R un D H v ls.length (GI N5.cells ls) p q (by omega)) ?_
 rintro _ w3 ⟨rfl,V,m,d⟩
 have l3:=p.low (fun b e=>(AB p.od b e).1) V
 have Z:=R6 p V
 exact Bd<|Cu rfl<|⟨rfl,T.trans l3,fun b cs k=>Z b cs (U b cs k),R,m,d⟩
theorem Ns (w:World) (e A:Nat) (n:Int) (p u a m i:List Hd) (x D un s B v:Value) (ls:List N5) (h:Bm w e A n p u a m i x D un s B) (y:GN w v ls) (q:∀b,v.ownBlock=some b→b<e) (f:∀t ∈ ls,t.low e) (H:n+2*ls.length≤3999980):
  AK prog 31 [.pointer (some ⟨A,0,none⟩), .agg [v].toArray] w (fun r j=>r= .tuple #[]∧Below e w j∧UV w j∧∃d c,Bm j e A (n+2*ls.length+1) p (u++Nz n ls) a m (i++[BS v ls.length (GI N5.cells ls) (n+2*ls.length+1)]) x d un s c):=by
 have z:=h.size
 have g:=Below.refl w.heap.size w
 refine Az (n:=8) func31 O<|Ad<|Cr (cs:=[v]) O O O ?_
 rintro F w C I a -
 have g:=g.bs a
 have h:=h.bs a
 have y:=y.bs a
 clear a
 refine Ak<|Bn<|Ac O<|Ba underlying24 O (BU _)<|Aa (Al (CD _) O ‹_› rfl) O ?_
 have l:=g.mono (Nat.le_of_lt z)
 refine Ai O O (Nq w e A n p u a m i x D un s B v ls h y q f H) ?_
 rintro _ J ⟨rfl,o,E,d,c,G⟩
 exact Bd<|Cu rfl<|⟨rfl,l.trans o,fun b cs k=>E b cs (k.bs g),d,c,G⟩
theorem Nr (w:World) (e A:Nat) (n:Int) (l F c k o:List Hd) (m Q un C L v u:Value) (ls:List N5) (ts:List T4) (h:Bm w e A n l F c k o m Q un C L) (H:GN w v ls) (x:∀b,v.ownBlock=some b→b<e) (g:∀t ∈ ls,t.low e) (D:EM w u ts) (j:∀b,u.ownBlock=some b→b<e) (a:∀t ∈ ts,t.low e) (W:n+2*ls.length+1+2*ts.length≤3999900):
  AK prog 20 [.pointer (some ⟨A,0,none⟩), .agg [v,u].toArray] w (fun r K=>r= .tuple #[]∧Below e w K∧∃f B y d,Bm K e A (n+2*ls.length+1+2*ts.length+1) l (F++Nz n ls++Po (n+2*ls.length+1) ts) (c++Pn (n+2*ls.length+1) ts) (k++[BS u ts.length (cellsOf ts) (n+2*ls.length+1+2*ts.length+1)]) (o++[BS v ls.length (GI N5.cells ls) (n+2*ls.length+1)]) m f B y d):=by
 have z:=h.size
 have J:=Below.refl w.heap.size w
 refine Az (n:=12) func20 O<|Ad<|Cr (cs:=[v,u]) O O O ?_
 rintro U w M I c -
 have J:=J.bs c
 have h:=h.bs c
 have H:=H.bs c
 have D:=D.bs c
 clear c
 refine Be<|Ac O<|Ba underlying27 O (BX _)<|Aa (D3 (ds:=[v]) (Gx _) (BX _) O O ‹_› rfl) O ?_
 have q:=J.mono (Nat.le_of_lt z)
 refine Ai O O (Ns w e A n l F c k o m Q un C L v ls h H x g (by omega)) ?_
 rintro _ R ⟨rfl,i,T,f,d,V⟩
 have N:=T _ _ I
 refine Ak<|Bn<|Ac O<|Ba underlying27 O (CF _)<|Aa (Al (DD _) O ‹_› rfl) O ?_
 refine Ai O O (KL R e A (n+2*ls.length+1) l _ c k _ m f un C d u ts V (JG D j a i) j a (by omega)) ?_
 rintro _ X ⟨rfl,E,G,s,p,S⟩
 exact Bd<|Cu rfl<|⟨rfl,(q.trans i).trans E,G,s,p,d,S⟩

def JY (x:N5):List (BitVec 8):=x.k::(BI x.i++BI x.s++[BitVec.ofInt 8 x.n,BitVec.ofInt 8 x.p])
def DV (ls:List N5):List (BitVec 8):=(ls.map JY).flatten
def FC (ws:List T4):List (BitVec 8):=(ws.map fun t=>CG t.l).flatten
def Hb (ls:List N5) (ws:List T4):List (BitVec 8):=BitVec.ofInt 8 (ls.length:Int)::(DV ls++FC ws)
def NZ (ls:List N5) (ws:List T4):List (BitVec 8):=Hb ls ws++Crc.four (Crc.of (Hb ls ws))
def I0 (ls:List N5) (ws:List T4):Int:=if GB ls ws then 0 else 1
def Hs (ls:List N5) (ws:List T4):List (BitVec 8):=if GB ls ws then NZ ls ws else []
theorem PT (x:N5):(JY x).length=x.i.length+x.s.length+5:=by simp [JY,BI];omega
theorem FT (s:List Int):(BI s).length=1+s.length:=by simp [BI];omega
theorem JX (a b:List N5):DV (a++b)=DV a++DV b:=by simp [DV]
theorem La (a b:List T4):FC (a++b)=FC a++FC b:=by simp [FC]
theorem JW (x:N5):DV [x]=JY x:=by simp [DV]
theorem KZ (t:T4):FC [t]=CG t.l:=by simp [FC]
structure V6 (ls:List N5) (ws:List T4):Prop where
 few:ls.length≤32
 node:∀x ∈ ls,x.i.length≤4∧x.s.length≤4
 wts:ws.length≤32
 nums:∀t ∈ ws,t.l.length≤4096
theorem H7:∀{ls:List N5},(∀x ∈ ls,x.i.length≤4∧x.s.length≤4)→(DV ls).length≤13*ls.length
 |[],_=>by simp [DV]
 |x::ls,h=>by
  have c:=h x (by simp)
  have b:=H7 (ls:=ls) fun y a=>h y (by simp [a])
  have e:DV (x::ls)=JY x++DV ls:=rfl
  rw [e,length_append,PT,length_cons]
  omega
theorem Iz:∀{ws:List T4},(∀t ∈ ws,t.l.length≤4096)→(FC ws).length≤16384*ws.length
 |[],_=>by simp [FC]
 |x::ls,h=>by
  have c:=h x (by simp)
  have b:=Iz (ws:=ls) fun y a=>h y (by simp [a])
  have e:FC (x::ls)=CG x.l++FC ls:=rfl
  rw [e,length_append,FM,length_cons]
  omega
theorem Qe {k:BitVec 8} {i s:List Int} {n p:Int} (h:CU k i s n p=true):i.length≤4∧s.length≤4:=by
 unfold CU at h
 cases hk:DI k with
 |none=>rw [hk] at h;cases h
 |some r=>
  have hs:=J6 k (by rw [hk];rfl)
  have key:∀{a b c d e f:Int},DI k=some [a,b,c,d,e,f]→b≤4→i.length≤4∧s.length≤4:=fun {a b c d e f} j m=>by
   rw [j] at h
   obtain ⟨⟨_,l,_⟩,g⟩:=H9.1 h
   refine ⟨by omega, ?_⟩
   split at g
   ·have:=AC g;omega
   ·split at g
    ·exact ((Shapes.ok_iff s).1 g).1.2
    ·unfold HC at g;simp only [Bool.and_eq_true,decide_eq_true_eq] at g;omega
  rcases hs with e|e|e|e|e|e|e|e|e|e|e|e|e
  ·exact key (by rw [e];exact T2) (by decide)
  ·exact key (by rw [e];exact T1) (by decide)
  ·exact key (by rw [e];exact Tz) (by decide)
  ·exact key (by rw [e];exact Ty) (by decide)
  ·exact key (by rw [e];exact U6) (by decide)
  ·exact key (by rw [e];exact Tx) (by decide)
  ·exact key (by rw [e];exact Tw) (by decide)
  ·exact key (by rw [e];exact RM) (by decide)
  ·exact key (by rw [e];exact Tv) (by decide)
  ·exact key (by rw [e];exact Lj) (by decide)
  ·exact key (by rw [e];exact Li) (by decide)
  ·exact key (by rw [e];exact MQ) (by decide)
  ·exact key (by rw [e];exact Lh) (by decide)
theorem RC {ls:List N5} {ws:List T4} (h:GB ls ws=true):(∃a,GL ls=some a∧FA [] ls=some a)∧(F2 ls).length=ws.length∧Ic (ws.map pv) (F2 ls)=true:=by
 unfold GB at h
 simp only [Bool.and_eq_true,decide_eq_true_eq] at h
 obtain ⟨c,b,d⟩:=h
 obtain ⟨a,hs⟩:=Option.isSome_iff_exists.1 c
 refine ⟨⟨a,hs, ?_⟩,b,d⟩
 unfold GL at hs
 split at hs
 ·cases hs
 ·split at hs
  ·split at hs
   ·rename_i e _;cases hs;exact e
   ·cases hs
  ·cases hs
theorem Tq {ls:List N5} {ws:List T4} (h:GB ls ws=true):V6 ls ws:=by
 obtain ⟨⟨f,hs,g⟩,e,l⟩:=RC h
 have p:(F2 ls).length≤ls.length:=length_filter_le ..
 have b:=Pq hs
 refine ⟨b,fun x n=>Qe (I6 ls [] f g x n),by omega,fun t k=> ?_⟩
 obtain ⟨i,m,rfl⟩:=List.mem_iff_getElem.1 k
 have a:=(Hh (ws:=ws.map pv) (xs:=F2 ls) (by rw [length_map,e])).1 l i (by omega)
 rw [getD_eq_getElem?_getD,getElem?_map,getElem?_eq_getElem m] at a
 unfold IS at a
 rw [Bool.and_eq_true] at a
 obtain ⟨o,c⟩:=NB a.1
 have:=Shapes.size_le ws[i].s
 have c:(ws[i].l.length:Int)=Shapes.size ws[i].s:=by
  have:(pv ws[i]).2.length=(Shapes.size (pv ws[i]).1).toNat:=c
  have d:(pv ws[i]).2=ws[i].l:=rfl
  have j:(pv ws[i]).1=ws[i].s:=rfl
  rw [d,j] at this
  omega
 omega
theorem KV (v:Value) (l:List (BitVec 8)) (n:BitVec 32) (W:World) (e:BO b8 W v l) (j:l.length≤4194304):
  AK prog 45 [v,u32 n] W (fun r c=>Below W.heap.size W c∧c.ownsRow W.heap.size 5 1 r (l++Crc.four n).length ((l++Crc.four n).map b8)):=by
 have b:=Below.refl W.heap.size W
 refine Az (n:=9) func45 O<|Ad<|Ab O<|Be<|Ac O<|Ac O<|Bc (Cv (vs:=[n].map u32) EG MR O O O O O) O ?_
 rintro y w ⟨f, -,a, -⟩
 have d:=BD f
 have b:=b.bs a
 have e:=e.bs a
 clear a f
 refine Ai O O (TW v y l [n] w e d (by simp;omega)) ?_
 rintro r c ⟨g,a⟩
 have i:=AA b
 have h:l++CG [n]=l++Crc.four n:=by rw [HZ];simp [CG]
 rw [h] at g
 exact Ab rfl<|Ay<|As rfl rfl<|⟨bt b a,BY g i⟩
theorem Se (n:BitVec 32) (l:List (BitVec 8)):(Crc.four n++l).drop 4=l:=rfl
set_option maxHeartbeats 1000000 in
theorem U3 (v u : Value) (ls : List N5) (ws : List T4) (W : World) (h : GN W v ls) (hw : EM W u ws) :
    AK prog 12 [.agg [v,u].toArray] W (fun r Y=>Below W.heap.size W Y∧∃x,r= .tuple #[x, .int .i64 (I0 ls ws)]∧AQ Y W.heap.size 5 1 x (Hs ls ws).length ((Hs ls ws).map b8)):=by
  have N:=Below.refl W.heap.size W
  refine Az (n:=65) func12 O<|Ad<|Cr (cs:=[v,u]) O O O ?_
  rintro A_m w eA_m b_m C -
  have N:=N.bs C
  refine Ab O<|Ab O<|Bi<|Aa (Cx (DX _) (DW _) O O ‹_›) O ?_
  have zA:=BA b_m
  refine Ai O O (TY v u ls ws w (h.bs N) (hw.bs N)) ?_
  rintro _ L ⟨rfl,C⟩
  have N:=N.bs C
  have b_m:=b_m.bs C
  refine Aa (Co O) O<|Ak<|Aq O ?_ ?_
  · intro g
    have g:GB ls ws=false:=by simpa using g
    refine Ad<|Ab O<|Ab O<|B2<|Bx O O O ?_
    exact ⟨N, .slice none 0 0,by simp [I0,g],by simp only [Hs,g];exact .inl (World.ownsRow_nil _ _ _ _)⟩
  intro g
  have g:GB ls ws=true:=by simpa using g
  have S:=Tq g
  have S1:=S.few
  have S2:=S.wts
  rw [show I0 ls ws=0 by simp [I0,g],show Hs ls ws=NZ ls ws by simp [Hs,g]]
  clear g
  have X:=h.sl.bs N
  have z0:=AA N
  obtain ⟨E,hBB⟩:∃E:Nat→List (BitVec 8),E=fun i=>BitVec.ofInt 8 (ls.length:Int)::DV (ls.take i):=⟨_,rfl⟩
  have bb0:E 0=[BitVec.ofInt 8 (ls.length:Int)]:=by rw [hBB];rfl
  have bbl:∀i,i≤ls.length→(E i).length≤1+13*ls.length:=fun i hi=>by
    rw [hBB]
    have:=H7 (ls:=ls.take i) fun x hx=>S.node x (mem_of_mem_take hx)
    rw [length_take,Nat.min_eq_left hi] at this
    simp only [length_cons]
    omega
  refine Cs<|Ba underlying27 O (BX _)<|Ba underlying24 O (BU _)<|Aa (Al (CD _) O ‹_› rfl) O ?_
  refine Aa (Ap BE O ‹_›) O ?_
  refine Aa (Dm Hc GM O) O<|Bc (Cv (vs:=[BitVec.ofInt 8 (ls.length:Int)].map b8) AL CY O O O O O) O ?_
  rintro y T ⟨o_y, -,C, -⟩
  have hB1:=bt N C
  have b_m1:=b_m.bs C
  have X:=h.sl.bs hB1
  rw [← bb0] at o_y
  refine Ab O<|Bi<|Ba underlying27 O (BX _)<|Ba underlying24 O (BU _)<|Aa (Al (CD _) O ‹_› rfl) O ?_
  refine Aa (Ap BE O ‹_›) O ?_
  refine Ac O<|Ak<|An ?_
  have o_y:T.ownsRow L.heap.size 5 1 y (E 0).length ((E 0).map b8):=by rw [show (E 0).length=1 by rw [bb0];rfl];exact o_y
  refine Bl (S:=(Nat×Value)) (fun z=>[(1, .pointer (some ⟨A_m,0,none⟩)),(4,z.2),(20,v),(21, .int .i64 (ls.length:Int)),(22, .int .i64 (z.1:Int))]) (fun z Y=>z.1≤ls.length∧Below L.heap.size L Y∧Y.ownsRow L.heap.size 5 1 z.2 (E z.1).length ((E z.1).map b8)) (fun z=>ls.length - z.1) ((0,y)) ⟨rfl,rfl,rfl,rfl,rfl,trivial⟩ ?_ ?_
  · exact ⟨Nat.zero_le _,C,o_y⟩
  clear o_y X b_m1 hB1 C
  rintro ⟨i,y⟩ w2 ⟨hi,C,m⟩
  dsimp only at hi C m ⊢
  have V:=bt N C
  have X:=h.sl.bs V
  have b_m2:=b_m.bs C
  have z2:=C.size
  refine Ad<|Bz O<|Ak<|Ao<|Aq O ?_ ?_
  · intro gi
    have K:i<ls.length:=by have:=AC gi;omega
    obtain ⟨x,hx⟩:∃x,x=ls[i]:=⟨_,rfl⟩
    have hxm:x ∈ ls:=hx ▸ getElem_mem K
    have Q:=h.each x hxm
    have hcl:=h.cells K
    rw [← hx] at hcl
    have hS:=S.node x hxm
    have hbl:=bbl i hi
    have Z:E (i+1)=E i++[x.k]++BI x.i++BI x.s++[BitVec.ofInt 8 x.n,BitVec.ofInt 8 x.p]:=by
      rw [hBB]
      simp only
      rw [take_succ_eq_append_getElem K,JX,← hx,JW]
      simp [JY]
    have zBB:(E (i+1)).length≤1+13*ls.length:=bbl (i+1) K
    have lx:=FT x.i
    have ly:=FT x.s
    have lBB:=cngA length Z
    simp only [length_append,length_cons,length_nil] at lBB
    refine Bw<|Ao ?_
    refine Fm (St:=Value) (fun s=>[(1, .pointer (some ⟨A_m,0,none⟩)),(4,s),(20,v),(21, .int .i64 (ls.length:Int)),(22, .int .i64 (i:Int))]) (fun s Y=>Below L.heap.size L Y∧Y.ownsRow L.heap.size 5 1 s (E (i+1)).length ((E (i+1)).map b8)) ?_ ?_
    · refine An<|Ad<|Aa (Cl BE O O X i O K) O<|Aa (C8 (cs:=x.cells) (EK _) (EH _) O X O (by decide) hcl) O<|Cz (cs:=x.cells) EJ O O O O (fun _=>rfl) ((Q.bs V).ones) ?_
      rintro A_x w0 eA_x a M zhn3
      have o:=bt C M
      have m:=AI m M
      clear C M b_m2 X V
      refine Ak ?_
      refine Cw.any BB (fun w hd _=> ?_)
      have a:=a.bs hd
      replace o:=bt o hd
      replace m:=AI m hd
      have H:=Fu w y
      refine Dg (fun Y=>AP Y A_x 79 x.cells) (fun hC=> ?_) (a)
      refine Cf (Bf Dc)<|Af 0 O (fun T q=>B4 O) O<|Af 1 O (fun T q=>B8 underlying79 O (EA _)) O<|Af 2 O (fun T q=>Al (ED _) O q O) O<|Af 5 O (fun T q=>B8 underlying79 O (AT _)) O<|Af 6 O (fun T q=>Al (AN _) O q O) O<|Af 8 O (fun T q=>B8 underlying79 O (AT _)) O<|Af 9 O (fun T q=>Al (AN _) O q O) O<|Af 11 O (fun T q=>B8 underlying79 O (BC _)) O<|Af 12 O (fun T q=>Al (AO _) O q O) O<|Af 13 O (fun T q=>Dm Hc GM O) O<|Af 14 O (fun T q=>B8 underlying79 O (BC _)) O<|Af 15 O (fun T q=>Al (AO _) O q O) O<|Af 16 O (fun T q=>Dm Hc GM O) O<|B5 ?_
      refine Fo ‹_› (i:=3) (j:=17) (by kernel_rfl) O O ?_ ?_
      refine Bc (Cv (vs:=[x.k].map b8) AL CY O O O O O) O ?_
      rintro q3 w ⟨R, -,C, -⟩
      have H:=H.bs C
      have a:=a.bs C
      have m:=m.bs C
      have o:=o.bs C
      refine AR.back ?_
      refine Fo ‹_› (i:=4) (j:=17) (by kernel_rfl) O O ?_ ?_
      have U:=o.size
      refine Bc (Cn (base:=L.heap.size) AL CY O (by decide) O O m (AF R) (BL (fun _=>rfl) _) (by omega) (by omega) U) O ?_
      rintro y w ⟨k,l,B,q⟩
      have q:=q.imp id fun e b (D:y.ownBlock=some b)=>Nat.le_of_eq (Option.some.inj (e.symm.trans D))
      rw [← map_append,show (E i).length+1=(E i++[x.k]).length by rw [length_append];rfl] at k
      have H:=H.app B q
      clear U R
      have a:=a.by B fun e=>by
        obtain ⟨ds,J⟩:=AQ.ty (.inl m) e.symm
        exact absurd (BM J a) (by decide)
      try replace f:=AV d fun b I=>B.block b (AB d b I).2 fun e=>G b I e.symm
      try replace G := fun b (F : c.ownBlock = some b) (D : y.ownBlock = some b) => show False from by
                rcases q with h|h
                · exact G b F (h ▸ D)
                · have:=h b D
                  have:=(AB d b F).2
                  omega
      try replace d:=f
      try clear f
      replace m:=k
      have o:=o.trans l
      clear k l B q
      refine AR.back ?_
      refine Fo ‹_› (i:=7) (j:=17) (by kernel_rfl) O O ?_ ?_
      refine Ai O O (Gz _ x.x (E i++[x.k]) x.i L _ o m (Q.i.bs N) (by rw [length_append,length_singleton];omega)) ?_
      rintro y w ⟨l,k,A⟩
      have B:=A.g
      have q:=A.c
      have H:=H.app B q
      clear A
      clear o
      have o:=l
      have a:=a.by B fun e=>by
        obtain ⟨ds,J⟩:=AQ.ty (.inl m) e.symm
        exact absurd (BM J a) (by decide)
      try replace f:=AV d fun b I=>B.block b (AB d b I).2 fun e=>G b I e.symm
      try replace G := fun b (F : c.ownBlock = some b) (D : y.ownBlock = some b) => show False from by
                rcases q with h|h
                · exact G b F (h ▸ D)
                · have:=h b D
                  have:=(AB d b F).2
                  omega
      try replace d:=f
      try clear f
      replace m:=k
      clear k l B q
      refine AR.back ?_
      refine Fo ‹_› (i:=10) (j:=17) (by kernel_rfl) O O ?_ ?_
      refine Ai O O (Gz _ x.y (E i++[x.k]++BI x.i) x.s L _ o m (Q.s.bs N) (by rw [length_append,length_append,length_singleton,FT];omega)) ?_
      rintro y w ⟨l,k,A⟩
      have B:=A.g
      have q:=A.c
      have H:=H.app B q
      clear A
      clear o
      have o:=l
      have a:=a.by B fun e=>by
        obtain ⟨ds,J⟩:=AQ.ty (.inl m) e.symm
        exact absurd (BM J a) (by decide)
      try replace f:=AV d fun b I=>B.block b (AB d b I).2 fun e=>G b I e.symm
      try replace G := fun b (F : c.ownBlock = some b) (D : y.ownBlock = some b) => show False from by
                rcases q with h|h
                · exact G b F (h ▸ D)
                · have:=h b D
                  have:=(AB d b F).2
                  omega
      try replace d:=f
      try clear f
      replace m:=k
      clear k l B q
      refine AR.back<|AR.only ‹_› (i:=17) (by kernel_rfl) O ?_
      refine Bc (Cv (vs:=[BitVec.ofInt 8 x.n,BitVec.ofInt 8 x.p].map b8) AL CY O O O O O) O ?_
      rintro c w ⟨d, -,C, -⟩
      have G:=fun b (F:c.ownBlock=some b) D=>show False from by
        have:=(AB d b F).1
        have:=(AB m b D).2
        omega
      have H:=H.bs C
      have a:=a.bs C
      have m:=m.bs C
      have o:=o.bs C
      refine AR.back<|AR.only ‹_› (i:=18) (by kernel_rfl) O ?_
      have U:=o.size
      have lz:(E i++[x.k]++BI x.i++BI x.s).length≤2000:=by simp only [length_append,length_cons,length_nil];omega
      refine Bc (Cn (base:=L.heap.size) AL CY O (by decide) O O m (AF d) (BL (fun _=>rfl) _) (by omega) (by omega) U) O ?_
      rintro y w ⟨k,l,B,q⟩
      rw [← map_append,show (E i++[x.k]++BI x.i++BI x.s).length+2=(E i++[x.k]++BI x.i++BI x.s++[BitVec.ofInt 8 x.n,BitVec.ofInt 8 x.p]).length by rw [length_append (bs:=[_,_])];rfl] at k
      have a:=a.by B fun e=>by
        obtain ⟨ds,J⟩:=AQ.ty (.inl m) e.symm
        exact absurd (BM J a) (by decide)
      have o:=o.trans l
      refine AR.back<|Cf (Bf Dc)<|Af 19 O (fun T q=>Ce O) O<|B5<|Cq ‹_› (by kernel_rfl) ?_
      refine Bg ?_
      exact Df (y) ⟨rfl,rfl,rfl,rfl,rfl,trivial⟩ (⟨o,by rw [Z];exact k⟩)
      refine Bc (Cv (vs:=[BitVec.ofInt 8 x.n,BitVec.ofInt 8 x.p].map b8) AL CY O O O O O) O ?_
      rintro c w ⟨d, -,C, -⟩
      have G:=fun b (F:c.ownBlock=some b) D=>show False from by
        have:=(AB d b F).1
        have:=(AB m b D).2
        omega
      have H:=H.bs C
      have a:=a.bs C
      have m:=m.bs C
      have o:=o.bs C
      refine AR.back<|AR.only ‹_› (i:=10) (by kernel_rfl) O ?_
      refine Ai O O (Gz _ x.y (E i++[x.k]++BI x.i) x.s L _ o m (Q.s.bs N) (by rw [length_append,length_append,length_singleton,FT];omega)) ?_
      rintro y w ⟨l,k,A⟩
      have B:=A.g
      have q:=A.c
      have H:=H.app B q
      clear A
      clear o
      have o:=l
      have a:=a.by B fun e=>by
        obtain ⟨ds,J⟩:=AQ.ty (.inl m) e.symm
        exact absurd (BM J a) (by decide)
      try replace f:=AV d fun b I=>B.block b (AB d b I).2 fun e=>G b I e.symm
      try replace G := fun b (F : c.ownBlock = some b) (D : y.ownBlock = some b) => show False from by
                rcases q with h|h
                · exact G b F (h ▸ D)
                · have:=h b D
                  have:=(AB d b F).2
                  omega
      try replace d:=f
      try clear f
      replace m:=k
      clear k l B q
      refine AR.back<|AR.only ‹_› (i:=18) (by kernel_rfl) O ?_
      have U:=o.size
      have lz:(E i++[x.k]++BI x.i++BI x.s).length≤2000:=by simp only [length_append,length_cons,length_nil];omega
      refine Bc (Cn (base:=L.heap.size) AL CY O (by decide) O O m (AF d) (BL (fun _=>rfl) _) (by omega) (by omega) U) O ?_
      rintro y w ⟨k,l,B,q⟩
      rw [← map_append,show (E i++[x.k]++BI x.i++BI x.s).length+2=(E i++[x.k]++BI x.i++BI x.s++[BitVec.ofInt 8 x.n,BitVec.ofInt 8 x.p]).length by rw [length_append (bs:=[_,_])];rfl] at k
      have a:=a.by B fun e=>by
        obtain ⟨ds,J⟩:=AQ.ty (.inl m) e.symm
        exact absurd (BM J a) (by decide)
      have o:=o.trans l
      refine AR.back<|Cf (Bf Dc)<|Af 19 O (fun T q=>Ce O) O<|B5<|Cq ‹_› (by kernel_rfl) ?_
      refine Bg ?_
      exact Df (y) ⟨rfl,rfl,rfl,rfl,rfl,trivial⟩ (⟨o,by rw [Z];exact k⟩)
      refine Bc (Cv (vs:=[BitVec.ofInt 8 x.n,BitVec.ofInt 8 x.p].map b8) AL CY O O O O O) O ?_
      rintro c w ⟨d, -,C, -⟩
      have G:=fun b (F:c.ownBlock=some b) D=>show False from by
        have:=(AB d b F).1
        have:=(AB m b D).2
        omega
      have H:=H.bs C
      have a:=a.bs C
      have m:=m.bs C
      have o:=o.bs C
      refine AR.back<|AR.only ‹_› (i:=7) (by kernel_rfl) O ?_
      refine Ai O O (Gz _ x.x (E i++[x.k]) x.i L _ o m (Q.i.bs N) (by rw [length_append,length_singleton];omega)) ?_
      rintro y w ⟨l,k,A⟩
      have B:=A.g
      have q:=A.c
      have H:=H.app B q
      clear A
      clear o
      have o:=l
      have a:=a.by B fun e=>by
        obtain ⟨ds,J⟩:=AQ.ty (.inl m) e.symm
        exact absurd (BM J a) (by decide)
      try replace f:=AV d fun b I=>B.block b (AB d b I).2 fun e=>G b I e.symm
      try replace G := fun b (F : c.ownBlock = some b) (D : y.ownBlock = some b) => show False from by
                rcases q with h|h
                · exact G b F (h ▸ D)
                · have:=h b D
                  have:=(AB d b F).2
                  omega
      try replace d:=f
      try clear f
      replace m:=k
      clear k l B q
      refine AR.back<|AR.only ‹_› (i:=10) (by kernel_rfl) O ?_
      refine Ai O O (Gz _ x.y (E i++[x.k]++BI x.i) x.s L _ o m (Q.s.bs N) (by rw [length_append,length_append,length_singleton,FT];omega)) ?_
      rintro y w ⟨l,k,A⟩
      have B:=A.g
      have q:=A.c
      have H:=H.app B q
      clear A
      clear o
      have o:=l
      have a:=a.by B fun e=>by
        obtain ⟨ds,J⟩:=AQ.ty (.inl m) e.symm
        exact absurd (BM J a) (by decide)
      try replace f:=AV d fun b I=>B.block b (AB d b I).2 fun e=>G b I e.symm
      try replace G := fun b (F : c.ownBlock = some b) (D : y.ownBlock = some b) => show False from by
                rcases q with h|h
                · exact G b F (h ▸ D)
                · have:=h b D
                  have:=(AB d b F).2
                  omega
      try replace d:=f
      try clear f
      replace m:=k
      clear k l B q
      refine AR.back<|AR.only ‹_› (i:=18) (by kernel_rfl) O ?_
      have U:=o.size
      have lz:(E i++[x.k]++BI x.i++BI x.s).length≤2000:=by simp only [length_append,length_cons,length_nil];omega
      refine Bc (Cn (base:=L.heap.size) AL CY O (by decide) O O m (AF d) (BL (fun _=>rfl) _) (by omega) (by omega) U) O ?_
      rintro y w ⟨k,l,B,q⟩
      rw [← map_append,show (E i++[x.k]++BI x.i++BI x.s).length+2=(E i++[x.k]++BI x.i++BI x.s++[BitVec.ofInt 8 x.n,BitVec.ofInt 8 x.p]).length by rw [length_append (bs:=[_,_])];rfl] at k
      have a:=a.by B fun e=>by
        obtain ⟨ds,J⟩:=AQ.ty (.inl m) e.symm
        exact absurd (BM J a) (by decide)
      have o:=o.trans l
      refine AR.back<|Cf (Bf Dc)<|Af 19 O (fun T q=>Ce O) O<|B5<|Cq ‹_› (by kernel_rfl) ?_
      refine Bg ?_
      exact Df (y) ⟨rfl,rfl,rfl,rfl,rfl,trivial⟩ (⟨o,by rw [Z];exact k⟩)
      refine Bc (Cv (vs:=[BitVec.ofInt 8 x.n,BitVec.ofInt 8 x.p].map b8) AL CY O O O O O) O ?_
      rintro c w ⟨d, -,C, -⟩
      have G:=fun b (F:c.ownBlock=some b) D=>show False from by
        have:=(AB d b F).1
        have:=(AB m b D).2
        omega
      have H:=H.bs C
      have a:=a.bs C
      have m:=m.bs C
      have o:=o.bs C
      have R:=R.bs C
      refine AR.back<|AR.only ‹_› (i:=4) (by kernel_rfl) O ?_
      have U:=o.size
      refine Bc (Cn (base:=L.heap.size) AL CY O (by decide) O O m (AF R) (BL (fun _=>rfl) _) (by omega) (by omega) U) O ?_
      rintro y w ⟨k,l,B,q⟩
      have q:=q.imp id fun e b (D:y.ownBlock=some b)=>Nat.le_of_eq (Option.some.inj (e.symm.trans D))
      rw [← map_append,show (E i).length+1=(E i++[x.k]).length by rw [length_append];rfl] at k
      have H:=H.app B q
      clear U R
      have a:=a.by B fun e=>by
        obtain ⟨ds,J⟩:=AQ.ty (.inl m) e.symm
        exact absurd (BM J a) (by decide)
      try replace f:=AV d fun b I=>B.block b (AB d b I).2 fun e=>G b I e.symm
      try replace G := fun b (F : c.ownBlock = some b) (D : y.ownBlock = some b) => show False from by
                rcases q with h|h
                · exact G b F (h ▸ D)
                · have:=h b D
                  have:=(AB d b F).2
                  omega
      try replace d:=f
      try clear f
      replace m:=k
      have o:=o.trans l
      clear k l B q
      refine AR.back<|AR.only ‹_› (i:=7) (by kernel_rfl) O ?_
      refine Ai O O (Gz _ x.x (E i++[x.k]) x.i L _ o m (Q.i.bs N) (by rw [length_append,length_singleton];omega)) ?_
      rintro y w ⟨l,k,A⟩
      have B:=A.g
      have q:=A.c
      have H:=H.app B q
      clear A
      clear o
      have o:=l
      have a:=a.by B fun e=>by
        obtain ⟨ds,J⟩:=AQ.ty (.inl m) e.symm
        exact absurd (BM J a) (by decide)
      try replace f:=AV d fun b I=>B.block b (AB d b I).2 fun e=>G b I e.symm
      try replace G := fun b (F : c.ownBlock = some b) (D : y.ownBlock = some b) => show False from by
                rcases q with h|h
                · exact G b F (h ▸ D)
                · have:=h b D
                  have:=(AB d b F).2
                  omega
      try replace d:=f
      try clear f
      replace m:=k
      clear k l B q
      refine AR.back<|AR.only ‹_› (i:=10) (by kernel_rfl) O ?_
      refine Ai O O (Gz _ x.y (E i++[x.k]++BI x.i) x.s L _ o m (Q.s.bs N) (by rw [length_append,length_append,length_singleton,FT];omega)) ?_
      rintro y w ⟨l,k,A⟩
      have B:=A.g
      have q:=A.c
      have H:=H.app B q
      clear A
      clear o
      have o:=l
      have a:=a.by B fun e=>by
        obtain ⟨ds,J⟩:=AQ.ty (.inl m) e.symm
        exact absurd (BM J a) (by decide)
      try replace f:=AV d fun b I=>B.block b (AB d b I).2 fun e=>G b I e.symm
      try replace G := fun b (F : c.ownBlock = some b) (D : y.ownBlock = some b) => show False from by
                rcases q with h|h
                · exact G b F (h ▸ D)
                · have:=h b D
                  have:=(AB d b F).2
                  omega
      try replace d:=f
      try clear f
      replace m:=k
      clear k l B q
      refine AR.back<|AR.only ‹_› (i:=18) (by kernel_rfl) O ?_
      have U:=o.size
      have lz:(E i++[x.k]++BI x.i++BI x.s).length≤2000:=by simp only [length_append,length_cons,length_nil];omega
      refine Bc (Cn (base:=L.heap.size) AL CY O (by decide) O O m (AF d) (BL (fun _=>rfl) _) (by omega) (by omega) U) O ?_
      rintro y w ⟨k,l,B,q⟩
      rw [← map_append,show (E i++[x.k]++BI x.i++BI x.s).length+2=(E i++[x.k]++BI x.i++BI x.s++[BitVec.ofInt 8 x.n,BitVec.ofInt 8 x.p]).length by rw [length_append (bs:=[_,_])];rfl] at k
      have a:=a.by B fun e=>by
        obtain ⟨ds,J⟩:=AQ.ty (.inl m) e.symm
        exact absurd (BM J a) (by decide)
      have o:=o.trans l
      refine AR.back<|Cf (Bf Dc)<|Af 19 O (fun T q=>Ce O) O<|B5<|Cq ‹_› (by kernel_rfl) ?_
      refine Bg ?_
      exact Df (y) ⟨rfl,rfl,rfl,rfl,rfl,trivial⟩ (⟨o,by rw [Z];exact k⟩)
      refine Bc (Cv (vs:=[BitVec.ofInt 8 x.n,BitVec.ofInt 8 x.p].map b8) AL CY O O O O O) O ?_
      rintro c w ⟨d, -,C, -⟩
      have G:=fun b (F:c.ownBlock=some b) D=>show False from by
        have:=(AB d b F).1
        have:=(AB m b D).2
        omega
      have H:=H.bs C
      have a:=a.bs C
      have m:=m.bs C
      have o:=o.bs C
      refine AR.back<|AR.only ‹_› (i:=3) (by kernel_rfl) O ?_
      refine Bc (Cv (vs:=[x.k].map b8) AL CY O O O O O) O ?_
      rintro q3 w ⟨R, -,C, -⟩
      have H:=H.bs C
      have a:=a.bs C
      have m:=m.bs C
      have o:=o.bs C
      have d:=d.bs C
      clear C
      refine AR.back<|AR.only ‹_› (i:=4) (by kernel_rfl) O ?_
      have U:=o.size
      refine Bc (Cn (base:=L.heap.size) AL CY O (by decide) O O m (AF R) (BL (fun _=>rfl) _) (by omega) (by omega) U) O ?_
      rintro y w ⟨k,l,B,q⟩
      have q:=q.imp id fun e b (D:y.ownBlock=some b)=>Nat.le_of_eq (Option.some.inj (e.symm.trans D))
      rw [← map_append,show (E i).length+1=(E i++[x.k]).length by rw [length_append];rfl] at k
      have H:=H.app B q
      clear U R
      have a:=a.by B fun e=>by
        obtain ⟨ds,J⟩:=AQ.ty (.inl m) e.symm
        exact absurd (BM J a) (by decide)
      try replace f:=AV d fun b I=>B.block b (AB d b I).2 fun e=>G b I e.symm
      try replace G := fun b (F : c.ownBlock = some b) (D : y.ownBlock = some b) => show False from by
                rcases q with h|h
                · exact G b F (h ▸ D)
                · have:=h b D
                  have:=(AB d b F).2
                  omega
      try replace d:=f
      try clear f
      replace m:=k
      have o:=o.trans l
      clear k l B q
      refine AR.back<|AR.only ‹_› (i:=7) (by kernel_rfl) O ?_
      refine Ai O O (Gz _ x.x (E i++[x.k]) x.i L _ o m (Q.i.bs N) (by rw [length_append,length_singleton];omega)) ?_
      rintro y w ⟨l,k,A⟩
      have B:=A.g
      have q:=A.c
      have H:=H.app B q
      clear A
      clear o
      have o:=l
      have a:=a.by B fun e=>by
        obtain ⟨ds,J⟩:=AQ.ty (.inl m) e.symm
        exact absurd (BM J a) (by decide)
      try replace f:=AV d fun b I=>B.block b (AB d b I).2 fun e=>G b I e.symm
      try replace G := fun b (F : c.ownBlock = some b) (D : y.ownBlock = some b) => show False from by
                rcases q with h|h
                · exact G b F (h ▸ D)
                · have:=h b D
                  have:=(AB d b F).2
                  omega
      try replace d:=f
      try clear f
      replace m:=k
      clear k l B q
      refine AR.back<|AR.only ‹_› (i:=10) (by kernel_rfl) O ?_
      refine Ai O O (Gz _ x.y (E i++[x.k]++BI x.i) x.s L _ o m (Q.s.bs N) (by rw [length_append,length_append,length_singleton,FT];omega)) ?_
      rintro y w ⟨l,k,A⟩
      have B:=A.g
      have q:=A.c
      have H:=H.app B q
      clear A
      clear o
      have o:=l
      have a:=a.by B fun e=>by
        obtain ⟨ds,J⟩:=AQ.ty (.inl m) e.symm
        exact absurd (BM J a) (by decide)
      try replace f:=AV d fun b I=>B.block b (AB d b I).2 fun e=>G b I e.symm
      try replace G := fun b (F : c.ownBlock = some b) (D : y.ownBlock = some b) => show False from by
                rcases q with h|h
                · exact G b F (h ▸ D)
                · have:=h b D
                  have:=(AB d b F).2
                  omega
      try replace d:=f
      try clear f
      replace m:=k
      clear k l B q
      refine AR.back<|AR.only ‹_› (i:=18) (by kernel_rfl) O ?_
      have U:=o.size
      have lz:(E i++[x.k]++BI x.i++BI x.s).length≤2000:=by simp only [length_append,length_cons,length_nil];omega
      refine Bc (Cn (base:=L.heap.size) AL CY O (by decide) O O m (AF d) (BL (fun _=>rfl) _) (by omega) (by omega) U) O ?_
      rintro y w ⟨k,l,B,q⟩
      rw [← map_append,show (E i++[x.k]++BI x.i++BI x.s).length+2=(E i++[x.k]++BI x.i++BI x.s++[BitVec.ofInt 8 x.n,BitVec.ofInt 8 x.p]).length by rw [length_append (bs:=[_,_])];rfl] at k
      have a:=a.by B fun e=>by
        obtain ⟨ds,J⟩:=AQ.ty (.inl m) e.symm
        exact absurd (BM J a) (by decide)
      have o:=o.trans l
      refine AR.back<|Cf (Bf Dc)<|Af 19 O (fun T q=>Ce O) O<|B5<|Cq ‹_› (by kernel_rfl) ?_
      refine Bg ?_
      exact Df (y) ⟨rfl,rfl,rfl,rfl,rfl,trivial⟩ (⟨o,by rw [Z];exact k⟩)
    rintro y' w3 ⟨hA3,ho3⟩
    replace hA3:Below L.heap.size L w3:=hA3
    replace ho3:w3.ownsRow L.heap.size 5 1 y' (E (i+1)).length ((E (i+1)).map b8):=ho3
    refine B9<|Bn<|B1 O (by omega)<|Ac O<|Bd ?_
    exact Ar (Bp ((i+1,y')) ⟨rfl,rfl,rfl,rfl,rfl,trivial⟩ (⟨K,hA3,ho3⟩) (by simp only;omega))
  intro gi
  have K:i=ls.length:=by have:=AD gi;omega
  subst K
  have lB:=bbl ls.length (AU _)
  obtain ⟨B0,hB0⟩:∃B0,B0=E ls.length:=⟨_,rfl⟩
  rw [← hB0] at m lB
  have eB0:B0=BitVec.ofInt 8 (ls.length:Int)::DV ls:=by rw [hB0,hBB];simp only;rw [take_length]
  clear hB0 bbl bb0 X
  obtain ⟨CC,hCC⟩:∃CC:Nat→List (BitVec 8),CC=fun i=>B0++FC (ws.take i):=⟨_,rfl⟩
  have c0:CC 0=B0:=by rw [hCC];simp [FC]
  have ccl:∀i,(CC i).length≤1000000:=fun i=>by
    rw [hCC]
    have:=Iz (ws:=ws.take i) fun t ht=>S.nums t (mem_of_mem_take ht)
    rw [length_take] at this
    simp only [length_append]
    omega
  have s_u:=hw.1.bs V
  rw [← c0] at m
  refine Bk<|Aj<|Aj<|A0<|Ar<|B9<|Ao<|Ad<|Ba underlying27 O (CF _)<|Aa (Al (DD _) O ‹_› rfl) O ?_
  refine Aa (Ap BK O ‹_›) O ?_
  refine Ac O<|Ak<|An ?_
  refine Bl (S:=(Nat×Value)) (fun z=>[(4,z.2),(47,u),(48, .int .i64 (ws.length:Int)),(49, .int .i64 (z.1:Int))]) (fun z Y=>z.1≤ws.length∧Below L.heap.size L Y∧Y.ownsRow L.heap.size 5 1 z.2 (CC z.1).length ((CC z.1).map b8)) (fun z=>ws.length - z.1) ((0,y)) ⟨rfl,rfl,rfl,rfl,trivial⟩ ?_ ?_
  · exact ⟨Nat.zero_le _,C,m⟩
  clear m s_u C hi V b_m2 z2
  rintro ⟨i,y⟩ w2 ⟨hi,C,m⟩
  dsimp only at hi C m ⊢
  have V:=bt N C
  have s_u:=hw.1.bs V
  refine Ad<|Bz O<|Ak<|Ao<|Aq O ?_ ?_
  · intro gi
    have K:i<ws.length:=by have:=AC gi;omega
    obtain ⟨t,ht,htm,hc1,hc2⟩:=Jy K
    have hta:=hw.2 t htm
    have hcl:=G2 hc1 hc2
    have lt:=S.nums t htm
    have hcl1:=ccl i
    have eCC:CC (i+1)=CC i++CG t.l:=by
      rw [hCC]
      simp only
      rw [take_succ_eq_append_getElem K,La,← ht,KZ,append_assoc]
    have h_t:=hta.bs V
    have oneT:[t.x,t.y].all (·.oneCell')=true:=by simp [h_t.1.one',h_t.2.one']
    refine Bw<|Ao<|An<|Ad<|Aa (Cl BK O O s_u i O K) O<|Aa (C8 (cs:=[t.x,t.y]) (FZ _) (FX _) O s_u O (by decide) hcl) O<|Cz (cs:=[t.x,t.y]) EC O O O O (fun _=>rfl) (oneT) ?_
    rintro A_t w3 eA_t b_t M zhn3
    have o:=bt C M
    have m:=AI m M
    have h_t:=h_t.bs M
    refine Ak<|Bn<|Ac O<|Ba underlying75 O (CW _)<|Aa (Al (DC _) O ‹_› rfl) O ?_
    refine Ai O O (PK (.slice none 0 0) t.y [] t.l w3 (Ck _ _) h_t.2 (by simp;omega)) ?_
    rintro p w4 ⟨o_p,hn4⟩
    rw [nil_append,HZ] at o_p
    have s_p:=BD o_p
    have lp:(Crc.four (BitVec.ofInt 32 (t.l.length:Int))++CG t.l).length=4+4*t.l.length:=by rw [length_append,FM];rfl
    have s_q:=BO.drop s_p (i:=4) (by omega)
    rw [Se] at s_q
    have m:=AI m hn4
    have o:=bt o hn4
    refine Aa (Ey (i:=4) AL O O s_p (by omega)) O<|Bc (De (base:=L.heap.size) AL CY O (by decide) O O m s_q (BL (fun _=>rfl) _) (by rw [FM];omega) (by rw [FM];omega) o.size) O ?_
    rintro y' w5 ⟨ho5,hb5, -⟩
    rw [← map_append,← length_append,← eCC] at ho5
    refine Ab O<|Bd<|Bg<|B6<|B1 O (by omega)<|Ac O<|Bd ?_
    exact Ar (Bp ((i+1,y')) ⟨rfl,rfl,rfl,rfl,trivial⟩ (⟨K,o.trans hb5,ho5⟩) (by simp only;omega))
  intro gi
  have K:i=ws.length:=by have:=AD gi;omega
  subst K
  have eC:CC ws.length=Hb ls ws:=by rw [hCC];simp only;rw [take_length,eB0];rfl
  have lC:=ccl ws.length
  rw [eC] at m lC
  have s_y:=BD m
  refine Bk<|Aj<|Aj<|A0<|Cb<|Ac O<|Ac O<|Ai O O (Vn y (Hb ls ws) w2 s_y) ?_
  rintro _ w3 ⟨rfl,M⟩
  have s_y:=s_y.bs M
  have o:=bt C M
  refine Ai O O (KV y (Hb ls ws) _ w3 s_y (by omega)) ?_
  rintro r w4 ⟨hn4,o_r⟩
  have o:=bt o hn4
  have s_r:=BD o_r
  refine Ai O O (Ss r (NZ ls ws) w4 s_r) ?_
  rintro _ w5 ⟨rfl,hn5⟩
  have o:=bt o hn5
  have z3:=AA (bt N (bt C M))
  exact Ab rfl<|Ab rfl<|Ay<|Bx rfl rfl rfl<|⟨bt N o,_,rfl,((AQ.clip o_r).mono z3).bs hn5⟩

theorem TI (v:Value) (w:World) (f:v.cells=[v].toArray):AK prog 157 [v, .int .i64 4] w (fun r d=>Below w.heap.size w d∧∃p q,r= .func (.func 231) #[] #[.pointer (some ⟨p,0,none⟩), .pointer (some ⟨q,0,none⟩)]∧w.heap.size≤p∧p<q∧AP d p 28 [v]∧AP d q 3 [.int .i64 4]):=by
 refine Az (n:=9) func157 O<|Ad<|Bc (Xw.box (cs:=[v]) O f) O ?_
 rintro _ k ⟨rfl,c,a,h⟩
 refine Bc (Xw.box (cs:=[.int .i64 4]) O O) O ?_
 rintro _ l ⟨rfl,j,b,e⟩
 have c:=c.bs b
 have g:=a.size
 have i:=a.trans (b.mono g)
 refine Ab O<|Bi<|Aa (Al (AO _) O ‹_› rfl) O ?_
 exact Bz rfl<|Ak<|Bu rfl false (rfl)<|Cs<|Aa (E2 (vs:=[]) rfl rfl) rfl<|Ab rfl<|Ay<|As rfl rfl<|⟨i,_,_,rfl,AU _,by omega,c,j⟩
theorem TF {v:Value} {c i j sz:Nat} (h:OS v c) (e:i≤j) (f:j≤c):OS (cut v sz i j) (j - i):=by
 obtain ⟨b,cap,rfl,k,g,d⟩:=h
 refine ⟨_,cap - i,rfl,by omega,by omega,fun a=> ?_⟩
 by_cases he:cap=i
 ·omega
 ·rw [if_neg he] at a
  cases b with
  |none=>have:=d rfl;omega
  |some _=>cases a
def parts (v:Value) (K:Nat):List Value:=(range K).map fun i=>cutp v 1 (4*i) (4*i+4)
theorem HS (v:Value) (K:Nat):parts v (K+1)=parts v K++[cutp v 1 (4*K) (4*K+4)]:=by simp [parts,range_succ]
theorem PM {v:Value} {k K:Nat} (h:k≤K):parts v k<+:parts v K:=by
  induction K with
  | zero => obtain rfl : k = 0 := by omega
            exact ⟨[],by simp⟩
  |succ K ih=>
    by_cases h1:k≤K
    · exact (ih h1).trans ⟨_,(HS v K).symm⟩
    · obtain rfl:k=K+1:=by omega
      exact ⟨[],by simp⟩
theorem Su (p q K:Nat) (v:Value) (w:World) (d:AP w p 28 [v]) (a:AP w q 3 [.int .i64 4]) (r:OS v (4*K)) (M:K≤100000):
  Sq prog 231 [] [.pointer (some ⟨p,0,none⟩), .pointer (some ⟨q,0,none⟩)] (fun x:Value=>[x]) (fun b=>b=p∨b=q) none (parts v K) w:=by
 intro B J W t G F e
 show AK prog 231 [.func (.yield B) #[] #[], .pointer (some ⟨p,0,none⟩), .pointer (some ⟨q,0,none⟩)] W (fun _ E=>J (parts v K) E)
 have d:=d.bs t
 have a:=a.bs t
 refine Fv (n:=31) func231 (by kernel_rfl) O O O<|Ee<|Dr (by kernel_rfl)<|Ab O ?_
 refine Bd (Pg.low ?_)
 refine Dl (Ef ?_)
 refine Cg.block ?_
 refine Cg.loop (S:=Nat) (fun k=>[(0, .func (.yield B) #[] #[]),(1, .pointer (some ⟨p,0,none⟩)),(2, .pointer (some ⟨q,0,none⟩)),(4, .int .i64 ((4*k:Nat):Int))]) (fun k s=>k≤K∧J (parts v k) s∧AP s p 28 [v]∧AP s q 3 [.int .i64 4]) (fun k=>K - k) (0) ⟨rfl,rfl,rfl,rfl,trivial⟩ ?_ ?_
 ·exact ⟨Nat.zero_le _,e,d,a⟩
 clear e d a t
 rintro k w ⟨L,e,d,l⟩
 refine Ee<|Ee<|Dr (by kernel_rfl)<|Ac O<|Aa (Al (DM _) O ‹_› rfl) O ?_
 refine Aa (Fq AL O r) O<|Bz O ?_
 refine Bd (Pg.low ?_)
 refine Dl (Ef ?_)
 refine Cg.cond O ?_ ?_
 ·intro g
  have c:k<K:=by have:=AC g;omega
  refine Cg.skip ?_
  refine Dl (Ef ?_)
  refine Ee<|Cg.block<|Ee<|Cg.quiet BB (by kernel_rfl) (by kernel_rfl)<|Ah (fun o a=>Al (AO _) O (l.bs a) O) O<|Ah (fun o a=>Al (DM _) O (AP.bs ‹_› a) O) O ?_
  refine Bq O<|Ah (fun o a=>Fj (i:=4*k) AL O O r (by omega)) O<|Ah (fun o a=>Fq AL O (TF r (by omega) (AU _))) O<|Ah (fun o a=>Ex.as (Ex.min2 O O) (cngA (Value.int .i64) (show (if ((4*K - 4*k:Nat):Int)<4 then ((4*K - 4*k:Nat):Int) else 4)=4 by split<;>omega))) O<|Dx O ?_
  refine C2 (fun H a=>(Pg.low ?_))
  refine Dl (Ef ?_)
  refine Ee ?_
  have f:=d.bs a
  have m:=l.bs a
  have y:=G _ _ _ e ⟨none,DB a none, .inl rfl⟩
  have h:parts v k++[cutp v 1 (4*k) (4*k+4)]<+:parts v K:=by rw [← HS];exact PM c
  refine Fz<|Lg.plain 10 (by kernel_rfl)<|Ac O<|Aa (Al (DM _) O ‹_› rfl) O ?_
  refine Ac O<|Ac O<|Ac O<|Aa (Ex.as (Dp O O (by omega)) (cngA (Value.int .i64) (show ((4*k:Nat):Int)+4=((4*k+4:Nat):Int) by omega))) O<|Ac O<|Ac O<|Aa (Ex.as (Dp O O (by omega)) (cngA (Value.int .i64) (show ((4*k:Nat):Int)+4=((4*k+4:Nat):Int) by omega))) O<|Aa (Ex.cutP (i:=4*k) (j:=4*k+4) AL O O O O r (by omega) (by omega)) O ?_
  refine Bd (Pg.low (Gn ?_))
  refine Lg.yield O O O (F (parts v k) (cutp v 1 (4*k) (4*k+4)) H y h) ?_
  rintro _ I ⟨rfl,C,D⟩
  rw [← HS] at C
  have u:=f.keep (D.2 p (.inl rfl) (BA f))
  have A:=m.keep (D.2 q (.inr rfl) (BA m))
  refine Lg.plain 1 (by kernel_rfl)<|Aa (Co O) O ?_
  refine Bd (Pg.low (Gn (Lg.nil ?_)))
  refine Dl (Ef ?_)
  refine Cg.condB O false (rfl)<|Cg.skip<|F5 ?_
  refine Dl (Ef ?_)
  refine Dr (by kernel_rfl)<|Ac O<|Aa (Al (AO _) O ‹_› rfl) O ?_
  refine B1 O (by omega)<|Ab O ?_
  refine Bd (Pg.low ?_)
  exact Dl (Pg.next (k+1) ⟨rfl,rfl,rfl,(cngA (fun z=>some (Value.int .i64 z)) (by omega)),trivial⟩ (⟨c,C,u,A⟩) (by omega))
 intro g
 have c:k=K:=by have:=AD g;omega
 subst c
 exact Cg.exit<|Gc<|Gc<|Pg.blkHit<|Pg.closeE<|Cu rfl<|e
theorem PO {v:Value} {c:Nat} (a:OS v c) {K:Nat}:(parts v K).all (·.oneCell')=true:=List.all_eq_true.2 fun x b=>by
 obtain ⟨i, -,rfl⟩:=List.mem_map.1 b
 obtain ⟨d,cap,rfl, -⟩:=a
 exact Sn ⟨_,_,_,rfl⟩
theorem H2 (v:Value) (K:Nat):(parts v K).length=K:=by simp [parts]
theorem Pe {v:Value} {c K:Nat} {a:List Value} {x:Value} (b:OS v c) (h:a++[x]<+:parts v K):[x].all (·.oneCell')=true:=by
 obtain ⟨t,h⟩:=h
 have:=PO b (K:=K)
 rw [← h,List.all_append,List.all_append,Bool.and_eq_true,Bool.and_eq_true] at this
 exact this.1.2
theorem Nw (p q K:Nat) (v:Value) (W:World) (hp:AP W p 28 [v]) (hq:AP W q 3 [.int .i64 4]) (Z:OS v (4*K)) (hK:K≤100000):
  AK prog 230 [.slice none 0 0, .func (.func 231) #[] #[.pointer (some ⟨p,0,none⟩), .pointer (some ⟨q,0,none⟩)]] W (fun r B=>Below W.heap.size W B∧B.ownsRow W.heap.size 28 1 r K (parts v K)):=by
 have f:=Below.refl W.heap.size W
 refine Fv (n:=13) func230 (by kernel_rfl) O O O<|Ee<|Dr (by kernel_rfl)<|Bc (Xw.box (cs:=[.slice none 0 0]) O O) O ?_
 rintro _ w ⟨rfl,a,t,hz⟩
 have f:=bt f t
 have J:=hp.bs t
 have X:=hq.bs t
 have yp:=BA hp
 have yq:=BA hq
 have ys:=BA a
 refine Ab O ?_
 refine Bd (Pg.low ?_)
 refine Dl (Ef ?_)
 refine Ee<|Ee<|Dr (by kernel_rfl)<|Ac O ?_
 refine Bd (Pg.low ?_)
 refine Dl (Ef ?_)
 refine Cg.block ?_
 refine Cg.range O ((Su p q K v w J X Z hK)) (fun i e=>by have e:i=p∨i=q:=e;omega) (fun _=>rfl) (by kernel_rfl) (fun (c:List (Value)) B=>∃y,AP B W.heap.size 166 [y]∧B.ownsRow W.heap.size 28 1 y c.length c∧Below W.heap.size W B) (by rintro _ ⟨⟩) ?_ ?_ ?_ ?_ ?_
 ·exact ⟨_,a,World.ownsRow_nil _ _ _ _,f⟩
 ·rintro c A A' ⟨y,N,I,V⟩ C
  exact ⟨y,N.nc C,NW I C,V.nc C (Nat.le_of_lt ys) (AU _)⟩
 ·rintro c A A' ⟨y,N,I,V⟩ C
  obtain ⟨r,g,U⟩:=C
  have U:r=none:=U.elim id id
  subst U
  have L:=EU g (AU _) fun _ e=>by cases e
  exact ⟨y,N.bs L,AI I L,bt V L⟩
 ·rintro lp c x w3 hl ⟨y,a,j,f⟩ m G
  have z3:=BA a
  refine Dr (by kernel_rfl)<|Ab O ?_
  refine Bd (Pg.low ?_)
  refine Pg.asg (KeepsFrom.refl _ _) (Kp.refl) ?_
  rintro w t hz G
  have a:=a.nc t
  have j:=NW j t
  have f:=f.nc t (by omega) (AU _)
  have hlp:c.length<K:=by have:=m.length_le;rw [length_append,H2] at this;simp at this;omega
  have el:c.length+1=(c++[x]).length:=by simp
  refine Cg.block<|Dr (by kernel_rfl)<|Aa (Al (SF _) O ‹_› rfl) O ?_
  refine Ac O<|Bc (Cv (vs:=[x]) GH RP O O O (Pe Z m) O) O ?_
  rintro q3 w5 ⟨T, -,l, -⟩
  have a:=a.bs l
  have j:=AI j l
  have f:=bt f l
  have zB:=AA f
  refine Bc (Cn (base:=W.heap.size) GH RP O (by decide) O O j (AF T) (Pe Z m) (by omega) (by omega) zB) O ?_
  rintro Q w6 ⟨s,Y,M, -⟩
  have ne:∀b,y.ownBlock=some b→b≠W.heap.size:=fun b e D=>by
   obtain ⟨ds,H⟩:=AQ.ty (.inl j) e
   rw [D] at H
   exact absurd (BM H a) (by decide)
  have o:=a.by M (fun e=>ne _ e.symm rfl)
  have ne' :∀b,Q.ownBlock=some b→b≠W.heap.size:=fun b e D=>by
   obtain ⟨ds,H⟩:=AQ.ty (.inl s) e
   rw [D] at H
   exact absurd (BM H o) (by decide)
  have E:=f.trans Y
  rw [el] at s
  refine Bv (C5 (u:=Q) (Uo _) O O (AF s).one' o Nat.zero_lt_one) ?_
  rintro w7 ⟨F,z,hz7⟩
  have S:=AV s fun k e=>z.block k (AB s k e).2 fun D=>ne' k e (Option.some.inj D)
  have R:=E.grown z (AA E) (by rintro _ e;have:=Option.some.inj e;omega)
  refine Bd (Pg.low ?_)
  refine F5 ?_
  exact Pg.rnd ((((KeepsFrom.refl _ _).bs l).own j M).blk o z) (((Kp.refl.bs l).grown M (fun k e (h:k=p∨k=q)=>by have:=(AB j k e).1;omega)).grown z (fun k e (h:k=p∨k=q)=>by have:=Option.some.inj e;omega)) (⟨Q,F,S,R⟩)
 rintro d w hd ⟨y,a,j,f⟩ hD
 rw [H2] at j
 have zB:=BA a
 refine F5 ?_
 refine Dl (Ef ?_)
 refine Ee<|Dr (by kernel_rfl)<|Aa (Al (SF _) O ‹_› rfl) O ?_
 refine Ab O ?_
 refine Bd (Pg.low ?_)
 refine Dl (Ef ?_)
 refine Cg.ret ?_
 refine Pg.close (hD) (fun w t _=> ?_)
 have j:=NW j t
 have f:=f.nc t (by omega) (AU _)
 exact As rfl rfl<|⟨f,j⟩
theorem Qx (p q K:Nat) (v:Value) (W:World) (b:AP W p 28 [v]) (d:AP W q 3 [.int .i64 4]) (e:OS v (4*K)) (f:K≤100000):
  AK prog 156 [.func (.func 231) #[] #[.pointer (some ⟨p,0,none⟩), .pointer (some ⟨q,0,none⟩)]] W (fun r a=>Below W.heap.size W a∧a.ownsRow W.heap.size 28 1 r K (parts v K)):=by
 refine Az (n:=5) func156 O<|Ad<|Ab O<|Be<|Ac O<|Ai O O (Nw p q K v W b d e f) ?_
 rintro r a ⟨g,c⟩
 exact Ab rfl<|Ay<|As rfl rfl<|⟨g,c⟩
theorem MD:∀(i:Nat) (t:List (BitVec 8)),(nums t).drop i=nums (t.drop (4*i))
 |0,t=>by simp
 |i+1,t=>by
  by_cases h:4≤t.length
  ·rw [Pt h,List.drop_succ_cons,MD i,drop_drop,show 4+4*i=4*(i+1) by omega]
  ·rw [JS (show t.length<4 by omega),List.drop_nil,JS (by rw [length_drop];omega)]
theorem ME {i:Nat} {t:List (BitVec 8)} (h:4*i+4≤t.length):(nums t).getD i default=gf ((t.drop (4*i)).take 4):=by
 have e:=MD i t
 rw [Pt (l:=t.drop (4*i)) (by rw [length_drop];omega)] at e
 have a:(nums t)[i]? =some (gf (t.drop (4*i))):=by
  have:((nums t).drop i)[0]? =some (gf (t.drop (4*i))):=by rw [e];rfl
  rwa [getElem?_drop] at this
 rw [getD_eq_getElem?_getD,a]
 simp [gf]
theorem Rx {v:Value} {K i:Nat} (h:i<K):(parts v K).getD i default=cutp v 1 (4*i) (4*i+4):=by
 simp [parts,h]
theorem Rm {w:World} {v:Value} {t:List (BitVec 8)} {i:Nat} (h:BO b8 w v t) (b:4*i+4≤t.length):BO b8 w (cutp v 1 (4*i) (4*i+4)) ((t.drop (4*i)).take 4):=by
 have a:=Sl.cutp h (i:=4*i) (j:=4*i+4) (by omega) b
 have l:((t.drop (4*i)).take 4).length=4:=by rw [length_take,length_drop];omega
 unfold BO
 rw [l]
 rw [show 4*i+4 - 4*i=4 by omega,Nat.mul_one,Nat.mul_one,← map_drop,← map_take] at a
 exact a
theorem P7 (v:Value) (l:List (BitVec 8)) (w:World) (b:BO b8 w v l) (c:4≤l.length):AK prog 159 [v] w (fun r a=>r=i32 (gf l)∧Below w.heap.size w a):=by
 refine Az (n:=6) func159 O<|Ad<|Aa (Ce (show _=some (i32 (0#32)) from rfl)) O<|Be<|Ac O<|Ai O O (Sg v l w b c) ?_
 rintro _ e ⟨rfl,d⟩
 exact Aa (E7 Ih KS rfl) rfl<|Ab rfl<|Ay<|As rfl rfl<|⟨rfl,d⟩
theorem TO (v q:Value) (t:List (BitVec 8)) (K:Nat) (w:World) (y:BO (fun x:Value=>x) w v (parts q K)) (J:BO b8 w q t) (H:t.length=4*K) (Q:K≤4096):
  AK prog 158 [v, .func (.func 159) #[] #[]] w (fun r j=>j.ownsRow w.heap.size 21 1 r (nums t).length ((nums t).map i32)∧Below w.heap.size w j):=by
 have D:=H2 q K
 have A:=JT K t H
 obtain ⟨l,F⟩:∃l,l=nums t:=⟨_,rfl⟩
 rw [← F] at A ⊢
 have M:=y.le
 refine Az (n:=26) func158 O<|Ad<|Ab O<|Be<|Ac O<|Aa (Ap GH O ‹_›) O ?_
 refine Bc (Eg BP HJ O O O (AU _) (by omega) (by omega)) O ?_
 rintro x C ⟨a, -,d, -⟩
 have f:=y.bs d
 obtain ⟨z,E⟩:∃z,z=replicate l.length 0#32:=⟨_,rfl⟩
 have o:l.length=z.length:=by rw [E,length_replicate]
 have G:(replicate (parts q K).length [Value.int .i32 0]).flatten=z.map i32:=by rw [E,D,← A];exact Iw (enc:=i32) (z:=0#32) l.length
 rw [G] at a
 refine Ab O<|Bi<|Ac O<|Aa (Ap GH O ‹_›) O ?_
 refine Ac O<|Ak<|An ?_
 refine Bl (S:=Nat) (fun i=>[(1, .func (.func 159) #[] #[]),(5,x),(11,v),(12, .int .i64 ((parts q K).length:Int)),(13, .int .i64 (i:Int))]) (fun i j=>i≤l.length∧j.ownsRow w.heap.size 21 1 x l.length ((l.take i++z.drop i).map i32)∧Below w.heap.size w j) (fun i=>l.length - i) (0) ⟨rfl,rfl,rfl,rfl,rfl,trivial⟩ ?_ ?_
 ·exact ⟨by omega,by rw [L4,A,← D];exact a,d⟩
 clear a d f
 rintro i C ⟨T,a,d⟩
 have f:=y.bs d
 refine Ad<|Bz O<|Ak<|Ao<|Aq O ?_ ?_
 ·intro h
  have c:i<l.length:=by simp at h;omega
  have s:i<K:=by omega
  have m:4*i+4≤t.length:=by omega
  have B:=Rm (J.bs d) m
  have R:((t.drop (4*i)).take 4).length=4:=by rw [length_take,length_drop];omega
  have L:gf ((t.drop (4*i)).take 4)=l.getD i default:=by rw [F];exact (ME m).symm
  refine Bw<|Ao<|An<|Ad<|Ac O<|Aa (Bh GH O O ‹_› _ O (by omega)) O ?_
  refine Aa (Ex.as (Bo (DM _) O f (by omega)) (Rx s)) O<|Ab O<|Ab O<|Ak<|Bn<|Ac O<|Ac O<|Ac O<|Ac O<|Eo (p:=[]) O O O (P7 (cutp q 1 (4*i) (4*i+4)) ((t.drop (4*i)).take 4) C B (by omega)) ?_
  rintro _ U ⟨rfl,g⟩
  rw [L]
  have a:=AI a g
  have u:=(AF a).shp
  refine Aa (Dn BP O O u i O c) O<|Bv (Et (QY _) O O O a (by simp;omega)) ?_
  rintro N ⟨k,I, -⟩
  rw [← map_set,ND o (by omega)] at k
  refine Bd<|Bg<|B6<|B1 O (by omega)<|Ac O<|Bd ?_
  exact Ar (Bp (i+1) ⟨rfl,rfl,rfl,rfl,rfl,trivial⟩ (⟨c,k,(bt d g).grown I (AA (bt d g)) fun b e=>(AB a b e).1⟩) (by omega))
 intro h
 have c:i=l.length:=by simp at h;omega
 subst c
 rw [o,NF o,← o] at a
 exact Bk<|Aj<|Aj<|A0<|Cb<|Ac rfl<|Ab rfl<|Ay<|As rfl rfl<|⟨a,d⟩
theorem Qs (v:Value) (n:BitVec 32) (t:List (BitVec 8)) (W:World) (h:BO b8 W v (Crc.four n++t)) (m:t.length=4*n.toNat) (f:n.toNat≤4096):
  AK prog 55 [v] W (fun r C=>Below W.heap.size W C∧∃y e,r= .tuple #[y, .int .i64 e, .int .i64 0]∧C.ownsRow W.heap.size 21 1 y (nums t).length ((nums t).map i32)):=by
 have A:=Below.refl W.heap.size W
 have lt:(Crc.four n++t).length=4+4*n.toNat:=by rw [length_append,m];rfl
 have K:gf (Crc.four n++t)=n:=RF n
 have E:¬(Crc.four n++t).length<4:=by omega
 refine Az (n:=33) func55 O<|Ad<|Ab O<|Ab O<|Ab O<|Be<|Ac O<|Ai O O (Lo v (Crc.four n++t) _ h) ?_
 rintro _ w ⟨rfl,d⟩
 rw [if_neg E,if_neg E,K]
 have A:=A.bs d
 have h:=h.bs d
 refine Ac O<|Aa (Bt (i:=0) O O) O<|Aa (Bt (i:=1) O O) O<|Ab O<|Ab O<|Bi<|Ac O<|Aa (Ct O O) O<|Ak<|Bu O false (rfl)<|Bw<|Ao<|Ad<|Ac O<|Aa (Dh O O) O<|Ak<|Aq O ?_ ?_
 ·intro g
  have g:=AC g
  omega
 intro g
 clear g
 obtain ⟨T,J⟩:∃T,T=4+4*n.toNat:=⟨_,rfl⟩
 refine Bw<|Ao<|Ad<|Ac O<|Aa (Gg Ih Jt O) O<|Aa (Dv O O (by omega)) O<|Aa (Ex.as (Dp O O (by omega)) (cngA (Value.int .i64) (show 4+4*(n.toNat:Int)=(T:Int) by omega))) O<|Ab O<|Be<|Ac O<|Ac O<|Aa (Ap AL O ‹_›) O ?_
 refine Aa (Dh O O) O<|Ak<|Aq O ?_ ?_
 ·intro g
  have g:=AC g
  omega
 intro g
 clear g
 have a:BO b8 w (cut v 1 4 T) t:=by
  have:=BO.drop h (i:=4) (by omega)
  rw [lt,← J] at this
  exact this
 have D:=a.shp
 rw [m] at D
 refine Cs<|Ac O<|Ac O<|Aa (Ex.cutLH (i:=4) (j:=T) AL O O O h (by omega) (by omega)) O<|Ai O O (TI (cut v 1 4 T) w a.one) ?_
 rintro _ G ⟨d,p,q,rfl,L,H,l,z⟩
 have k:=bt A d
 have a:=a.bs d
 refine Ai O O (Qx p q n.toNat (cut v 1 4 T) G l z D (by omega)) ?_
 rintro r F ⟨c,s⟩
 have b:=bt k c
 have a:=a.bs c
 have B:BO (fun x:Value=>x) F r (parts (cut v 1 4 T) n.toNat):=by
  have:=AF s
  unfold BO
  rw [H2,List.map_id']
  exact this
 have I:=AA b
 refine Ab O<|Be<|Ac O<|Ai O O (TO r (cut v 1 4 T) t n.toNat F B a m f) ?_
 rintro y M ⟨u,o⟩
 exact Ac rfl<|Ab rfl<|Ab rfl<|Ab rfl<|Ay<|Ds rfl rfl rfl rfl<|⟨bt b o,y,_,rfl,BY u I⟩

theorem Qz (A:Nat) (x:Value) (w:World) (a:AP w A 4 [x]):
  CallsD prog 154 [Value.pointer (some ⟨A,0,none⟩)].toArray (.panicking [{v:=SM,recovered:=false}]) w fun e f b=>e= .returned (.tuple #[])∧f= .panicking [{v:=SM,recovered:=true}]∧(AP b A 4 [.bool false]∧w.grownBy b (some A)):=by
 refine Nm (n:=10) func154 O (fun ρ=>rfl) O O O fun p cs=> ?_
 have m:=DB (Below.refl w.heap.size w) (some A)
 refine An<|Ad<|Aa (Ex.eqNilF (by kernel_rfl) O) O<|Ak<|Bu O false (rfl)<|Ad<|Aa (Gh (fun _=>by kernel_rfl) O) O<|Aa (Bt (i:=1) O O) O<|Aa (Bt (i:=0) O O) O<|Ak<|Bu O true (rfl)<|Ad<|Cz (cs:=[]) UA O O O O (fun _=>rfl) (rfl) ?_
 rintro k o c g d l
 have a:=a.bs d
 refine Ak<|Bn<|Bv (C5 (u:= .bool false) (NG _) O O O a Nat.zero_lt_one) ?_
 rintro q ⟨j,h, -⟩
 exact Bd<|Bg<|Gb rfl<|⟨rfl,rfl,j,ET (DB d _) h⟩
theorem Qy (A:Nat) (w:World):
  CallsD prog 154 [Value.pointer (some ⟨A,0,none⟩)].toArray .returning w fun e b a=>e= .returned (.tuple #[])∧b= .returning∧a=w:=by
 refine Nl (n:=10) func154 O (fun ρ=>rfl) O O O fun c cs=>An<|Ad<|Aa (Ex.eqNilT (by kernel_rfl) O) O<|Ak<|Bu O true (rfl)<|Bn<|Ab O<|Bd<|Bg<|Gb O ?_
 exact ⟨rfl,rfl,rfl⟩
theorem PI (F:FuncId) (caps:List Value) (W:World) (R K:Nat→World→Prop)
  (o:∀A w,A=W.heap.size→Below W.heap.size W w→AP w A 4 [.bool false]→Ls prog F caps w SM (fun r b=>r= .tuple #[]∧AP b A 4 [.bool false]∧R A b) (fun b=>AP b A 4 [.bool false]∧K A b)):
  AK prog 50 [.func (.func F) #[] caps.toArray] W (fun r b=>∃A h,A=W.heap.size∧h.grownBy b (some A)∧((r= .bool true∧R A h)∨(r= .bool false∧K A h))):=by
 refine Gp (n:=6) func50 (by kernel_rfl) O O O<|Ee<|Dr (by kernel_rfl)<|Du VH O ?_
 rintro A w j e t -
 refine Bd (Pg.low ?_)
 refine Dl (Ef ?_)
 refine Ee<|Fz<|Lg.plain 1 (by kernel_rfl)<|Aa (E2 (vs:=[]) (us:=[.pointer (some ⟨A,0,none⟩)]) O O) O ?_
 refine Bd (Pg.low ?_)
 refine Gn<|Lg.defer (f:=154) (caps:=[.pointer (some ⟨A,0,none⟩)]) O<|Lg.nil ?_
 refine Dl (Ef ?_)
 refine Ee<|Dr (by kernel_rfl)<|Ac O ?_
 have l:∀w,(invoke (.fn (.func 154) [Value.pointer (some ⟨A,0,none⟩)].toArray) #[]).run prog w= .ok (.enter 154 [Value.pointer (some ⟨A,0,none⟩)].toArray) w:=fun w=>by
  simp [invoke,EY (P:=prog) (w:=w) ⟨_,func154,by kernel_rfl,rfl⟩]
 refine Lw.callVQ (caps:=caps) O O (o A w j t e) (fun b s=>Pg.lowP (Pg.thenP ?_)) ?_
 ·obtain ⟨d,m⟩:=s
  refine Pg.panD (l b) (Qz A _ b d) ?_
  rintro k ⟨i,c⟩ a g
  exact ⟨_,HI (v:= .bool false) rfl i underlying4 rfl (g.has 2 _ rfl),A,b,j,c, .inr ⟨rfl,m⟩⟩
 rintro _ p ⟨rfl,d,q⟩
 refine Bd (Pg.low ?_)
 refine Dl (Ef ?_)
 refine Ee<|Dr (by kernel_rfl)<|Bv (C5 (u:= .bool true) (NG _) O O O d Nat.zero_lt_one) ?_
 rintro k ⟨i,c, -⟩
 refine Bd (Pg.low ?_)
 refine Dl (Ef ?_)
 exact Cg.ret<|Pg.retD (l k) (Qy A k) fun a g=>⟨_,HI (v:= .bool true) rfl i underlying4 rfl (g.has 2 _ rfl),A,p,j,c, .inl ⟨rfl,q⟩⟩
end Go.Proofs.YtblbopcaflaldaaGreatDoor
