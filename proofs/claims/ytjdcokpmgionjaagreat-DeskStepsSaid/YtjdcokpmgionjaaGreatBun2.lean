/-
  Laws and contracts.
-/
import Derived.Test.YtjdcokpmgionjaaGreatBun1
set_option linter.unusedSimpArgs false
set_option linter.unusedVariables false
set_option maxRecDepth 100000
set_option maxHeartbeats 20000000
namespace Go.Proofs.YtjdcokpmgionjaaGreat
open Proofs.Tryz Go.RowKit Go.Shelf
def ZSa (C:List (List Int)) (a b:Nat):Bool:=decide (a=b) || decide (Srv C a b)
structure OkShp (x:Shp):Prop where
 legs:Qc x.legs 1 7=true
 souls:Qc x.souls 1 60=true
 cats5:x.cats.length≤5
 cats0:0<x.cats.length
 cabs12:x.cabs.length≤12
 cabs0:0<x.cabs.length
 ok:OkCats x.cats
 rnd:∀k,¬Srv (QZ x.cats) k k
 names:Qn (nmE (Qw x.cats) (XN x.cats)) x.cats.length=0
 cabs:Qn (nmE (Qv x.cabs) (fun k=>QDa x.cats.length (x.cabs.getD k default))) x.cabs.length=0
theorem Q6a (cats:List Cat):(QZ cats).length=cats.length:=by unfold QZ;rw[List.length_map]
theorem Voa {x:Shp}(h:Z9 x=0):OkShp x:=by
 unfold Z9 at h;by_cases h1:Qc x.legs 1 7=false∨Qc x.souls 1 60=false
 ·rw[M3 h1]at h;omega
 rw[M2 h1]at h;by_cases h2:5<x.cats.length∨12<x.cabs.length
 ·rw[M3 h2]at h;omega
 rw[M2 h2]at h;by_cases h3:x.cats.length=0∨x.cabs.length=0
 ·rw[M3 h3]at h;omega
 rw[M2 h3]at h;by_cases h4:Qn (nmE (Qw x.cats) (XN x.cats)) x.cats.length≠0
 ·rw[M3 h4]at h;exact absurd h h4
 rw[M2 h4]at h;by_cases h5:Y0 (QZ x.cats) x.cats.length=true
 ·rw[M3 h5]at h;omega
 rw[M2 h5]at h;have A:=ZIa (cats:=x.cats) (nms:=Qw x.cats) (by omega) (by simpa using h4);refine⟨?_,?_,by omega,by omega,by omega,by omega,A,fun k=>Vmb A.inC (by rw[Q6a];simpa using h5) k,by simpa using h4,h⟩
 ·cases hh:Qc x.legs 1 7
  ·exact absurd (.inl hh) h1
  ·rfl
 ·cases hh:Qc x.souls 1 60
  ·exact absurd (.inr hh) h1
  ·rfl
theorem YIb (F I:Int)(A:Option Addr)(n cap:Nat)(cats:List Cat)(J:Value)(a b:Nat)(w:World)(h:Sl UX 2 w All A n cap cats)(Z:OkCats cats)(ha:a<n)(hb:b<n) :
  Calls prog 173 #[.agg #[.int .i64 F,.int .i64 I,.slice A n cap,J],.int .i64 (a:Int),.int .i64 (b:Int)] w fun e w'=>e=.returned (.bool (ZSa (QZ cats) a b))∧yw w w':=by
 have hl:=h.len;have h5:=Z.five
 have aj:n≤5:=by omega
 have am:=fun W hW=>V7a F I A n cap cats J b W hW Z hb;have ac:=yh am;clear am;have af:=yh h;obtain⟨r,hr⟩:=yE (ZSa (QZ cats) a b);rw[←hr];have U:=yh hr;clear hr;clear h hl h5;go_enter func173,ntmps173;go_upto_region 0 with(fail);go_cut [3,6] (fun p _ wx=>∃g,yp p g∧Blk wx g #[.int .i64 F,.int .i64 I,.slice A n cap,J] 25∧yw w wx)
 case first=>as_aux_lemma=>
  go_wp2_with fail;go_meet;exact⟨_,rfl,Zk _ _,Qi _ _⟩
 obtain⟨g,rfl,D,E⟩:=hcut;have c0:yI wc g 0 F:=D.cell rfl;have c1:yI wc g 1 I:=D.cell rfl;have c2:yJ wc g 2 A n cap:=D.cell rfl;have c3:wc.cell? ⟨g,3,none⟩=some J:=D.cell rfl;by_cases he:a=b
 ·subst he
  have hr:r=true:=by rw[U.out];unfold ZSa;rw[J2 rfl];rfl
  subst hr;go_wp2_with fail;go_ret;exact⟨rfl,E⟩
 ·have ak:((a:Int)==(b:Int))=false:=by rw[beq_eq_false_iff_ne];omega
  have ae:=yh (show r=decide (Srv (QZ cats) a b)by rw[U.out];unfold ZSa;rw[J3 he];rfl);have Y:=ac wc (af.bel E);have ad:=yh Y;clear Y;clear he;go_wp2_with fail;refine ad.mono ?_;rintro e w2 ⟨G,m,rfl,aa,ai,ab,ah,X⟩;have e0:=aa.cell (i:=a) (by omega);obtain⟨v,Q⟩:=yE (m.getD a 0);rw[←Q]at e0;have O:=ab a;rw[←Q]at O;have ag:=E.trans (X.mono E.size);have V:=yh O;clear O;clear ab ah aa X Q;go_wp2_with fail;go_ret;refine⟨Ux ?_,ag⟩;rw[ae.out];by_cases h0:0<v
  ·rw[J2 h0,J2 (V.out.1 h0)]
  ·rw[J3 h0,J3 (fun h=>h0 (V.out.2 h))]
def Vkb (n:Nat):Cod Nat:=fun _ _ b cs=>cs=[.slice (some ⟨b,0,none⟩) n n]
theorem XCa (n:Nat):XM (Vkb n):=fun _ _ _ _ _ _ h=>h
theorem Qca (n:Nat):Good (Vkb n):=.of_flat (XCa n) fun h u A=>by cases h;simp at A;subst A;rfl
instance ptrK (n:Nat):CodK (Vkb n) 1:=⟨Qca n,by omega⟩
def Xv (n:Nat) (f:Nat→Bool):Array Value:=((List.range n).map (fun b=>Value.bool (f b))).toArray
theorem Qqc {n:Nat}{f:Nat→Bool}{j:Nat}(h:j<n):(Xv n f)[j]? = some (.bool (f j)):=by
 unfold Xv;rw[List.getElem?_toArray,List.getElem?_map,List.getElem?_range h];rfl
theorem X4b {n:Nat}{f:Nat→Bool}{j:Nat}(v:Bool):(Xv n f).set! j (.bool v)=Xv n (fun b=>if b=j then v else f b):=by
 unfold Xv;apply Array.ext';simp only[Array.set!_eq_setIfInBounds,List.setIfInBounds_toArray];apply List.ext_getElem?;intro i;rw[List.getElem?_set];simp only[List.length_map,List.length_range,List.getElem?_map];by_cases h:j=i
 ·subst h;by_cases hj:j<n
  ·rw[M3 rfl,M3 hj,List.getElem?_range hj];simp
  ·rw[M3 rfl,M2 hj,List.getElem?_eq_none (by simpa using hj)];rfl
 ·rw[M2 h]
  cases hr:(List.range n)[i]? with
  | none=>rfl
  | some b=>
   have D:b=i:=by
    have A:=(J0.1 hr).2
    simpa using A.symm
   subst D;simp only[Option.map_some];rw[M2 (fun e=>h e.symm)]
theorem QKa {n:Nat}{f g:Nat→Bool}(h:∀j,j<n→f j=g j):Xv n f=Xv n g:=by
 unfold Xv
 congr 1
 exact List.map_congr_left fun j A=>by rw[h j (List.mem_range.1 A)]
theorem Veb {l:List Nat}(h:l.Nodup){i j x:Nat}(Q:l[i]? = some x)(U:l[j]? = some x):i=j:=by
 have J:=List.pairwise_iff_getElem.1 h;obtain⟨F,D⟩:=J0.1 Q;obtain⟨I,E⟩:=J0.1 U;rcases Nat.lt_trichotomy i j with A|O|A
 ·exact absurd (D.trans E.symm) (J i j F I A)
 ·exact O
 ·exact absurd (E.trans D.symm) (J j i I F A)
structure TabB (w:World) (base n:Nat) (v:Value) (bls:List Nat) (T:Nat→Nat→Bool):Prop where
 own:∃xs,Own (Vkb n) 1 205 w base v bls xs
 nod:bls.Nodup
 row:∀(a b:Nat),bls[a]? = some b→base≤b∧some b≠v.ownBlock∧Blk w b (Xv n (T a)) 4
theorem TabB.bel {w w':World}{base n:Nat}{v:Value}{E:List Nat}{T:Nat→Nat→Bool}(h:TabB w base n v E T)(F:yw w w'):TabB w' base n v E T:=by
 obtain⟨⟨xs,J⟩,I,A⟩:=h;exact⟨⟨xs,J.bel F⟩,I,fun a b D=>⟨(A a b D).1,(A a b D).2.1,(A a b D).2.2.bel F⟩⟩
theorem TabB.congr {w:World}{base n:Nat}{v:Value}{D:List Nat}{T T':Nat→Nat→Bool}(h:TabB w base n v D T)(O:∀a j,a<D.length→j<n→T a j=T' a j):TabB w base n v D T':=by
 obtain⟨F,I,E⟩:=h;refine⟨F,I,fun a b A=>⟨(E a b A).1,(E a b A).2.1,?_⟩⟩;rw[←QKa (fun j J=>O a j (J0.1 A).1 J)];exact(E a b A).2.2
theorem TabB.form {w:World}{base n:Nat}{v:Value}{A:List Nat}{T:Nat→Nat→Bool}(h:TabB w base n v A T)(U:0<A.length):∃o cap,v=.slice (some ⟨o,0,none⟩) A.length cap∧base≤o∧o<w.heap.size∧A.length≤cap:=by
 obtain⟨⟨xs,J⟩,_,_⟩:=h;rcases J.row.2 with⟨D,Q⟩|⟨g,cap,O,D,E,F,I,_⟩
 ·omega
 ·exact⟨g,cap,D,E,(Array.getElem?_eq_some_iff.1 F).1,I⟩
theorem TabB.outer {w:World}{base n m cap o:Nat}{D:List Nat}{T:Nat→Nat→Bool}(h:TabB w base n (.slice (some ⟨o,0,none⟩) m cap) D T){a b:Nat}(E:D[a]? = some b):w.cell? ⟨o,a,none⟩=some (.slice (some ⟨b,0,none⟩) n n):=by
 obtain⟨⟨xs,O⟩,_,_⟩:=h;obtain⟨A,W,U,J,Q⟩:=O.sl (Qca n);injection J with e1 e2 e3;subst e1 e2 e3;obtain⟨b',X,cs,Y,_,F,V,I⟩:=Q.rd a b E;injection Y with Y;injection Y with h1 h2 _;subst h1 h2;cases F
 simpa using I 0 _ rfl
theorem TabB.inner {w:World}{base n:Nat}{v:Value}{A:List Nat}{T:Nat→Nat→Bool}(h:TabB w base n v A T){a b j:Nat}(D:A[a]? = some b)(E:j<n):w.cell? ⟨b,j,none⟩=some (.bool (T a j)):=
 (h.row a b D).2.2.cell (Qqc E)
theorem TabB.free {w:World}{base n:Nat}{v:Value}{A:List Nat}{T:Nat→Nat→Bool}(h:TabB w base n v A T){a b:Nat}(D:A[a]? = some b)(j:Nat):w.frozen? ⟨b,j,none⟩=false:=(h.row a b D).2.2.free j
theorem TabB.set {w:World}{base n:Nat}{v:Value}{I:List Nat}{T:Nat→Nat→Bool}(h:TabB w base n v I T){i D:Nat}(F:I[i]? = some D)(j:Nat)(u:Bool) :
  TabB (w.setCell ⟨D,j,none⟩ (.bool u)) base n v I (fun a b=>if a=i∧b=j then u else T a b):=by
 obtain⟨⟨xs,Q⟩,J,E⟩:=h;refine⟨⟨xs,ZM (XCa n) Q (fun e=>(E i D F).2.1 e.symm) _⟩,J,fun a b A=>⟨(E a b A).1,(E a b A).2.1,?_⟩⟩;by_cases he:a=i
 ·subst he
  obtain rfl:b=D:=by rw[A]at F;injection F
  have:=Blk.set (j:=j) (E a b A).2.2 (.bool u);rw[X4b]at this;rw[QKa (g:=fun b=>if b=j then u else T a b) (fun k _=>by simp)];exact this
 ·have O:D≠b:=fun e=>he (by
   subst e
   exact Veb J A F)
  rw[QKa (g:=T a) (fun k _=>by simp[he])];exact(E a b A).2.2.other O _
theorem TabB.snoc {w w':World}{base n:Nat}{v v':Value}{D:List Nat}{T:Nat→Nat→Bool}{b:Nat}{xs:List Value}(h:TabB w base n v D T)(ho:Own (Vkb n) 1 205 w' base v' (D++[b]) xs)(Y:w.grownBy w' v.ownBlock)
  (U:v'.ownBlock=v.ownBlock∨v'.ownBlock=some w.heap.size) (V:base≤b) (W:b<w.heap.size) (X:some b≠v.ownBlock) (Z:b∉D) (aa:Blk w b (Xv n (T D.length)) 4):TabB w' base n v' (D++[b]) T:=by
 obtain⟨_,O,F⟩:=h;refine⟨⟨xs,ho⟩,?_,fun a c A=>?_⟩
 ·rw[List.nodup_append];refine⟨O,by simp,fun x hx y J=>?_⟩;simp only[List.mem_singleton]at J;subst J;rintro rfl;exact Z hx
 ·have E:base≤c∧c<w.heap.size∧some c≠v.ownBlock∧Blk w c (Xv n (T a)) 4:=by
   by_cases hlt:a<D.length
   ·rw[List.getElem?_append_left hlt]at A;exact⟨(F a c A).1,(F a c A).2.2.lt,(F a c A).2⟩
   ·rw[List.getElem?_append_right (by omega)]at A
    have Q:a-D.length=0:=by have:=(J0.1 A).1;simp at this;omega
    rw[Q]at A;simp at A;subst A
    obtain rfl:a=D.length:=by omega
    exact⟨V,W,X,aa⟩
  refine⟨E.1,?_,E.2.2.2.grown Y E.2.2.1⟩;rcases U with e|e<;>rw[e]
  ·exact E.2.2.1
  ·intro I;injection I with I;have:=E.2.1;omega
def tpF (C:List (List Int)) (b k a b':Nat):Bool:=if b'<b then decide ((a:Int)∈C.getD b' [])else if b'=b then decide ((a:Int)∈(C.getD b []).take k)else false
theorem Ysb (C:List (List Int))(a b:Nat):tpF C 0 0 a b=false:=by
 unfold tpF;rw[M2 (by omega)]
 split<;>simp
theorem Yqb (C:List (List Int))(b:Nat)(a b':Nat):tpF C b (C.getD b []).length a b'=tpF C (b+1) 0 a b':=by
 unfold tpF;by_cases h1:b'<b
 ·rw[M3 h1,M3 (by omega)]
 ·rw[M2 h1];by_cases h2:b'=b
  ·subst h2;rw[M3 rfl,M3 (by omega),List.take_length]
  ·rw[M2 h2,M2 (by omega)]
   split<;>simp
theorem Ypb (C:List (List Int))(a b:Nat):tpF C C.length 0 a b=Zc C 0 a b:=by
 unfold tpF Zc;by_cases h1:b<C.length
 ·rw[M3 h1]
 ·rw[M2 h1,VG (C:=C) (b:=C.length) (by omega),VG (C:=C) (b:=b) (by omega)]
  split<;>simp
theorem Yrb (C:List (List Int))(b k h:Nat)(A:(C.getD b [])[k]? = some (h:Int))(a b':Nat):(if a=h∧b'=b then true else tpF C b k a b')=tpF C b (k+1) a b':=by
 unfold tpF;by_cases h1:b'<b
 ·rw[M3 h1,M3 h1,M2 (by omega)]
 ·rw[M2 h1,M2 h1];by_cases h2:b'=b
  ·subst h2;rw[M3 rfl,M3 rfl,Qo A];by_cases h3:a=h
   ·subst h3;rw[M3 ⟨rfl,rfl⟩];simp
   ·rw[M2 (fun e=>h3 e.1)]
    have:¬(a:Int)=(h:Int):=by omega
    simp[this]
  ·rw[M2 h2,M2 h2,M2 (fun e=>h2 e.2)]
def twF (C:List (List Int)) (m a b a' b':Nat):Bool:=if a'<a∨(a'=a∧b'<b)then Zc C (m+1) a' b' else Zc C m a' b'
theorem YAb (C:List (List Int))(m a b:Nat):twF C m 0 0 a b=Zc C m a b:=by unfold twF;rw[M2 (by omega)]
theorem Yxb (C:List (List Int))(m a n A b':Nat)(h:b'<n):twF C m a n A b'=twF C m (a+1) 0 A b':=by
 unfold twF;by_cases h1:A<a+1
 ·rw[M3 (by omega),M3 (by omega)]
 ·rw[M2 (by omega),M2 (by omega)]
theorem Ywb (C:List (List Int))(m n A b':Nat)(h:A<n):twF C m n 0 A b'=Zc C (m+1) A b':=by unfold twF;rw[M3 (by omega)]
theorem QNc (C:List (List Int))(m a b x:Nat):twF C m a b x m=Zc C m x m:=by unfold twF;split;(exact QLc C m x);rfl
theorem QOc (C:List (List Int))(m a b y:Nat):twF C m a b m y=Zc C m m y:=by unfold twF;split;(exact QMc C m y);rfl
theorem Yyb (C:List (List Int))(m a b:Nat):twF C m a b a b=Zc C m a b:=by unfold twF;rw[M2 (by omega)]
theorem Yzb (C:List (List Int))(m a b A b':Nat):(if A=a∧b'=b then (Zc C m a b || (Zc C m a m && Zc C m m b))else twF C m a b A b')=twF C m a (b+1) A b':=by
 unfold twF;by_cases h1:A=a∧b'=b
 ·rw[M3 h1,M3 (by omega)];obtain⟨rfl,rfl⟩:=h1
  rfl
 ·rw[M2 h1];by_cases h2:A<a∨(A=a∧b'<b)
  ·rw[M3 h2,M3 (by omega)]
  ·rw[M2 h2,M2 (by omega)]
theorem XFb (W:World):(Instr.makeSlice 205 (.int .i64 0) (.int .i64 0)).run prog W=.ok (.slice (some ⟨W.heap.size,0,none⟩) 0 0) (W.alloc (.cells (Xv 0 fun _=>false) 4)):=by kernel_rfl
theorem XGb (W:World):(Instr.makeSlice 205 (.int .i64 1) (.int .i64 1)).run prog W=.ok (.slice (some ⟨W.heap.size,0,none⟩) 1 1) (W.alloc (.cells (Xv 1 fun _=>false) 4)):=by kernel_rfl
theorem XHb (W:World):(Instr.makeSlice 205 (.int .i64 2) (.int .i64 2)).run prog W=.ok (.slice (some ⟨W.heap.size,0,none⟩) 2 2) (W.alloc (.cells (Xv 2 fun _=>false) 4)):=by kernel_rfl
theorem XIb (W:World):(Instr.makeSlice 205 (.int .i64 3) (.int .i64 3)).run prog W=.ok (.slice (some ⟨W.heap.size,0,none⟩) 3 3) (W.alloc (.cells (Xv 3 fun _=>false) 4)):=by kernel_rfl
theorem XJb (W:World):(Instr.makeSlice 205 (.int .i64 4) (.int .i64 4)).run prog W=.ok (.slice (some ⟨W.heap.size,0,none⟩) 4 4) (W.alloc (.cells (Xv 4 fun _=>false) 4)):=by kernel_rfl
theorem XKb (W:World):(Instr.makeSlice 205 (.int .i64 5) (.int .i64 5)).run prog W=.ok (.slice (some ⟨W.heap.size,0,none⟩) 5 5) (W.alloc (.cells (Xv 5 fun _=>false) 4)):=by kernel_rfl
theorem Y9b (n:Nat)(A:n≤5)(W:World):(Instr.makeSlice 205 (.int .i64 n) (.int .i64 n)).run prog W=.ok (.slice (some ⟨W.heap.size,0,none⟩) n n) (W.alloc (.cells (Xv n fun _=>false) 4)):=by
 have h:n=0∨n=1∨n=2∨n=3∨n=4∨n=5:=by omega
 rcases h with rfl|rfl|rfl|rfl|rfl|rfl
 ·exact XFb W
 ·exact XGb W
 ·exact XHb W
 ·exact XIb W
 ·exact XJb W
 ·exact XKb W
theorem XXb:ElemOf prog 203 205 1 24:=.mk' underlying203 (z:=.slice none 0 0) (by kernel_rfl) rfl (by omega)
theorem Zzc (n:Nat)(w:World)(S:Nat→Prop)(b:Nat)(t:TypeId)(A:S w.heap.size):Sl (Vkb n) 1 (w.alloc (.cells #[.slice (some ⟨b,0,none⟩) n n] t)) S (some ⟨w.heap.size,0,none⟩) 1 1 [b]:=
 Sl.lit1 w S t b [.slice (some ⟨b,0,none⟩) n n] rfl A
theorem YO (aL aM:Int)(A:Option Addr)(n cap:Nat)(cats:List Cat)(vc:Value)(w:World)(h:Sl UX 2 w All A n cap cats)(ho:OkCats cats)(bg:0<n) :
  Calls prog 144 #[.agg #[.int .i64 aL,.int .i64 aM,.slice A n cap,vc]] w fun e w'=>∃D o J E,e=.returned (.slice (some ⟨o,0,none⟩) n J)∧E.length=n∧
   TabB w' D n (.slice (some ⟨o,0,none⟩) n J) E (Zc (QZ cats) n)∧yw w w':=by
 have hl:=h.len;have h5:=ho.five
 have a0:n≤5:=by omega
 have bf:=fun W=>Y9b n a0 W;have aT:=yh h;have av:=yh (show(QZ cats).length=n by rw[Q6a];exact hl);have HO:=yh ho;clear ho;clear h h5 hl;go_enter func144,ntmps144;go_upto_region 0 with(fail);go_cut [1,2] (fun p _ V=>∃g,yp p g∧Blk V g #[.int .i64 aL,.int .i64 aM,.slice A n cap,vc] 25∧yw w V)
 case first=>as_aux_lemma=>
  go_wp2_with fail;go_meet;exact⟨_,rfl,Zk _ _,Qi _ _⟩
 obtain⟨g,rfl,hG,I⟩:=hcut;have g2:yJ wc g 2 A n cap:=hG.cell rfl;have HG:=yh hG;have HB:=yh I;obtain⟨Q,rfl⟩:=yE wc;clear hG I;obtain⟨D,aB⟩:=yE Q.heap.size;have al:=yh aB;have aO:=yh (show Below D Q Q from J4 _ _);clear aB;go_upto_block 0 with(fail);go_cut [4,5] (fun v _ V=>∃o J E,v=.slice (some ⟨o,0,none⟩) n J∧E.length=n∧TabB V D n v E (fun _ _=>false)∧Below D Q V)
 case first=>as_aux_lemma=>
  go_wp2_with fail
  go_loopg [4,5] n (fun gk v i wr=>∃(k:Nat) (E:List Nat),k≤n∧n-k≤gk∧i=.int .i64 k∧E.length=k∧TabB wr D n v E (fun _ _=>false)∧Below D Q wr)
  case atStart=>exact⟨0,[],M0 _,by omega,rfl,rfl,⟨⟨[],Own.nil _ _ _ _ _⟩,by simp,by simp⟩,aO⟩
  case round=>
   obtain⟨k,E,hk,aZ,rfl,Y,hT,I⟩:=hrel;by_cases hlt:k<n
   ·obtain⟨xs,ah⟩:=hT.own;obtain⟨A5,n5,c5,rfl,_⟩:=ah.sl (Qca n)
    have aJ:D≤wr.heap.size:=by have:=al.out;have:=I.size;omega
    have ar:=Zzc n (wr.alloc (.cells (Xv n fun _=>false) 4)) All wr.heap.size 205 trivial;rw[show(wr.alloc (.cells (Xv n fun _=>false) 4)).heap.size=wr.heap.size+1 by simp]at ar;have F:=Zo wr (.cells (Xv n fun _=>false) 4) (.cells #[.slice (some ⟨wr.heap.size,0,none⟩) n n] 205);have aC:=ah.bel F;have ab:=yh (hT.bel F);have ak:=yh (I.trans (F.mono aJ));have aH:=QE wr (.cells (Xv n fun _=>false) 4) (.cells #[.slice (some ⟨wr.heap.size,0,none⟩) n n] 205);have aS:=yh aH;have ax:=yh (ah.lt)
    have aQ:=yh (show wr.heap.size∉E from fun hm=>by
     obtain⟨a,ha,he⟩:=List.getElem_of_mem hm;have:=(hT.row a wr.heap.size (by rw[J1 ha,he])).2.2.lt
     omega)
    have aI:D≤((wr.alloc (.cells (Xv n fun _=>false) 4)).alloc (.cells #[.slice (some ⟨wr.heap.size,0,none⟩) n n] 205)).heap.size:=by simp;omega
    have aR:=yh aC;have aU:=yh ar;have bn:=yh Y;clear ah aC F hT I aH ar Y;go_wp2_with (at_builtin;refine QC (t:=203) (e:=205) (bytes:=24) rfl (.tmp 19) (.tmp 22) rfl XXb (Qca n) rfl aR rfl aU (fun _ _ hc=>hc) (by rw[bn.out];omega) (by omega) aI ?_;intro v' w' bl aG ap aD;have O:=yh (ab.snoc aG ap aD aJ (by simp;omega) (fun e=>by have:=(ax _ e.symm).2;omega) aQ aS);have U:=yh (ak.grown ap aI (fun j hj=>(ax j hj).1));clear aG ap aD);go_roundg (n-(k+1))
    case measure=>omega
    case rel=>exact⟨k+1,E++[wr.heap.size],by omega,by omega,by go_num,by rw[J9,bn.out];rfl,O,U⟩
   ·obtain rfl:k=n:=by omega
    obtain⟨o,J,rfl,_⟩:=hT.form (by omega);have HT:=yh hT;have U:=yh I;have bn:=yh Y;clear hT I Y;go_wp2_with fail;go_meet;exact⟨o,J,E,by rw[bn.out],bn,HT,U⟩
 obtain⟨o,J,E,rfl,Y,hT,I⟩:=hcut;have az:=yh (hT.congr (T':=tpF (QZ cats) 0 0) (fun a j _ _=>(Ysb _ a j).symm));have au:=yh I;have bn:=yh Y;clear hT I Y;have aA:=yh (show w.heap.size≤D by rw[al.out];exact HB.size);have am:=yh (fun X (hX:Below D Q X)=>aT.bel (HB.trans (hX.mono aA)));have aw:=yh (fun X (hX:Below D Q X)=>(show X.cell? ⟨g,2,none⟩=some (.slice A n cap)from(World.cell?_of_block (a:=⟨g,2,none⟩) (hX.block g (by rw[al.out];exact HG.lt))).trans g2));have an:=yh (fun(b:Nat) (x:Cat) (hx:cats[b]? = some x)=>ZDa cats b hx)
 have ay:=yh (show ∀(b k:Nat) (x:Cat) (y:Int),cats[b]? = some x→x.high[k]? = some y→0≤y∧y<n from fun b k x y hx hy=>by
  have:=HO.inC.getD (b:=b) (h:=y) (by rw[ZDa cats b hx];exact J6 hy)
  rw[av.out]at this;exact this)
 have Y:=bn.out;clear g2;go_upto_block 2 with(fail);go_cut [6,7] (fun _ _ V=>TabB V D n (.slice (some ⟨o,0,none⟩) n J) E (Zc (QZ cats) 0)∧Below D Q V)
 case first=>as_aux_lemma=>
  go_wp2_with fail
  go_loopg [6,7] n (fun gk i _ wr=>∃b:Nat,b≤n∧n-b≤gk∧i=.int .i64 b∧TabB wr D n (.slice (some ⟨o,0,none⟩) n J) E (tpF (QZ cats) b 0)∧Below D Q wr)
  case atStart=>exact⟨0,M0 _,by omega,rfl,az,au⟩
  case round=>
   obtain⟨b,I,aY,rfl,hT,F⟩:=hrel;have HT:=yh hT;have aa:=yh F;clear hT F;by_cases hlt:b<n
   ·obtain⟨bb,bi,x,c0,c1,rfl,hx,⟨A2,n2,a9,aE,aq,a1⟩,e0,e1⟩:=(am _ aa).at2 hlt;simp only[List.cons.injEq,and_true]at aE;obtain⟨rfl,rfl⟩:=aE;have HX:=yh hx;have aP:=yh aq.len
    have bq:n2≤5:=by rw[←aq.len];exact HO.few x (J6 hx)
    clear aq a1 hx e0 e1;go_wp2_with fail
    go_loopg [7] n2 (fun gk i wr=>∃k:Nat,k≤n2∧n2-k≤gk∧i=.int .i64 k∧TabB wr D n (.slice (some ⟨o,0,none⟩) n J) E (tpF (QZ cats) b k)∧Below D Q wr)
    case atStart=>exact⟨0,M0 _,by omega,rfl,HT,aa⟩
    case round=>
     obtain⟨k,hk,aZ,rfl,hT,F⟩:=hrel;have q2:=aw _ F;obtain⟨a6,bj,x',a7,a8,ao,ad,⟨a2,aj,ba,aF,ae,aK⟩,e0,e1⟩:=(am _ F).at2 hlt;injection ao with ao;injection ao with h1 h2 _;subst h1 h2;have ai:=HX.out;rw[ad]at ai;injection ai with ai;subst ai;simp only[List.cons.injEq,and_true]at aF;obtain⟨rfl,rfl⟩:=aF
     obtain rfl:aj=n2:=by rw[←ae.len,aP.out]
     have a5:=yh hT;have af:=yh F;by_cases hkn:k<aj
     ·obtain⟨b3,bk,y,d0,rfl,hy,⟨hd,_⟩,f0⟩:=ae.at1 hkn;simp only[List.cons.injEq,and_true]at hd;obtain rfl:=hd;obtain⟨y0,y1⟩:=ay b k x' y ad hy;obtain⟨h,rfl⟩:=Int.eq_ofNat_of_zero_le y0
      have be:h<n:=by omega
      obtain⟨bh,ac⟩:∃bh,E[h]? = some bh:=⟨_,J1 (by omega)⟩;have r0:=hT.outer ac;have r1:=hT.inner ac (j:=b) hlt;have r2:=hT.free ac b;have O:=yh ((hT.set ac b true).congr (T':=tpF (QZ cats) b (k+1)) (fun a j _ _=>Yrb (QZ cats) b k h (by rw[an.out b x' ad];exact hy) a j));have U:=yh (F.setCell (p:=⟨bh,b,none⟩) (hT.row h bh ac).1 (.bool true));clear hT F hy ac aK ae ad;go_wp2_with fail;go_roundg (aj-(k+1))
      case measure=>omega
      case rel=>exact⟨k+1,by omega,by omega,by go_num,O,U⟩
     ·obtain rfl:k=aj:=by omega
      have O:=yh (hT.congr (T':=tpF (QZ cats) (b+1) 0) (fun a j _ _=>by
       have:=Yqb (QZ cats) b a j;rw[an.out b x' ad,ae.len]at this
       exact this))
      clear hT F aK ae ad;go_wp2_with fail;go_roundg (n-(b+1))
      case measure=>omega
      case rel=>exact⟨b+1,by omega,by omega,by go_num,O,af⟩
   ·obtain rfl:b=n:=by omega
    have aW:=yh (HT.congr (T':=Zc (QZ cats) 0) (fun a j _ _=>by have:=Ypb (QZ cats) a j;rw[av.out]at this;exact this));go_wp2_with fail;go_meet;exact⟨aW,aa⟩
 obtain⟨hT,I⟩:=hcut;have aV:=yh hT;have aN:=yh I;clear hT I az au an ay am aw;go_upto_block 6 with(fail);go_cut [8,9,10] (fun _ _ _ V=>TabB V D n (.slice (some ⟨o,0,none⟩) n J) E (Zc (QZ cats) n)∧Below D Q V)
 case first=>as_aux_lemma=>
  go_wp2_with fail
  go_loopg [8,9,10] n (fun gk i _ _ wr=>∃m:Nat,m≤n∧n-m≤gk∧i=.int .i64 m∧TabB wr D n (.slice (some ⟨o,0,none⟩) n J) E (Zc (QZ cats) m)∧Below D Q wr)
  case atStart=>exact⟨0,M0 _,by omega,rfl,aV,aN⟩
  case round=>
   obtain⟨m,hm,bd,rfl,hT,F⟩:=hrel;have HT:=yh (hT.congr (T':=twF (QZ cats) m 0 0) (fun a j _ _=>(YAb _ _ _ _).symm));have aX:=yh hT;have aa:=yh F;clear hT F;by_cases hmn:m<n
   ·obtain⟨bm,ag⟩:∃bm,E[m]? = some bm:=⟨_,J1 (by omega)⟩;go_wp2_with fail
    go_loopg [9,10] n (fun gk i _ wr=>∃a:Nat,a≤n∧n-a≤gk∧i=.int .i64 a∧TabB wr D n (.slice (some ⟨o,0,none⟩) n J) E (twF (QZ cats) m a 0)∧Below D Q wr)
    case atStart=>exact⟨0,M0 _,by omega,rfl,HT,aa⟩
    case round=>
     obtain⟨a,ha,bc,rfl,hT,F⟩:=hrel;have ab:=yh hT;have af:=yh F;clear hT F;by_cases han:a<n
     ·obtain⟨Z,bo⟩:∃Z,E[a]? = some Z:=⟨_,J1 (by omega)⟩;go_wp2_with fail
      go_loopg [10] n (fun gk i wr=>∃b:Nat,b≤n∧n-b≤gk∧i=.int .i64 b∧TabB wr D n (.slice (some ⟨o,0,none⟩) n J) E (twF (QZ cats) m a b)∧Below D Q wr)
      case atStart=>exact⟨0,M0 _,by omega,rfl,ab,af⟩
      case round=>
       obtain⟨b,I,aY,rfl,hT,F⟩:=hrel;by_cases hbn:b<n
       ·have r0:=hT.outer bo;have r1:=hT.outer ag;have s0:=hT.inner bo (j:=b) hbn;have s1:=hT.inner bo (j:=m) hmn;have s2:=hT.inner ag (j:=b) hbn;have f0:=hT.free bo b;rw[Yyb]at s0;rw[QNc]at s1;rw[QOc]at s2;have O:=yh ((hT.set bo b (Zc (QZ cats) m a b || (Zc (QZ cats) m a m && Zc (QZ cats) m m b))).congr (T':=twF (QZ cats) m a (b+1)) (fun a' j _ _=>Yzb (QZ cats) m a b a' j));have U:=yh (fun u=>F.setCell (p:=⟨Z,b,none⟩) (hT.row a Z bo).1 u);obtain⟨t1,h1⟩:=yE (Zc (QZ cats) m a b);obtain⟨t2,h2⟩:=yE (Zc (QZ cats) m a m);obtain⟨t3,h3⟩:=yE (Zc (QZ cats) m m b);rw[←h1]at s0 O;rw[←h2]at s1 O;rw[←h3]at s2 O;have a4:=yh ag;have a3:=yh bo;clear h1 h2 h3 hT F ag bo;cases t1
        ·cases t2
         ·go_wp2_with fail;go_region
          all_goals
           go_wp2_with fail;go_roundg (n-(b+1))
           case measure=>omega
           case rel=>exact⟨b+1,by omega,by omega,by go_num,(show TabB (wr.setCell ⟨Z,b,none⟩ (.bool false)) D n (.slice (some ⟨o,0,none⟩) n J) E (twF (QZ cats) m a (b+1))from O).bel (J4 _ _).drew,(U _).drew⟩
         ·go_wp2_with fail;go_region
          all_goals
           go_wp2_with fail;go_roundg (n-(b+1))
           case measure=>omega
           case rel=>exact⟨b+1,by omega,by omega,by go_num,(show TabB (wr.setCell ⟨Z,b,none⟩ (.bool t3)) D n (.slice (some ⟨o,0,none⟩) n J) E (twF (QZ cats) m a (b+1))from O).bel (J4 _ _).drew,(U _).drew⟩
        ·go_wp2_with fail;go_region
         all_goals
          go_wp2_with fail;go_roundg (n-(b+1))
          case measure=>omega
          case rel=>exact⟨b+1,by omega,by omega,by go_num,(show TabB (wr.setCell ⟨Z,b,none⟩ (.bool true)) D n (.slice (some ⟨o,0,none⟩) n J) E (twF (QZ cats) m a (b+1))from O).bel (J4 _ _).drew,(U _).drew⟩
       ·obtain rfl:b=n:=by omega
        have O:=yh (hT.congr (T':=twF (QZ cats) m (a+1) 0) (fun a' j _ hj=>Yxb (QZ cats) m a b a' j hj));have U:=yh F;clear hT F;go_wp2_with fail;go_roundg (b-(a+1))
        case measure=>omega
        case rel=>exact⟨a+1,by omega,by omega,by go_num,O,U⟩
     ·obtain rfl:a=n:=by omega
      have O:=yh (ab.congr (T':=Zc (QZ cats) (m+1)) (fun a' j bp _=>Ywb (QZ cats) m a a' j (by omega)));go_wp2_with fail;go_roundg (a-(m+1))
      case measure=>omega
      case rel=>exact⟨m+1,by omega,by omega,by go_num,O,af⟩
   ·obtain rfl:m=n:=by omega
    go_wp2_with fail;go_meet;exact⟨aX,aa⟩
 obtain⟨hT,I⟩:=hcut;have ab:=yh hT;have ak:=yh (HB.trans (I.mono aA));clear hT I;go_wp2_with fail;go_ret;exact⟨D,o,J,E,rfl,bn,ab,ak⟩
theorem VFa (I J:Int)(A:Option Addr)(n cap:Nat)(cats:List Cat)(O:Value)(a b:Nat)(w:World)(h:Sl UX 2 w All A n cap cats)(ho:OkCats cats)(ha:a<n)(hb:b<n) :
  Calls prog 209 #[.agg #[.int .i64 I,.int .i64 J,.slice A n cap,O],.int .i64 (a:Int),.int .i64 (b:Int)] w fun e w'=>e=.returned (.bool (ZSa (QZ cats) a b))∧yw w w':=by
 have aa:=fun W hW=>YO I J A n cap cats O W hW ho (by omega);have ag:=yh aa;clear aa;have ad:=yh (show(QZ cats).length=n by rw[Q6a];exact h.len);have af:=yh h;obtain⟨r,hr⟩:=yE (ZSa (QZ cats) a b);rw[←hr];have V:=yh hr;clear hr;clear h;go_enter func209,ntmps209;go_upto_region 0 with(fail);go_cut [3,6] (fun p _ wx=>∃g,yp p g∧Blk wx g #[.int .i64 I,.int .i64 J,.slice A n cap,O] 25∧yw w wx)
 case first=>as_aux_lemma=>
  go_wp2_with fail;go_meet;exact⟨_,rfl,Zk _ _,Qi _ _⟩
 obtain⟨g,rfl,E,F⟩:=hcut;have c0:yI wc g 0 I:=E.cell rfl;have c1:yI wc g 1 J:=E.cell rfl;have c2:yJ wc g 2 A n cap:=E.cell rfl;have c3:wc.cell? ⟨g,3,none⟩=some O:=E.cell rfl;by_cases he:a=b
 ·subst he
  have hr:r=true:=by rw[V.out];unfold ZSa;rw[J2 rfl];rfl
  subst hr;go_wp2_with fail;go_ret;exact⟨rfl,F⟩
 ·have ak:((a:Int)==(b:Int))=false:=by rw[beq_eq_false_iff_ne];omega
  have ae:=yh (show r=decide (Srv (QZ cats) a b)by rw[V.out];unfold ZSa;rw[J3 he];rfl);have Y:=ag wc (af.bel F);have ac:=yh Y;clear Y;clear he;go_wp2_with fail;refine ac.mono ?_;rintro e w2 ⟨BS,o,ai,ah,rfl,aj,Q,X⟩;obtain⟨ba,U⟩:∃ba,ah[a]? = some ba:=⟨_,J1 (by omega)⟩;have r0:=Q.outer U;have r1:=Q.inner U (j:=b) hb;have D:=Yea (C:=QZ cats) a b;rw[ad.out]at D;obtain⟨s,Z⟩:=yE (Zc (QZ cats) n a b);rw[←Z]at r1 D
  have HS:=yh (show r=s by
   rw[ae.out];cases s
   ·exact J3 (fun h=>absurd (D.2 h) (by simp))
   ·exact J2 (D.1 rfl))
  have ab:=yh (F.trans (X.mono F.size));clear Z D U Q X;go_wp2_with fail;go_ret;exact⟨Ux HS.symm,ab⟩
theorem Zt {W X:World}{p j:Nat}{v:Value}(D:yw W X)(A:W.cell? ⟨p,j,none⟩=some v):X.cell? ⟨p,j,none⟩=some v:=(World.cell?_of_block (a:=⟨p,j,none⟩) (D.block _ (ZT A))).trans A
theorem XP {α:Type}[DecidableEq α][BEq α][LawfulBEq α]{l:List α}{k:Nat}{x y:α}(h:l[k]? = some x):(l.take (k+1)).contains y=((l.take k).contains y || decide (x=y)):=by
 rw[Qo h,Bool.eq_iff_iff,Bool.or_eq_true,List.contains_iff_mem,List.contains_iff_mem,List.mem_append,List.mem_singleton,decide_eq_true_iff,@eq_comm _ y x]
theorem XQ {α:Type}[BEq α][LawfulBEq α]{l:List α}{k n:Nat}{x y:α}(h:l[k]? = some x)(D:k<n)(A:x=y):(l.take n).contains y=true:=by
 subst A;refine List.contains_iff_mem.2 (List.mem_take_iff_getElem.2 ⟨k,?_,?_⟩)
 ·have:=(J0.1 h).1;omega
 ·exact(J0.1 h).2
theorem VDa (x:Shp)(A:Option Addr)(n cap:Nat)(B:Option Addr)(m aH:Nat)(w:World)(hc:Sl UX 2 w All A n cap x.cats)(hb:Sl Ut 4 w All B m aH x.cabs) :
  Calls prog 68 #[.agg #[.int .i64 x.legs,.int .i64 x.souls,.slice A n cap,.slice B m aH]] w fun e w'=>e=.returned (.int .i64 (Z9 x))∧yw w w':=by
 obtain⟨aD,aE,cats,F⟩:=x;simp only at hc hb ⊢;have aZ:=hc.len;have aX:=hb.len;obtain⟨r,D⟩:=yE (Z9 ⟨aD,aE,cats,F⟩);rw[←D];have HR:=yh D;clear D;have ar:=yh aZ;clear aZ;have a5:=yh aX;clear aX;have HC:=yh hc;clear hc;have a2:=yh hb;clear hb;go_enter func68,ntmps68;go_upto_region 0 with(fail);go_cut [1,2] (fun p _ O=>∃g,yp p g∧ShpAt O g aD aE A n cap B m aH∧yw w O)
 case first=>as_aux_lemma=>
  go_wp2_with fail;go_meet;exact⟨_,rfl,Zk _ _,Qi _ _⟩
 obtain⟨g,rfl,hG,hb⟩:=hcut;obtain⟨g0,g1,g2,g3⟩:=hG.all;have ac:=fun W=>Qj aD 1 7 W;have aC:=fun W=>Qj aE 1 60 W;cases b1:Qc aD 1 7
 ·have D:r=3:=by rw[HR.out];unfold Z9;rw[M3 (.inl b1)]
  subst D;rw[b1]at ac;clear b1;go_wp2_with fail;refine(ac _).mono ?_;rintro e w9 ⟨rfl,rfl⟩;go_wp2_with fail;go_ret;exact⟨rfl,hb⟩
 have bs:=yh b1;rw[b1]at ac;clear b1;go_wp2_with fail;refine(ac _).mono ?_;rintro e w9 ⟨rfl,rfl⟩;clear ac;cases b2:Qc aE 1 60
 ·have D:r=3:=by rw[HR.out];unfold Z9;rw[M3 (.inr b2)]
  subst D;rw[b2]at aC;clear b2;go_wp2_with fail;refine(aC _).mono ?_;rintro e w9 ⟨rfl,rfl⟩;go_wp2_with fail;go_ret;exact⟨rfl,hb⟩
 have aB:=HR.out;unfold Z9 at aB;rw[M2 (by rw[bs.out,b2];simp)]at aB;simp only[ar.out,a5.out]at aB;have aF:=yh aB;clear aB;rw[b2]at aC;clear b2;go_wp2_with fail;refine yN (aC _) ?_;clear aC;by_cases h0:5<n
 ·have D:r=2:=by rw[aF.out,M3 (.inl h0)]
  subst D;go_wp2_with fail;go_ret;exact⟨rfl,hb⟩
 by_cases U:12<m
 ·have D:r=2:=by rw[aF.out,M3 (.inr U)]
  subst D;go_wp2_with fail;go_ret;exact⟨rfl,hb⟩
 have aG:=yh (aF.trans (M2 (by omega)));by_cases I:n=0
 ·have D:r=5:=by rw[aG.out,M3 (.inl I)]
  subst D;subst I;go_wp2_with fail;go_ret;exact⟨rfl,hb⟩
 by_cases Y:m=0
 ·have D:r=5:=by rw[aG.out,M3 (.inr Y)]
  subst D;subst Y;go_wp2_with fail;go_ret;exact⟨rfl,hb⟩
 have ba:=yh (aG.trans (M2 (by omega)));have d1:decide ((5:Int)<(n:Int))=false:=J3 (by omega);have d2:decide ((12:Int)<(m:Int))=false:=J3 (by omega)
 have d3:((n:Int)==0)=false:=by simpa using I
 have d4:((m:Int)==0)=false:=by simpa using Y
 obtain⟨W1,rfl⟩:=yE wc;have HG:=yh hG;have E:=yh hb;have aJ:=ba.out;obtain⟨e1,aI⟩:=yE (Qn (nmE (Qw cats) (XN cats)) n);obtain⟨e2,af⟩:=yE (Qn (nmE (Qv F) (fun k=>QDa n (F.getD k default))) m);obtain⟨q,hq⟩:=yE (Y0 (QZ cats) n);rw[←aI,←af,←hq]at aJ;have HQ:=yh hq;have aO:=yh aI;have a7:=yh af
 have aa:=yh (show ∀(k:Nat) (c:Int),k<n→Qn (nmE (Qw cats) (XN cats)) k=0→nmE (Qw cats) (XN cats) k=c→c≠0→r=c from fun k c hk U I Y=>by
  have:e1=c:=by rw[aI,Z1 U (by rw[I];exact Y) hk,I]
  rw[aJ,M3 (by rw[this];exact Y),this])
 have bV:=yh aJ;clear aJ;clear hG hb aI af hq HR aF aG ba;have aZ:=ar.out;have aX:=a5.out
 have bR:n≤5:=by omega
 have bP:m≤12:=by omega
 go_upto_block 0 with(fail);go_cut [3,4,5,6,7] (fun _ _ _ _ _ O=>Aside (e1=0)∧yw W1 O)
 case first=>as_aux_lemma=>
  go_wp2_with fail
  go_loopg [3,4,5,6,7] n (fun gk i _ _ _ _ wr=>∃k:Nat,k≤n∧n-k≤gk∧i=.int .i64 k∧Aside (Qn (nmE (Qw cats) (XN cats)) k=0)∧yw W1 wr)
  case atStart=>exact⟨0,M0 _,by omega,rfl,rfl,J4 _ _⟩
  case round=>
   obtain⟨k,hk,bo,rfl,J,hb⟩:=hrel;have q2:=Zt hb g2;have Z:=yh (E.trans (hb.mono E.size));by_cases hlt:k<n
   ·obtain⟨bb,bI,x,c0,c1,rfl,hx,⟨A2,X,bi,ay,a1,ap⟩,e0,al⟩:=(HC.bel Z.out).at2 hlt;simp only[List.cons.injEq,and_true]at ay;obtain⟨rfl,rfl⟩:=ay
    have aA:(Qw cats)[k]? = some x.name:=by unfold Qw;rw[List.getElem?_map,hx];rfl
    have HV:=yh (show nmE (Qw cats) (XN cats) k=if VI x.name=false then 1 else if ((Qw cats).take k).contains x.name then 6 else XN cats k by unfold nmE;rw[VW aA])
    have bW:XN cats k=Qn (UQ n x.high) X:=by unfold XN;rw[VW hx,ar.out,a1.len]
    have bz:=yh (a1.all Qd (by omega));have bv:=yh bW;have ab:=yh (fun W=>UZa x.name W ap);have bK:=yh ap;clear hx a1 aA bW ap;go_upto_region 10 with(fail);go_cut [4] (fun p O=>∃z,yp p z∧Blk O z #[Zf x.name,.slice A2 X bi] 134∧yw wr O)
    case first=>as_aux_lemma=>
     go_wp2_with fail;go_meet;exact⟨_,rfl,Zk _ _,Qi _ _⟩
    obtain⟨z,rfl,hz,am⟩:=hcut;have bA:=yh (bz.bel am);have ax:=hb.trans (am.mono hb.size);obtain⟨W2,rfl⟩:=yE wc;have z0:W2.cell? ⟨z,0,none⟩=some (Zf x.name):=hz.cell rfl;have z1:yJ W2 z 1 A2 X bi:=hz.cell rfl;have HZ:=yh hz;have ah:=yh ax;clear hb am ax hz q2 e0 al Z;have Z:=yh (E.trans (ah.mono E.size));cases b1:VI x.name
    ·have D:r=1:=aa k 1 hlt J (by rw[HV.out,M3 b1]) (by decide);subst D;rw[b1]at ab;clear b1;go_wp2_with fail;refine(ab _).mono ?_;rintro e w2 ⟨rfl,rfl⟩;go_wp2_with fail;go_ret;exact⟨rfl,Z.out⟩
    have av:=yh (HV.trans (M2 (by rw[b1];simp)));rw[b1]at ab;clear b1;go_wp2_with fail;refine(ab _).mono ?_;rintro e W2 ⟨rfl,rfl⟩;go_upto_block 2 with(fail);go_cut [5] (fun _ O=>Aside (((Qw cats).take k).contains x.name=false)∧yw W2 O)
    case first=>as_aux_lemma=>
     go_wp2_with fail
     go_loopg [5] k (fun gk i wr=>∃j:Nat,j≤k∧k-j≤gk∧i=.int .i64 j∧Aside (((Qw cats).take j).contains x.name=false)∧yw W2 wr)
     case atStart=>exact⟨0,M0 _,by omega,rfl,rfl,J4 _ _⟩
     case round=>
      obtain⟨j,hj,bn,rfl,HJ,hb⟩:=hrel;by_cases hjk:j<k
      ·have ae:=ah.trans (hb.mono ah.size);have q2:=Zt ae g2;have y0:=Zt hb z0;obtain⟨bB,bJ,y,bD,bE,ak,hy,⟨A3,n3,bF,az,_,_⟩,e0,al⟩:=(HC.bel (E.trans (ae.mono E.size))).at2 (show j<n by omega);injection ak with ak;injection ak with U I _;subst U I;simp only[List.cons.injEq,and_true]at az;obtain⟨rfl,rfl⟩:=az
       have ag:(Qw cats)[j]? = some y.name:=by unfold Qw;rw[List.getElem?_map,hy];rfl
       have aw:=yh ag;have ai:=yh (E.trans (ae.mono E.size));obtain⟨V,an⟩:=yE x.name;obtain⟨ny,ao⟩:=yE y.name;rw[←an]at y0;rw[←ao]at e0;unfold Zf at y0 e0;clear ag hy ae;have bf:=yh (show ny=V↔y.name=x.name by rw[an,ao]);clear an ao z0 z1;by_cases hne:ny=V
       ·have D:r=6:=aa k 6 hlt J (by rw[av.out,M3 (XQ aw.out hjk (bf.out.1 hne))]) (by decide);subst D;subst hne;go_wp2_with fail;go_quiet (fail);go_wp2_with fail;go_ret;exact⟨rfl,below_drewN ai _⟩
       ·have aY:(ny==V)=false:=by simpa using hne
        have Q:=yh (show((Qw cats).take (j+1)).contains x.name=false by rw[XP aw.out,show((Qw cats).take j).contains x.name=false from HJ,J3 (fun h=>hne (bf.out.2 h))];rfl);go_wp2_with fail;go_quiet (fail);go_wp2_with fail;go_roundg (k-(j+1))
        case measure=>omega
        case rel=>exact⟨j+1,by omega,by omega,by go_num,Q,below_drewN hb _⟩
      ·obtain rfl:j=k:=by omega
       go_wp2_with fail;go_meet;exact⟨HJ,hb⟩
    obtain⟨HJ,hb⟩:=hcut;have aj:=yh ((av.trans (M2 (by rw[show((Qw cats).take k).contains x.name=false from HJ];simp))).trans bv)
    have aP:=yh (show ∀(i:Nat) (c:Int),i<X→Qn (UQ n x.high) i=0→UQ n x.high i=c→c≠0→r=c from fun i c hi U I Y=>
     aa k c hlt J (by rw[aj.out,Z1 U (by rw[I];exact Y) hi,I]) Y)
    have aS:=yh (bA.bel hb);have w1:=Zt hb z1;have ad:=yh (ah.trans (hb.mono ah.size));have w2:=Zt ad g2;have bQ:X≤9223372036854775807:=aS.bd;obtain⟨W5,rfl⟩:=yE wc;clear hb z0 z1;go_wp2_with fail
    go_loopg [6,7] X (fun gk i _ wr=>∃j:Nat,j≤X∧X-j≤gk∧i=.int .i64 j∧Aside (Qn (UQ n x.high) j=0)∧yw W5 wr)
    case atStart=>exact⟨0,M0 _,by omega,rfl,rfl,J4 _ _⟩
    case round=>
     obtain⟨j,hj,bn,rfl,au,hb⟩:=hrel;have y1:=Zt hb w1;have y2:=Zt hb w2;have aM:=yh (ad.trans (hb.mono ad.size));by_cases hjk:j<X
     ·obtain⟨b3,bS,y,d0,rfl,hy,⟨hd,_⟩,f5⟩:=aS.at1 hjk;simp only[List.cons.injEq,and_true]at hd;obtain rfl:=hd;have f0:=Zt hb f5;have aQ:=yh (show UQ n x.high j=if Qc y 0 ((n:Int)-1)=false then 3 else if (x.high.take j).contains y then 6 else 0 by unfold UQ;rw[VW hy]);have HY:=yh hy;have bt:=yh hb;clear hy hb;by_cases hy0:y<0
      ·have D:r=3:=aP j 3 hjk au (by rw[aQ.out,M3 (QM (.inl hy0))]) (by decide);subst D;go_wp2_with fail;go_quiet (fail);go_wp2_with fail;go_ret;exact⟨rfl,below_drewN (E.trans (aM.mono E.size)) _⟩
      by_cases ag:(n:Int)≤y
      ·have D:r=3:=aP j 3 hjk au (by rw[aQ.out,M3 (QM (.inr (by omega)))]) (by decide);subst D;go_wp2_with fail;go_quiet (fail);go_wp2_with fail;go_ret;exact⟨rfl,below_drewN (E.trans (aM.mono E.size)) _⟩
      have a8:=yh (aQ.trans (M2 (by rw[Zg (by omega) (by omega)];simp)));go_wp2_with fail;go_quiet (fail);have aY:=below_drewN bt nq;clear y1 y2 f0;go_wp2_with fail
      go_loopg [7] j (fun gk i wr=>∃s:Nat,s≤j∧j-s≤gk∧i=.int .i64 s∧Aside ((x.high.take s).contains y=false)∧yw W5 wr)
      case atStart=>exact⟨0,M0 _,by omega,rfl,rfl,aY⟩
      case round=>
       obtain⟨s,hs,bO,rfl,HS,hb⟩:=hrel;have bu:=yh (ad.trans (hb.mono ad.size));by_cases hsj:s<j
       ·obtain⟨b4,bT,y',d4,aV,br,⟨bl,_⟩,f6⟩:=aS.at1 (show s<X by omega);injection aV with aV;injection aV with U I _;subst U I;simp only[List.cons.injEq,and_true]at bl;obtain rfl:=bl;have y1:=Zt hb w1;have f0:=Zt hb f5;have f1:=Zt hb f6;have bh:=yh br;have aL:=yh hb;clear br hb w1 w2 f5 f6;by_cases hyy:y'=y
        ·have D:r=6:=aP j 6 hjk au (by rw[a8.out,M3 (XQ bh.out hsj hyy)]) (by decide);subst D;subst hyy;go_wp2_with fail;go_quiet (fail);go_wp2_with fail;go_ret;exact⟨rfl,below_drewN (E.trans (bu.mono E.size)) _⟩
        ·have bN:(y'==y)=false:=by simpa using hyy
         have Q:=yh (show(x.high.take (s+1)).contains y=false by rw[XP bh.out,show(x.high.take s).contains y=false from HS,J3 hyy];rfl);go_wp2_with fail;go_quiet (fail);go_wp2_with fail;go_roundg (j-(s+1))
         case measure=>omega
         case rel=>exact⟨s+1,by omega,by omega,by go_num,Q,below_drewN aL _⟩
       ·obtain rfl:s=j:=by omega
        have Q:=yh (show Qn (UQ n x.high) (s+1)=0 from Z8 au (by rw[a8.out,show(x.high.take s).contains y=false from HS];rfl));have aL:=yh hb;clear hb;go_wp2_with fail;go_roundg (X-(s+1))
        case measure=>omega
        case rel=>exact⟨s+1,by omega,by omega,by go_num,Q,aL⟩
     ·obtain rfl:j=X:=by omega
      have Q:=yh (show Qn (nmE (Qw cats) (XN cats)) (k+1)=0 from Z8 J (by rw[aj.out];exact au));go_wp2_with fail;go_roundg (n-(k+1))
      case measure=>omega
      case rel=>exact⟨k+1,by omega,by omega,by go_num,Q,aM⟩
   ·obtain rfl:k=n:=by omega
    have HE:=yh (show e1=0 by rw[aO.out];exact J);go_wp2_with fail;go_meet;exact⟨HE,hb⟩
 obtain⟨aN,hb⟩:=hcut;have aR:=yh (show r=if q=true then 4 else e2 from bV.trans (M2 (by rw[show e1=0 from aN];simp)));have bp:=ZIa (cats:=cats) (nms:=Qw cats) (by omega) (by rw[ar.out,←aO.out];exact aN);have ah:=yh (E.trans (hb.mono E.size));have bq:=YO aD aE A n cap cats (.slice B m aH) wc (HC.bel ah) bp (by omega);have x0:=Zt hb g0;have x1:=Zt hb g1;have x2:=Zt hb g2;have x3:=Zt hb g3;have a3:=yh hb;have a6:=yh (show(QZ cats).length=n by rw[Q6a];exact ar);have be:=yh bq;clear bq;clear hb bp aa bV aN aO;go_wp2_with fail;refine be.mono ?_;rintro e w2 ⟨BS,o,bF,bC,rfl,bH,hT,bj⟩;have HT:=yh hT;have a4:=yh (a3.trans (bj.mono a3.size));clear x0 x1 x2 x3 hT bj;obtain⟨W8,bG⟩:=yE w2;subst bG;go_upto_block 8 with(fail);go_cut [9] (fun _ O=>Aside (q=false)∧O=W8)
 case first=>as_aux_lemma=>
  go_wp2_with fail
  go_loopg [9] n (fun gk i wr=>∃k:Nat,k≤n∧n-k≤gk∧i=.int .i64 k∧Aside (Y0 (QZ cats) k=false)∧wr=W8)
  case atStart=>exact⟨0,M0 _,by omega,rfl,rfl,rfl⟩
  case round=>
   obtain⟨k,hk,bo,rfl,J,rfl⟩:=hrel;by_cases hlt:k<n
   ·obtain⟨bk,aW⟩:∃bk,bC[k]? = some bk:=⟨_,J1 (by omega)⟩;have r0:=HT.outer aW;have r1:=HT.inner aW (j:=k) hlt;have aK:=Yea (C:=QZ cats) k k;rw[a6.out]at aK;obtain⟨s,hs⟩:=yE (Zc (QZ cats) n k k);rw[←hs]at r1 aK;have bg:=yh aK;clear aK;clear hs aW;cases s
    ·have Q:=yh (show Y0 (QZ cats) (k+1)=false by rw[XEa,show Y0 (QZ cats) k=false from J,J3 (fun h=>absurd (bg.out.2 h) (by simp))];rfl);go_wp2_with fail;go_roundg (n-(k+1))
     case measure=>omega
     case rel=>exact⟨k+1,by omega,by omega,by go_num,Q,rfl⟩
    ·have D:r=4:=aR.trans (M3 (by rw[HQ.out];exact Vma (bg.1 rfl) hlt));subst D;go_wp2_with fail;go_ret;exact⟨rfl,E.trans (a4.mono E.size)⟩
   ·obtain rfl:k=n:=by omega
    go_wp2_with fail;go_meet;exact⟨(show Aside _ from by rw[HQ.out];exact J),rfl⟩
 obtain⟨a9,rfl⟩:=hcut;have bc:=yh (show r=e2 from aR.trans (M2 (by rw[show q=false from a9];simp)));obtain⟨fc,a0⟩:∃fc:Nat→Int,fc=fun k=>QDa n (F.getD k default):=⟨_,rfl⟩;have af:=a7.out;rw[←a0]at af;have bx:=yh a0
 have aa:=yh (show ∀(k:Nat) (c:Int),k<m→Qn (nmE (Qv F) fc) k=0→nmE (Qv F) fc k=c→c≠0→r=c from fun k c hk U I Y=>by
  rw[bc.out,af,Z1 U (by rw[I];exact Y) hk,I])
 have bw:=yh (show r=Qn (nmE (Qv F) fc) m by rw[bc.out,af]);clear af a0 a9 aR HQ a7 be HT a6 bH;go_wp2_with fail
 go_loopg [10,11,12] m (fun gk i _ _ wr=>∃k:Nat,k≤m∧m-k≤gk∧i=.int .i64 k∧Aside (Qn (nmE (Qv F) fc) k=0)∧yw W1 wr)
 case atStart=>exact⟨0,M0 _,by omega,rfl,rfl,a4⟩
 case round=>
  obtain⟨k,hk,bo,rfl,J,hb⟩:=hrel;have q2:=Zt hb g3;have Z:=yh (E.trans (hb.mono E.size));by_cases hlt:k<m
  ·obtain⟨bb,bI,x,c0,c1,c2,c3,rfl,hx,⟨ay,ap,i1,i2⟩,e0,al,aT,aU⟩:=(a2.bel Z.out).at4 hlt;simp only[List.cons.injEq,and_true]at ay;obtain⟨rfl,rfl,rfl,rfl⟩:=ay
   have aA:(Qv F)[k]? = some x.name:=by unfold Qv;rw[List.getElem?_map,hx];rfl
   have bm:fc k=QDa n x:=by rw[bx.out];show QDa n (F.getD k default)=_;rw[VW hx]
   have HV:=yh (show nmE (Qv F) fc k=if VI x.name=false then 1 else if ((Qv F).take k).contains x.name then 6 else QDa n x by unfold nmE;rw[VW aA,bm]);have ab:=yh (fun W=>UZa x.name W ap);clear hx aA ap bm;go_upto_region 37 with(fail);go_cut [11] (fun p O=>∃z,yp p z∧Blk O z #[Zf x.name,.int .i64 x.cat,.int .i64 x.ber,.bool x.lev] 136∧yw wr O)
   case first=>as_aux_lemma=>
    go_wp2_with fail;go_meet;exact⟨_,rfl,Zk _ _,Qi _ _⟩
   obtain⟨z,rfl,hz,am⟩:=hcut;obtain⟨V,an⟩:=yE x.name;rw[←an]at HV ab hz;have ax:=hb.trans (am.mono hb.size);obtain⟨W2,rfl⟩:=yE wc;have z0:W2.cell? ⟨z,0,none⟩=some (.string ⟨V.toArray⟩):=hz.cell rfl;have z1:yI W2 z 1 x.cat:=hz.cell rfl;have z2:yI W2 z 2 x.ber:=hz.cell rfl;have aq:=yh ax;clear hb am ax hz q2 e0 al aT aU Z an;have Z:=yh (E.trans (aq.mono E.size));cases b1:VI V
   ·have D:r=1:=aa k 1 hlt J (by rw[HV.out,M3 b1]) (by decide);subst D;rw[b1]at ab;clear b1;go_wp2_with fail;refine(ab _).mono ?_;rintro e w2 ⟨rfl,rfl⟩;go_wp2_with fail;go_ret;exact⟨rfl,Z.out⟩
   have av:=yh (HV.trans (M2 (by rw[b1];simp)));rw[b1]at ab;clear b1;go_wp2_with fail;refine(ab _).mono ?_;rintro e W2 ⟨rfl,rfl⟩;go_upto_block 12 with(fail);go_cut [12] (fun _ O=>Aside (((Qv F).take k).contains V=false)∧yw W2 O)
   case first=>as_aux_lemma=>
    go_wp2_with fail
    go_loopg [12] k (fun gk i wr=>∃j:Nat,j≤k∧k-j≤gk∧i=.int .i64 j∧Aside (((Qv F).take j).contains V=false)∧yw W2 wr)
    case atStart=>exact⟨0,M0 _,by omega,rfl,rfl,J4 _ _⟩
    case round=>
     obtain⟨j,hj,bn,rfl,HJ,hb⟩:=hrel;by_cases hjk:j<k
     ·have ae:=aq.trans (hb.mono aq.size);have q2:=Zt ae g3;have y0:=Zt hb z0;obtain⟨bB,bJ,y,bD,bE,bL,bM,ak,hy,⟨az,_,_,_⟩,e0,al,aT,aU⟩:=(a2.bel (E.trans (ae.mono E.size))).at4 (show j<m by omega);injection ak with ak;injection ak with U I _;subst U I;simp only[List.cons.injEq,and_true]at az;obtain⟨rfl,rfl,rfl,rfl⟩:=az
      have ag:(Qv F)[j]? = some y.name:=by unfold Qv;rw[List.getElem?_map,hy];rfl
      have ai:=yh (E.trans (ae.mono E.size));obtain⟨ny,ao⟩:=yE y.name;rw[←ao]at e0 ag;have aw:=yh ag;unfold Zf at e0;clear ag hy ae ao z0 z1 z2 al aT aU;by_cases hne:ny=V
      ·have D:r=6:=aa k 6 hlt J (by rw[av.out,M3 (XQ aw.out hjk hne)]) (by decide);subst D;subst hne;go_wp2_with fail;go_quiet (fail);go_wp2_with fail;go_ret;exact⟨rfl,below_drewN ai _⟩
      ·have aY:(ny==V)=false:=by simpa using hne
       have Q:=yh (show((Qv F).take (j+1)).contains V=false by rw[XP aw.out,show((Qv F).take j).contains V=false from HJ,J3 hne];rfl);go_wp2_with fail;go_quiet (fail);go_wp2_with fail;go_roundg (k-(j+1))
       case measure=>omega
       case rel=>exact⟨j+1,by omega,by omega,by go_num,Q,below_drewN hb _⟩
     ·obtain rfl:j=k:=by omega
      go_wp2_with fail;go_meet;exact⟨HJ,hb⟩
   obtain⟨HJ,hb⟩:=hcut;have aj:=yh (show nmE (Qv F) fc k=if Qc x.cat 0 ((n:Int)-1)=false∨Qc x.ber 1 4=false then 3 else 0 from av.trans (M2 (by rw[show((Qv F).take k).contains V=false from HJ];simp)));have ad:=yh (aq.trans (hb.mono aq.size));have w1:=Zt hb z1;have w2:=Zt hb z2;have w3:=Zt ad g2;have ai:=yh (E.trans (ad.mono E.size));have ac:=fun W=>Qj x.ber 1 4 W;clear hb z0 z1 z2 Z;by_cases hy0:x.cat<0
   ·have D:r=3:=aa k 3 hlt J (by rw[aj.out,M3 (.inl (QM (.inl hy0)))]) (by decide);subst D;go_wp2_with fail;go_ret;exact⟨rfl,ai⟩
   by_cases ag:(n:Int)≤x.cat
   ·have D:r=3:=aa k 3 hlt J (by rw[aj.out,M3 (.inl (QM (.inr (by omega))))]) (by decide);subst D;go_wp2_with fail;go_ret;exact⟨rfl,ai⟩
   cases b2:Qc x.ber 1 4
   ·have D:r=3:=aa k 3 hlt J (by rw[aj.out,M3 (.inr b2)]) (by decide);subst D;rw[b2]at ac;clear b2;go_wp2_with fail;refine(ac _).mono ?_;rintro e wz ⟨rfl,rfl⟩;go_wp2_with fail;go_ret;exact⟨rfl,ai⟩
   have Q:=yh (show Qn (nmE (Qv F) fc) (k+1)=0 from Z8 J (by rw[aj.out,M2 (by rw[b2,Zg (by omega) (by omega)];simp)]));rw[b2]at ac;clear b2;go_wp2_with fail;refine yN (ac _) ?_;go_wp2_with fail;go_roundg (m-(k+1))
   case measure=>omega
   case rel=>exact⟨k+1,by omega,by omega,by go_num,Q,ad⟩
  ·obtain rfl:k=m:=by omega
   have D:r=0:=by rw[bw.out];exact J
   subst D;go_wp2_with fail;go_ret;exact⟨rfl,Z.out⟩
def Z0:Shp:=⟨3,6,[⟨[73,78],[1]⟩,⟨[79,85,84],[2]⟩,⟨[83,85,73,84,69],[]⟩],[⟨[65,49],0,2,false⟩,⟨[66,49],1,4,true⟩,⟨[67,49],2,2,false⟩]⟩
theorem U8b {n:Nat}(h:n≤1000):n≤maxLen:=by simp only[maxLen];omega
theorem YCb:Z9 Z0=0:=by decide
end Go.Proofs.YtjdcokpmgionjaaGreat
