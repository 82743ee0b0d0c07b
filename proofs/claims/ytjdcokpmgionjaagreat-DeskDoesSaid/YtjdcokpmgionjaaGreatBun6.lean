/-
  Laws and contracts.
-/
import Derived.Test.YtjdcokpmgionjaaGreatBun0
import Derived.LoopN
import Derived.Test.YtjdcokpmgionjaaGreatSortSpan
import Derived.Deep.RegionLaw
import Derived.Deep.RegionWith
set_option linter.unusedSimpArgs false
set_option linter.unusedVariables false
set_option maxRecDepth 100000
set_option maxHeartbeats 20000000
namespace Go.Proofs.YtjdcokpmgionjaaGreat
open Proofs.Tryz Go.RowKit Go.Shelf
instance spanK:CodK Xo 2:=⟨Qv,by omega⟩
theorem VN:ElemOf prog 79 51 2 16:=.mk' underlying79 (z:=.agg #[.int .i64 0,.int .i64 0]) (by kernel_rfl) rfl (by omega)
theorem YS (w:World)(S:Nat→Prop)(a b:Int)(t:TypeId)(D:InI a)(E:InI b)(A:S w.heap.size):Sl Xo 2 (w.alloc (.cells #[.int .i64 a,.int .i64 b] t)) S (some ⟨w.heap.size,0,none⟩) 1 1 [⟨a,b⟩]:=
 Sl.lit1 w S t (⟨a,b⟩:Span) [.int .i64 a,.int .i64 b] ⟨rfl,D,E⟩ A
def Q2 (a b:Span):Bool:=decide (a.frm < b.upto) && decide (b.frm < a.upto)
theorem U3b (a b c d:Int)(w:World):Calls prog 196 #[.agg #[.int .i64 a,.int .i64 b],.agg #[.int .i64 c,.int .i64 d]] w fun e w'=>e=.returned (.bool (Q2 ⟨a,b⟩ ⟨c,d⟩))∧yw w w':=by
 by_cases h1:a < d
 ·by_cases h2:c < b
  ·have A:=yh (show Q2 ⟨a,b⟩ ⟨c,d⟩=true by simp[Q2,h1,h2]);go_enter func196,ntmps196;go_wp2_with fail;go_ret;exact⟨Un (by rw[A.out]),Zl _ _ _⟩
  ·have A:=yh (show Q2 ⟨a,b⟩ ⟨c,d⟩=false by simp[Q2];omega);go_enter func196,ntmps196;go_wp2_with fail;go_ret;exact⟨Un (by rw[A.out]),Zl _ _ _⟩
 ·have A:=yh (show Q2 ⟨a,b⟩ ⟨c,d⟩=false by simp[Q2];omega);go_enter func196,ntmps196;go_wp2_with fail;go_ret;exact⟨Un (by rw[A.out]),Zl _ _ _⟩
theorem Y3b {s:Span}{A:Int}(h:VA s A=0):1≤A∧A≤7∧0≤s.frm∧s.frm < s.upto∧s.upto≤A:=by
 unfold VA at h;by_cases e:XM A=false∨s.frm < 0∨A < s.upto
 ·rw[M3 e]at h;omega
 ·rw[M2 e]at h;by_cases e2:s.upto≤s.frm
  ·rw[M3 e2]at h;omega
  ·have D:Qd A 1 7=true:=by
    cases q:Qd A 1 7 with
    | true=>rfl
    | false=>exact absurd (.inl q) e
   have:=Qm.1 D;omega
end Go.Proofs.YtjdcokpmgionjaaGreat
namespace Go.Proofs.YtjdcokpmgionjaaGreat
open Go.RowKit Go.Shelf Go.Lib
open Go.Sort hiding Below
def Znb (x:Span):List Value:=[.int .i64 x.frm,.int .i64 x.upto]
abbrev Q7a:={ x:Span // -1000≤x.frm∧x.frm≤1000 }
instance:Inhabited Q7a:=⟨⟨⟨0,0⟩,by decide,by decide⟩⟩
def Vy (x:Q7a):List Value:=Znb x.1
def Yd (x y:Q7a):Int:=x.1.frm - y.1.frm
theorem ZOc:Go.Sort.SWO (ltOf Yd):=⟨fun x=>by simp[ltOf,Yd],fun x y z A D=>by
 have A:Yd x y < 0:=of_decide_eq_true A;have D:Yd y z < 0:=of_decide_eq_true D;refine J2 ?_;unfold Yd at *
 omega,fun x y z A D=>by
 have A:¬Yd x y < 0:=of_decide_eq_false A;have D:¬Yd y z < 0:=of_decide_eq_false D;refine J3 ?_;unfold Yd at *
 omega⟩
section
variable {α:Type} [Inhabited α] {enc:α→List Value} {k:Nat} {w:World} {blk n j:Nat} {d':Array α} {os:Array Obj}
theorem Vna (D:j < w.heap.size)(E:j≠blk):(sortWorldK enc k w blk 0 n d' os).heap[j]? = w.heap[j]?:=by
 have A:(w.heap.modify blk (Go.Sort.onCells (Go.Sort.putCells id 0 (flatK enc k d')))).size=w.heap.size:=by simp
 unfold sortWorldK Go.Sort.grow putRowK Go.Sort.putRow Go.Sort.mapBlock Go.Sort.ahead;simp only;rw[Array.getElem?_append_left (by rw[A];exact D),Array.getElem?_modify,M2 (fun e=>E e.symm)]
theorem XLa {A:Array Value}{e:TypeId}(h:w.heap[blk]? = some (.cells A e (0,0))):(sortWorldK enc k w blk 0 n d' os).heap[blk]? = some (.cells (Go.Sort.putCells id 0 (flatK enc k d') A) e (0,0)):=by
 have D:(w.heap.modify blk (Go.Sort.onCells (Go.Sort.putCells id 0 (flatK enc k d')))).size=w.heap.size:=by simp
 unfold sortWorldK Go.Sort.grow putRowK Go.Sort.putRow Go.Sort.mapBlock Go.Sort.ahead;simp only;rw[Array.getElem?_append_left (by rw[D];exact(Array.getElem?_eq_some_iff.1 h).1),Array.getElem?_modify,M3 rfl,h]
 rfl
theorem UOa:w.heap.size≤(sortWorldK enc k w blk 0 n d' os).heap.size:=by
 unfold sortWorldK Go.Sort.grow putRowK Go.Sort.putRow Go.Sort.mapBlock Go.Sort.ahead;simp
theorem UNa:Kept (fun j=>j=blk) w (sortWorldK enc k w blk 0 n d' os):=⟨rfl,rfl,rfl,UOa,fun _ D A=>Vna D A⟩
end
theorem Zob (d:Array Q7a)(i j:Nat)(A:i < d.size)(D:j < 2):(flatK Vy 2 d)[i*2+j]! = (Vy d[i]!)[j]!:=by
 rw[get_flatK _ _ _ _ (by omega),show(i*2+j) / 2=i by omega,show(i*2+j) % 2=j by omega]
end Go.Proofs.YtjdcokpmgionjaaGreat
namespace Go.Proofs.YtjdcokpmgionjaaGreat
open Proofs.Tryz Go.RowKit Go.Shelf
def Ug (s:Span):List Span→List Span
 | []=>[s]
 | x::l=>if s.frm < x.frm then s::x::l else x::Ug s l
theorem Uoa (s:Span)(l:List Span):(Ug s l).Perm (l++[s]):=by
 induction l with
 | nil=>exact List.Perm.refl _
 | cons x l ih=>
  unfold Ug
  split
  ·exact(List.perm_append_singleton s (x::l)).symm
  ·exact ih.cons x
theorem Voa {l m:List Span}(A:l.Perm m)(D:l.Pairwise (fun x y=>x.frm≤y.frm))(E:m.Pairwise (fun x y=>x.frm < y.frm)):l=m:=by
 induction m generalizing l with
 | nil=>exact A.eq_nil
 | cons y m ih=>
  cases l with
  | nil=>exact absurd A.symm.eq_nil (by simp)
  | cons x l=>
   rw[List.pairwise_cons]at D E;have F:x∈y::m:=A.subset (List.mem_cons_self ..);have I:y∈x::l:=A.symm.subset (List.mem_cons_self ..)
   have J:x=y:=by
    rcases List.mem_cons.1 F with e | F
    ·exact e
    ·rcases List.mem_cons.1 I with e | I
     ·exact e.symm
     ·have O:=D.1 y I;have Q:=E.1 x F;omega
   subst J;rw[ih (List.Perm.cons_inv A) D.2 E.2]
theorem Uwa {x s:Span}(h:Q2 x s=false)(_:x.frm < x.upto)(_:s.frm < s.upto):x.upto≤s.frm∨s.upto≤x.frm:=by
 unfold Q2 at h;simp at h;omega
theorem VLb {s:Span}{l:List Span}(J:s.frm < s.upto)(E:∀x∈l,x.frm < x.upto)(D:l.Pairwise (fun x y=>x.upto≤y.frm))(I:l.any (fun x=>Q2 x s)=false):(Ug s l).Pairwise (fun x y=>x.upto≤y.frm):=by
 induction l with
 | nil=>simp[Ug]
 | cons x l ih=>
  rw[List.pairwise_cons]at D;have F:=List.any_eq_false.1 I;have O:=E x (List.mem_cons_self ..);have U:=Uwa (by simpa using F x (List.mem_cons_self ..)) O J;unfold Ug
  split
  ·next h=>
   rw[List.pairwise_cons,List.pairwise_cons];refine⟨fun y A=>?_,D⟩;rcases List.mem_cons.1 A with rfl | A
   ·omega
   ·have Q:=D.1 y A;omega
  ·next h=>
   rw[List.pairwise_cons];refine⟨fun y A=>?_,ih (fun y A=>E y (List.mem_cons_of_mem _ A)) D.2 (List.any_eq_false.2 fun y A=>F y (List.mem_cons_of_mem _ A))⟩;rcases List.mem_append.1 ((Uoa s l).subset A)with A | A
   ·exact D.1 y A
   ·simp only[List.mem_singleton]at A;subst A;omega
theorem YGb {l:List Span}(E:∀x∈l,x.frm < x.upto)(A:l.Pairwise (fun x y=>x.upto≤y.frm)):l.Pairwise (fun x y=>x.frm < y.frm):=by
 induction l with
 | nil=>exact List.Pairwise.nil
 | cons x l ih=>
  rw[List.pairwise_cons]at A ⊢;refine⟨fun y D=>?_,ih (fun y D=>E y (List.mem_cons_of_mem _ D)) A.2⟩;have:=A.1 y D;have:=E x (List.mem_cons_self ..);omega
theorem Y2b (x y:Span)(W:World):(binOp .neq 51 (.agg #[.int .i64 x.frm,.int .i64 x.upto]) (.agg #[.int .i64 y.frm,.int .i64 y.upto])).run prog W=.ok (.bool (decide (x≠y))) W:=by
 obtain⟨a,b⟩:=x;obtain⟨c,d⟩:=y;simp only[Span.mk.injEq,ne_eq];go_simp
 repeat' split
 all_goals simp_all
def Q6c (i:Int) (x:Span):Bool:=decide (x.frm≤i) && decide (i < x.upto)
def cnt (i:Int) (l:List Span):Int:=((l.filter (Q6c i)).length:Int)
def Ym (x:Span):Prop:=0≤x.frm∧x.frm < x.upto∧x.upto≤7
def Usa (i:Int) (x:Span):Bool:=Qd i x.frm (x.upto - 1)
theorem VWb {x y:Span}(_:Ym x)(_:Ym y){i:Int}(h:Usa i x=true)(A:Usa i y=true):Q2 x y=true:=by
 unfold Usa at h A;rw[Qm]at h A;unfold Q2;simp;omega
theorem Usb {x y:Span}(A:Ym x)(D:Ym y)(h:∀i:Nat,i < 7→(Usa i x && Usa i y)=false):Q2 x y=false:=by
 cases q:Q2 x y with
 | false=>rfl
 | true=>
  unfold Q2 at q;simp at q;obtain⟨E,F,I⟩:=A;obtain⟨J,O,Q⟩:=D;obtain⟨i,U⟩:=Int.eq_ofNat_of_zero_le (show 0≤max x.frm y.frm by omega);have:=h i (by omega);rw[show Usa (i:Int) x=true from Zc (by omega) (by omega),show Usa (i:Int) y=true from Zc (by omega) (by omega)]at this;exact absurd this (by decide)
theorem Y5a (x y:Span)(w:World)(F:Ym x)(I:Ym y):Calls prog 240 #[.agg #[.int .i64 x.frm,.int .i64 x.upto],.agg #[.int .i64 y.frm,.int .i64 y.upto]] w fun e w'=>e=.returned (.bool (Q2 x y))∧yw w w':=by
 obtain⟨r,E⟩:=yE (Q2 x y);rw[←E]
 have ab:wrap64 (x.upto - 1)=x.upto - 1:=by unfold Ym at F;unfold wrap64;omega
 have ac:wrap64 (y.upto - 1)=y.upto - 1:=by unfold Ym at I;unfold wrap64;omega
 have X:=yh F;clear F;have Y:=yh I;clear I;have W:=yh E;clear E;go_enter func240,ntmps240;go_upto_region 0 with(fail);go_cut [2,3] (fun p q J=>∃g k,yp p g∧yp q k∧SpanAt J g x.frm x.upto∧SpanAt J k y.frm y.upto∧yw w J)
 case first=>as_aux_lemma=>
  go_wp2_with fail;go_meet;exact⟨_,_,rfl,rfl,QB _ _ _,QC _ _ _,Zl _ _ _⟩
 obtain⟨g,k,rfl,rfl,Z,hT,hb⟩:=hcut;have c0:=Z.c0;have c1:=Z.c1;have d0:=hT.c0;have d1:=hT.c1;go_wp2_with fail
 go_loopg [5] 7 (fun gk i wr=>∃k:Nat,k≤7∧7 - k≤gk∧i=.int .i64 k∧Aside (∀j:Nat,j < k→(Usa j x && Usa j y)=false)∧wr=wc)
 case atStart=>exact⟨0,by omega,by omega,rfl,fun j A=>absurd A (by omega),rfl⟩
 case round=>
  obtain⟨i,hi,aa,rfl,D,rfl⟩:=hrel;by_cases hlt:i < 7
  ·go_wp2_with fail;refine(Qk (i:Int) x.frm (x.upto - 1) _).mono ?_;rintro e w9 ⟨rfl,rfl⟩;have U:=yh (show Usa (i:Int) x=Qd (i:Int) x.frm (x.upto - 1)from rfl);have V:=yh (show Usa (i:Int) y=Qd (i:Int) y.frm (y.upto - 1)from rfl)
   cases q_HB1:Qd (i:Int) x.frm (x.upto - 1)<;>have O:=yh q_HB1<;>clear q_HB1
   ·go_wp2_with fail;go_roundg (7 - (i+1))
    case measure=>omega
    case rel=>exact⟨i+1,by omega,by omega,by go_num,(show Aside _ from fun j A=>by
     by_cases e:j=i
     ·subst e;rw[U.out,O.out];rfl
     ·exact D j (by omega)),rfl⟩
   ·go_wp2_with fail;refine yN (Qk (i:Int) y.frm (y.upto - 1) _) ?_
    cases q_HB2:Qd (i:Int) y.frm (y.upto - 1)<;>have Q:=yh q_HB2<;>clear q_HB2
    ·go_wp2_with fail;go_roundg (7 - (i+1))
     case measure=>omega
     case rel=>exact⟨i+1,by omega,by omega,by go_num,(show Aside _ from fun j A=>by
      by_cases e:j=i
      ·subst e;rw[V.out,Q.out,Bool.and_false]
      ·exact D j (by omega)),rfl⟩
    ·obtain rfl:r=true:=by rw[W.out];exact VWb X Y (U.trans O) (V.trans Q)
     go_wp2_with fail;go_ret;exact⟨rfl,hb⟩
  ·obtain rfl:i=7:=by omega
   obtain rfl:r=false:=by rw[W.out];exact Usb X Y.out fun j A=>D j A
   go_wp2_with fail;go_ret;exact⟨rfl,hb⟩
def Yj (s:Span) (l:List Span):Bool:=l.any (fun x=>decide (s.frm < x.frm))
def Z3 (s:Span) (l:List Span):List Span:=if Yj s l then Ug s l else l
theorem Yra {s:Span}{m:List Span}(h:Yj s m=false)(r:List Span):Ug s (m++r)=m++Ug s r:=by
 induction m with
 | nil=>rfl
 | cons y m ih=>
  unfold Yj at h;rw[List.any_cons,Bool.or_eq_false_iff]at h;have A:¬s.frm < y.frm:=of_decide_eq_false h.1
  show Ug s (y::(m++r))=y::(m++Ug s r)
  rw[Ug,M2 A,ih h.2]
theorem Ymb {s x:Span}{m:List Span}(h:Yj s m=true):Ug s (m++[x])=Ug s m++[x]:=by
 induction m with
 | nil=>simp[Yj]at h
 | cons y m ih=>
  show Ug s (y::(m++[x]))=_
  rw[Ug,Ug];by_cases hy:s.frm < y.frm
  ·rw[M3 hy,M3 hy];rfl
  ·rw[M2 hy,M2 hy];unfold Yj at h;rw[List.any_cons,J3 hy,Bool.false_or]at h;rw[ih h];rfl
theorem VL {s x:Span}{l:List Span}{k:Nat}(h:l[k]? = some x):Yj s (l.take (k+1))=(Yj s (l.take k) || decide (s.frm < x.frm)):=Qw h
theorem Xob {s x:Span}{l:List Span}{k:Nat}(h:l[k]? = some x)(A:Yj s (l.take k)=true):Z3 s (l.take (k+1))=Z3 s (l.take k)++[x]:=by
 unfold Z3;rw[VL h,A,Bool.true_or,M3 rfl,M3 rfl,Qo h,Ymb A]
theorem Xnb {s x:Span}{l:List Span}{k:Nat}(h:l[k]? = some x)(A:Yj s (l.take k)=false)(D:s.frm < x.frm):Z3 s (l.take (k+1))=Z3 s (l.take k)++[s]++[x]:=by
 unfold Z3;rw[VL h,A,J2 D,Bool.false_or,M3 rfl,M2 (by simp),Qo h,Yra A];rw[Ug,M3 D];simp
theorem Xmb {s x:Span}{l:List Span}{k:Nat}(h:l[k]? = some x)(A:Yj s (l.take k)=false)(D:¬s.frm < x.frm):Z3 s (l.take (k+1))=Z3 s (l.take k)++[x]:=by
 unfold Z3;rw[VL h,A,J3 D,Bool.or_false,M2 (by simp),M2 (by simp),Qo h]
theorem Xlb (s:Span)(l:List Span):(Z3 s l).length≤l.length+1:=by
 unfold Z3
 split
 ·have:=(Uoa s l).length_eq;rw[this];simp
 ·omega
theorem Ylb {s:Span}{l:List Span}(h:Yj s l=false):Ug s l=l++[s]:=by
 have:=Yra h []
 rwa [List.append_nil]at this
def adE (l:List Span) (s:Span):Int:=if l.any (fun x=>Q2 x s)then 6 else 0
theorem XOa (A:Option Addr)(n cap:Nat)(l:List Span)(s:Span)(w:World)(h:Sl Xo 2 w All A n cap l)(hl:l.length≤1000)(ay:∀x∈l,Ym x)(hs:Ym s)(az:InI s.frm)(aA:InI s.upto) :
  Calls prog 210 #[.slice A n cap,.agg #[.int .i64 s.frm,.int .i64 s.upto]] w fun e w'=>∃v xs,e=.returned (.tuple #[v,.int .i64 (adE l s)])∧
   Own Xo 2 51 w' w.heap.size v (okL (adE l s) (Ug s l)) xs∧yw w w':=by
 have aI:=h.bd;have av:=yh h.len;obtain⟨u,hu⟩:=yE (adE l s);obtain⟨R,hR⟩:=yE (Ug s l);rw[←hu,←hR];have HU:=yh hu;clear hu;have HR:=yh hR;clear hR
 have aK:n≤1000:=by rw[←av.out];exact hl
 have aD:=yh ay;clear ay;have HS:=yh hs;clear hs;clear hl;go_enter func210,ntmps210;go_upto_region 0 with(fail);go_cut [3] (fun p wx=>∃g,yp p g∧SpanAt wx g s.frm s.upto∧yw w wx)
 case first=>as_aux_lemma=>
  go_wp2_with fail;go_meet;exact⟨_,rfl,Zg _ _,Qi _ _⟩
 obtain⟨g,rfl,hS,ao⟩:=hcut;replace h:=h.bel ao;obtain⟨O,aE⟩:=yE wc;have ai:=yh hS;have HH:=yh h;have I:=yh ao;clear hS h ao;subst aE;go_wp2_with fail
 go_loopg [6,7,8] n (fun gk o p i wr=>∃k:Nat,k≤n∧n - k≤gk∧i=.int .i64 k∧p=.bool (Yj s (l.take k))∧Aside ((l.take k).any (fun x=>Q2 x s)=false)∧∃xs,Own Xo 2 51 wr O.heap.size o (Z3 s (l.take k)) xs∧yw O wr)
 case atStart=>exact⟨0,M0 _,by omega,rfl,rfl,rfl,[],Own.nil _ _ _ _ _,J4 _ _⟩
 case round=>
  obtain⟨k,hk,aJ,rfl,rfl,HE,xs,E,D⟩:=hrel;obtain⟨A2,n2,aH,rfl,_⟩:=E.sl Qv;obtain⟨L,hL⟩:=yE (Z3 s (l.take k));obtain⟨p,hp⟩:=yE (Yj s (l.take k));rw[←hL]at E;rw[←hp]
  have ax:L.length≤1001:=by
   rw[hL];have h1:=Xlb s (l.take k);have h2:=List.length_take_le k l;omega
  have Z:=yh ax;have HL:=yh hL;clear hL;have HP:=yh hp;clear hp;clear ax;by_cases hlt:k < n
  ·obtain⟨b,al,x,c0,c1,rfl,hx,⟨hc,x0,x1⟩,g0,g1⟩:=HH.at2 hlt;simp only[List.cons.injEq,and_true]at hc;obtain⟨rfl,rfl⟩:=hc;have lb:=ZO g0
   have aw:∀X,yw O X→yI X b (al+k*2) x.frm∧yI X b (al+k*2+1) x.upto∧yI X g 0 s.frm∧yI X g 1 s.upto:=fun X hX=>
    ⟨(hX.cell (p:=⟨b,al+k*2,none⟩) lb).trans g0,(hX.cell (p:=⟨b,al+k*2+1,none⟩) lb).trans g1,(ai.below hX).c0,(ai.below hX).c1⟩
   have ar:=fun W=>Y5a x s W (aD x (J6 hx)) HS;obtain⟨q,hq⟩:=yE (Q2 x s);rw[←hq]at ar;have aC:=yh ar;clear ar;have J:=yh hx;clear hx;have HQ:=yh hq;clear hq;have am:=yh aw;clear aw;clear g0 g1;obtain⟨d0,d1,d2,d3⟩:=am _ D;go_upto_region 6 with(fail);go_cut [20] (fun t wx=>t=.bool q∧yw wr wx)
   case first=>as_aux_lemma=>
    go_region_with (go_at_call 240;refine yM (aC _) fun wn aG=>?_)
    all_goals
     go_wp2_with fail;go_meet;exact⟨rfl,(J4 _ wr).drew.trans aG⟩
   obtain⟨rfl,ap⟩:=hcut;replace E:=E.bel ap;replace D:=D.trans (ap.mono D.size);clear ap d0 d1 d2 d3;obtain⟨d0,d1,d2,d3⟩:=am _ D;cases q
   ·have an:=yh (show(l.take (k+1)).any (fun x=>Q2 x s)=false by rw[Qw J.out,HE,←HQ.out];rfl);cases p
    ·by_cases hc:s.frm < x.frm
     ·have hd:decide (s.frm < x.frm)=true:=J2 hc;have F:=yh (show Z3 s (l.take (k+1))=L++[s]++[x]by rw[HL.out];exact Xnb J HP.symm hc);have aa:=yh (show Yj s (l.take (k+1))=true by rw[VL J.out,←HP.out,J2 hc];rfl);clear hc;go_wp2_with fail;go_quiet (fail);have U:=below_drewN D nq;have ab:=(E.bel (below_drewN (J4 wc.heap.size wc) nq)).below Qv (Qi (wc.drewN nq) (.cells #[.int .i64 s.frm,.int .i64 s.upto] 51));have aM:=U.size
      have ag:O.heap.size≤((wc.drewN nq).alloc (.cells #[.int .i64 s.frm,.int .i64 s.upto] 51)).heap.size:=by simp;have:=D.size;omega
      go_wp2_with (first
       | (at_builtin;refine Qz (t:=79) (e:=51) (bytes:=16) rfl (.tmp 37) (.tmp 42) rfl VN Qv rfl Q rfl (YS _ All x.frm x.upto 51 x0 x1 trivial) (fun _ _ hc=>hc) (by have:=Z.out;first | omega | (simp;omega)) (by omega) V ?_;intro v' w' ah ae ad _)
       | (at_builtin;refine Qz (t:=79) (e:=51) (bytes:=16) rfl (.tmp 33) (.tmp 35) rfl VN Qv rfl ab rfl (YS _ All s.frm s.upto 51 az aA trivial) (fun _ _ hc=>hc) (by have:=Z.out;omega) (by omega) ag ?_;intro v1 w1 aB af aq _;have Y:=QA (U.alloc aM _) ab aq ag;have Q:=af.below Qv (Qi w1 (.cells #[.int .i64 x.frm,.int .i64 x.upto] 51));have V:O.heap.size≤(w1.alloc (.cells #[.int .i64 x.frm,.int .i64 x.upto] 51)).heap.size:=Nat.le_trans Y.size (by simp);have aF:=Y.alloc Y.size (.cells #[.int .i64 x.frm,.int .i64 x.upto] 51);obtain⟨f0,f1,f2,f3⟩:=am _ Y;obtain⟨A4,n4,c4,rfl,_⟩:=af.sl Qv))
      go_roundg (n - (k+1))
      case measure=>omega
      case rel=>exact⟨k+1,by omega,by omega,by go_num,by rw[aa.out],an,ah,by rw[F.out];exact ae,QA aF Q ad V⟩
     ·have hd:decide (s.frm < x.frm)=false:=J3 hc;have F:=yh (show Z3 s (l.take (k+1))=L++[x]by rw[HL.out];exact Xmb J HP.symm hc);have aa:=yh (show Yj s (l.take (k+1))=false by rw[VL J.out,←HP.out,J3 hc];rfl);clear hc;go_wp2_with fail;go_quiet (fail);have U:=below_drewN D nq;have Q:=(E.bel (below_drewN (J4 wc.heap.size wc) nq)).below Qv (Qi (wc.drewN nq) (.cells #[.int .i64 x.frm,.int .i64 x.upto] 51));have aM:=U.size
      have V:O.heap.size≤((wc.drewN nq).alloc (.cells #[.int .i64 x.frm,.int .i64 x.upto] 51)).heap.size:=by simp;have:=D.size;omega
      go_wp2_with (at_builtin;refine Qz (t:=79) (e:=51) (bytes:=16) rfl (.tmp 37) (.tmp 42) rfl VN Qv rfl Q rfl (YS _ All x.frm x.upto 51 x0 x1 trivial) (fun _ _ hc=>hc) (by have:=Z.out;first | omega | (simp;omega)) (by omega) V ?_;intro v' w' ah ae ad _);go_roundg (n - (k+1))
      case measure=>omega
      case rel=>exact⟨k+1,by omega,by omega,by go_num,by rw[aa.out],an,ah,by rw[F.out];exact ae,QA (U.alloc aM _) Q ad V⟩
    ·have F:=yh (show Z3 s (l.take (k+1))=L++[x]by rw[HL.out];exact Xob J HP.symm);have aa:=yh (show Yj s (l.take (k+1))=true by rw[VL J.out,←HP.out];rfl);go_wp2_with fail;go_quiet (fail);have U:=below_drewN D nq;have Q:=(E.bel (below_drewN (J4 wc.heap.size wc) nq)).below Qv (Qi (wc.drewN nq) (.cells #[.int .i64 x.frm,.int .i64 x.upto] 51));have aM:=U.size
     have V:O.heap.size≤((wc.drewN nq).alloc (.cells #[.int .i64 x.frm,.int .i64 x.upto] 51)).heap.size:=by simp;have:=D.size;omega
     go_wp2_with (at_builtin;refine Qz (t:=79) (e:=51) (bytes:=16) rfl (.tmp 37) (.tmp 42) rfl VN Qv rfl Q rfl (YS _ All x.frm x.upto 51 x0 x1 trivial) (fun _ _ hc=>hc) (by have:=Z.out;first | omega | (simp;omega)) (by omega) V ?_;intro v' w' ah ae ad _);go_roundg (n - (k+1))
     case measure=>omega
     case rel=>exact⟨k+1,by omega,by omega,by go_num,by rw[aa.out],an,ah,by rw[F.out];exact ae,QA (U.alloc aM _) Q ad V⟩
   ·obtain rfl:u=6:=by rw[HU.out];exact M3 (Q9a J HQ.symm)
    go_wp2_with fail;go_ret2;exact⟨_,_,rfl,Own.nil _ _ _ _ _,I.trans (D.mono I.size)⟩
  ·obtain rfl:k=n:=by omega
   have hT:l.take k=l:=M1 (Nat.le_of_eq av);rw[hT]at HE
   obtain rfl:u=0:=by rw[HU.out];exact M2 (by rw[HE];simp)
   have aj:L=Z3 s l:=by rw[HL.out,hT]
   have ac:p=Yj s l:=by rw[HP.out,hT]
   obtain⟨_,_,d2,d3⟩:True∧True∧yI wr g 0 s.frm∧yI wr g 1 s.upto:=⟨trivial,trivial,(ai.below D).c0,(ai.below D).c1⟩;have ak:=I.trans (D.mono I.size);cases p
   ·have F:=yh (show L++[s]=R by rw[HR.out,Ylb ac.symm,aj];unfold Z3;rw[←ac];rfl);have ab:=E.below Qv (Qi wr (.cells #[.int .i64 s.frm,.int .i64 s.upto] 51));have aM:=D.size
    have ag:O.heap.size≤(wr.alloc (.cells #[.int .i64 s.frm,.int .i64 s.upto] 51)).heap.size:=by simp;omega
    have au:=yh ak;clear hT aj ac ak;go_wp2_with (at_builtin;refine Qz (t:=79) (e:=51) (bytes:=16) rfl (.tmp 46) (.tmp 48) rfl VN Qv rfl ab rfl (YS _ All s.frm s.upto 51 az aA trivial) (fun _ _ hc=>hc) (by have:=Z.out;omega) (by omega) ag ?_;intro v1 w1 aB af aq _;have Y:=QA (D.alloc aM _) ab aq ag;obtain⟨A4,n4,c4,rfl,_⟩:=af.sl Qv);go_ret2;exact⟨_,aB,rfl,by rw[QQ,←F.out];exact af.mono Qv I.size,I.trans (Y.mono I.size)⟩
   ·have F:=yh (show L=R by rw[HR.out,aj];unfold Z3;rw[←ac];rfl);have au:=yh ak;have HO:=yh E;clear hT aj ac ak E;go_wp2_with fail;go_ret2;exact⟨_,_,rfl,by rw[QQ,←F.out];exact HO.mono Qv I.size,au⟩
end Go.Proofs.YtjdcokpmgionjaaGreat
