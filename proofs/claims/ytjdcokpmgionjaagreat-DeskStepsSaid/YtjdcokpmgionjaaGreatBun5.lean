/-
  Laws and contracts.
-/
import Derived.Test.YtjdcokpmgionjaaGreatBun2
import Derived.Test.YtjdcokpmgionjaaGreatBun4
import Derived.Test.YtjdcokpmgionjaaGreatSortSpan
import Derived.Shelf.SlSortCmp.NoneTotal
set_option linter.unusedSimpArgs false
set_option linter.unusedVariables false
set_option maxRecDepth 100000
set_option maxHeartbeats 20000000
namespace Go.Proofs.YtjdcokpmgionjaaGreat
open Proofs.Tryz Go.RowKit Go.Shelf
instance spanK:CodK XJ 2:=⟨Qz,by omega⟩
theorem Xf:ElemOf prog 79 51 2 16:=.mk' underlying79 (z:=.agg #[.int .i64 0,.int .i64 0]) (by kernel_rfl) rfl (by omega)
theorem Qfa (w:World)(S:Nat→Prop)(a b:Int)(t:TypeId)(D:InI a)(E:InI b)(A:S w.heap.size):Sl XJ 2 (w.alloc (.cells #[.int .i64 a,.int .i64 b] t)) S (some ⟨w.heap.size,0,none⟩) 1 1 [⟨a,b⟩]:=
 Sl.lit1 w S t (⟨a,b⟩:Span) [.int .i64 a,.int .i64 b] ⟨rfl,D,E⟩ A
def Q8 (a b:Span):Bool:=decide (a.frm<b.upto) && decide (b.frm<a.upto)
theorem VIb (a b c d:Int)(w:World):Calls prog 196 #[.agg #[.int .i64 a,.int .i64 b],.agg #[.int .i64 c,.int .i64 d]] w fun e w'=>e=.returned (.bool (Q8 ⟨a,b⟩ ⟨c,d⟩))∧yw w w':=by
 by_cases h1:a<d
 ·by_cases h2:c<b
  ·have A:=yh (show Q8 ⟨a,b⟩ ⟨c,d⟩=true by simp[Q8,h1,h2]);go_enter func196,ntmps196;go_wp2_with fail;go_ret;exact⟨Ux (by rw[A.out]),Zo _ _ _⟩
  ·have A:=yh (show Q8 ⟨a,b⟩ ⟨c,d⟩=false by simp[Q8];omega);go_enter func196,ntmps196;go_wp2_with fail;go_ret;exact⟨Ux (by rw[A.out]),Zo _ _ _⟩
 ·have A:=yh (show Q8 ⟨a,b⟩ ⟨c,d⟩=false by simp[Q8];omega);go_enter func196,ntmps196;go_wp2_with fail;go_ret;exact⟨Ux (by rw[A.out]),Zo _ _ _⟩
theorem QJc {s:Span}{A:Int}(h:VS s A=0):1≤A∧A≤7∧0≤s.frm∧s.frm<s.upto∧s.upto≤A:=by
 unfold VS at h;by_cases e:X7 A=false∨s.frm<0∨A<s.upto
 ·rw[M3 e]at h;omega
 ·rw[M2 e]at h;by_cases e2:s.upto≤s.frm
  ·rw[M3 e2]at h;omega
  ·have D:Qc A 1 7=true:=by
    cases q:Qc A 1 7 with
    | true=>rfl
    | false=>exact absurd (.inl q) e
   have:=Ql.1 D;omega
end Go.Proofs.YtjdcokpmgionjaaGreat
namespace Go.Proofs.YtjdcokpmgionjaaGreat
open Go.RowKit Go.Shelf Go.Lib
open Go.Sort hiding Below
def ZYb (x:Span):List Value:=[.int .i64 x.frm,.int .i64 x.upto]
abbrev Zua:={ x:Span // -1000≤x.frm∧x.frm≤1000 }
instance:Inhabited Zua:=⟨⟨⟨0,0⟩,by decide,by decide⟩⟩
def VQ (x:Zua):List Value:=ZYb x.1
def YE (x y:Zua):Int:=x.1.frm-y.1.frm
theorem Uvc:Go.Sort.SWO (ltOf YE):=⟨fun x=>by simp[ltOf,YE],fun x y z A D=>by
 have A:YE x y<0:=of_decide_eq_true A;have D:YE y z<0:=of_decide_eq_true D;refine J2 ?_;unfold YE at *
 omega,fun x y z A D=>by
 have A:¬YE x y<0:=of_decide_eq_false A;have D:¬YE y z<0:=of_decide_eq_false D;refine J3 ?_;unfold YE at *
 omega⟩
section
variable {α:Type} [Inhabited α] {enc:α→List Value} {k:Nat} {w:World} {blk n j:Nat} {d':Array α} {os:Array Obj}
theorem VWa (D:j<w.heap.size)(E:j≠blk):(sortWorldK enc k w blk 0 n d' os).heap[j]? = w.heap[j]?:=by
 have A:(w.heap.modify blk (Go.Sort.onCells (Go.Sort.putCells id 0 (flatK enc k d')))).size=w.heap.size:=by simp
 unfold sortWorldK Go.Sort.grow putRowK Go.Sort.putRow Go.Sort.mapBlock Go.Sort.ahead;simp only;rw[Array.getElem?_append_left (by rw[A];exact D),Array.getElem?_modify,M2 (fun e=>E e.symm)]
theorem Yda {A:Array Value}{e:TypeId}(h:w.heap[blk]? = some (.cells A e (0,0))):(sortWorldK enc k w blk 0 n d' os).heap[blk]? = some (.cells (Go.Sort.putCells id 0 (flatK enc k d') A) e (0,0)):=by
 have D:(w.heap.modify blk (Go.Sort.onCells (Go.Sort.putCells id 0 (flatK enc k d')))).size=w.heap.size:=by simp
 unfold sortWorldK Go.Sort.grow putRowK Go.Sort.putRow Go.Sort.mapBlock Go.Sort.ahead;simp only;rw[Array.getElem?_append_left (by rw[D];exact(Array.getElem?_eq_some_iff.1 h).1),Array.getElem?_modify,M3 rfl,h]
 rfl
theorem Vta:w.heap.size≤(sortWorldK enc k w blk 0 n d' os).heap.size:=by
 unfold sortWorldK Go.Sort.grow putRowK Go.Sort.putRow Go.Sort.mapBlock Go.Sort.ahead;simp
theorem Vsa:Kept (fun j=>j=blk) w (sortWorldK enc k w blk 0 n d' os):=⟨rfl,rfl,rfl,Vta,fun _ D A=>VWa D A⟩
end
theorem Z0b (d:Array Zua)(i j:Nat)(A:i<d.size)(D:j<2):(flatK VQ 2 d)[i*2+j]! = (VQ d[i]!)[j]!:=by
 rw[get_flatK _ _ _ _ (by omega),show(i*2+j) / 2=i by omega,show(i*2+j) % 2=j by omega]
end Go.Proofs.YtjdcokpmgionjaaGreat
namespace Go.Proofs.YtjdcokpmgionjaaGreat
open Proofs.Tryz Go.RowKit Go.Shelf
def Uo (s:Span):List Span→List Span
 | []=>[s]
 | x::l=>if s.frm<x.frm then s::x::l else x::Uo s l
theorem UYa (s:Span)(l:List Span):(Uo s l).Perm (l++[s]):=by
 induction l with
 | nil=>exact List.Perm.refl _
 | cons x l ih=>
  unfold Uo
  split
  ·exact(List.perm_append_singleton s (x::l)).symm
  ·exact ih.cons x
theorem VXa {l m:List Span}(A:l.Perm m)(D:l.Pairwise (fun x y=>x.frm≤y.frm))(E:m.Pairwise (fun x y=>x.frm<y.frm)):l=m:=by
 induction m generalizing l with
 | nil=>exact A.eq_nil
 | cons y m ih=>
  cases l with
  | nil=>exact absurd A.symm.eq_nil (by simp)
  | cons x l=>
   rw[List.pairwise_cons]at D E;have F:x∈y::m:=A.subset (List.mem_cons_self ..);have I:y∈x::l:=A.symm.subset (List.mem_cons_self ..)
   have J:x=y:=by
    rcases List.mem_cons.1 F with e|F
    ·exact e
    ·rcases List.mem_cons.1 I with e|I
     ·exact e.symm
     ·have O:=D.1 y I;have Q:=E.1 x F;omega
   subst J;rw[ih (List.Perm.cons_inv A) D.2 E.2]
theorem U6a {x s:Span}(h:Q8 x s=false)(_:x.frm<x.upto)(_:s.frm<s.upto):x.upto≤s.frm∨s.upto≤x.frm:=by
 unfold Q8 at h;simp at h;omega
theorem Xsb {s:Span}{l:List Span}(J:s.frm<s.upto)(E:∀x∈l,x.frm<x.upto)(D:l.Pairwise (fun x y=>x.upto≤y.frm))(I:l.any (fun x=>Q8 x s)=false):(Uo s l).Pairwise (fun x y=>x.upto≤y.frm):=by
 induction l with
 | nil=>simp[Uo]
 | cons x l ih=>
  rw[List.pairwise_cons]at D;have F:=List.any_eq_false.1 I;have O:=E x (List.mem_cons_self ..);have U:=U6a (by simpa using F x (List.mem_cons_self ..)) O J;unfold Uo
  split
  ·next h=>
   rw[List.pairwise_cons,List.pairwise_cons];refine⟨fun y A=>?_,D⟩;rcases List.mem_cons.1 A with rfl|A
   ·omega
   ·have Q:=D.1 y A;omega
  ·next h=>
   rw[List.pairwise_cons];refine⟨fun y A=>?_,ih (fun y A=>E y (List.mem_cons_of_mem _ A)) D.2 (List.any_eq_false.2 fun y A=>F y (List.mem_cons_of_mem _ A))⟩;rcases List.mem_append.1 ((UYa s l).subset A)with A|A
   ·exact D.1 y A
   ·simp only[List.mem_singleton]at A;subst A;omega
theorem Qmc {l:List Span}(E:∀x∈l,x.frm<x.upto)(A:l.Pairwise (fun x y=>x.upto≤y.frm)):l.Pairwise (fun x y=>x.frm<y.frm):=by
 induction l with
 | nil=>exact List.Pairwise.nil
 | cons x l ih=>
  rw[List.pairwise_cons]at A ⊢;refine⟨fun y D=>?_,ih (fun y D=>E y (List.mem_cons_of_mem _ D)) A.2⟩;have:=A.1 y D;have:=E x (List.mem_cons_self ..);omega
theorem QIc (x y:Span)(W:World):(binOp .neq 51 (.agg #[.int .i64 x.frm,.int .i64 x.upto]) (.agg #[.int .i64 y.frm,.int .i64 y.upto])).run prog W=.ok (.bool (decide (x≠y))) W:=by
 obtain⟨a,b⟩:=x;obtain⟨c,d⟩:=y;simp only[Span.mk.injEq,ne_eq];go_simp
 repeat' split
 all_goals simp_all
def ZMc (i:Int) (x:Span):Bool:=decide (x.frm≤i) && decide (i<x.upto)
def cnt (i:Int) (l:List Span):Int:=((l.filter (ZMc i)).length:Int)
def YL (x:Span):Prop:=0≤x.frm∧x.frm<x.upto∧x.upto≤7
def U2a (i:Int) (x:Span):Bool:=Qc i x.frm (x.upto-1)
theorem XCb {x y:Span}(_:YL x)(_:YL y){i:Int}(h:U2a i x=true)(A:U2a i y=true):Q8 x y=true:=by
 unfold U2a at h A;rw[Ql]at h A;unfold Q8;simp;omega
theorem U7b {x y:Span}(A:YL x)(D:YL y)(h:∀i:Nat,i<7→(U2a i x && U2a i y)=false):Q8 x y=false:=by
 cases q:Q8 x y with
 | false=>rfl
 | true=>
  unfold Q8 at q;simp at q;obtain⟨E,F,I⟩:=A;obtain⟨J,O,Q⟩:=D;obtain⟨i,U⟩:=Int.eq_ofNat_of_zero_le (show 0≤max x.frm y.frm by omega);have:=h i (by omega);rw[show U2a (i:Int) x=true from Zg (by omega) (by omega),show U2a (i:Int) y=true from Zg (by omega) (by omega)]at this;exact absurd this (by decide)
theorem Qwb (x y:Span)(w:World)(F:YL x)(I:YL y):Calls prog 240 #[.agg #[.int .i64 x.frm,.int .i64 x.upto],.agg #[.int .i64 y.frm,.int .i64 y.upto]] w fun e w'=>e=.returned (.bool (Q8 x y))∧yw w w':=by
 obtain⟨r,E⟩:=yE (Q8 x y);rw[←E]
 have ab:wrap64 (x.upto-1)=x.upto-1:=by unfold YL at F;unfold wrap64;omega
 have ac:wrap64 (y.upto-1)=y.upto-1:=by unfold YL at I;unfold wrap64;omega
 have X:=yh F;clear F;have Y:=yh I;clear I;have W:=yh E;clear E;go_enter func240,ntmps240;go_upto_region 0 with(fail);go_cut [2,3] (fun p q J=>∃g k,yp p g∧yp q k∧SpanAt J g x.frm x.upto∧SpanAt J k y.frm y.upto∧yw w J)
 case first=>as_aux_lemma=>
  go_wp2_with fail;go_meet;exact⟨_,_,rfl,rfl,QE _ _ _,QF _ _ _,Zo _ _ _⟩
 obtain⟨g,k,rfl,rfl,Z,hT,hb⟩:=hcut;have c0:=Z.c0;have c1:=Z.c1;have d0:=hT.c0;have d1:=hT.c1;go_wp2_with fail
 go_loopg [5] 7 (fun gk i wr=>∃k:Nat,k≤7∧7-k≤gk∧i=.int .i64 k∧Aside (∀j:Nat,j<k→(U2a j x && U2a j y)=false)∧wr=wc)
 case atStart=>exact⟨0,by omega,by omega,rfl,fun j A=>absurd A (by omega),rfl⟩
 case round=>
  obtain⟨i,hi,aa,rfl,D,rfl⟩:=hrel;by_cases hlt:i<7
  ·go_wp2_with fail;refine(Qj (i:Int) x.frm (x.upto-1) _).mono ?_;rintro e w9 ⟨rfl,rfl⟩;have U:=yh (show U2a (i:Int) x=Qc (i:Int) x.frm (x.upto-1)from rfl);have V:=yh (show U2a (i:Int) y=Qc (i:Int) y.frm (y.upto-1)from rfl)
   cases q_HB1:Qc (i:Int) x.frm (x.upto-1)<;>have O:=yh q_HB1<;>clear q_HB1
   ·go_wp2_with fail;go_roundg (7-(i+1))
    case measure=>omega
    case rel=>exact⟨i+1,by omega,by omega,by go_num,(show Aside _ from fun j A=>by
     by_cases e:j=i
     ·subst e;rw[U.out,O.out];rfl
     ·exact D j (by omega)),rfl⟩
   ·go_wp2_with fail;refine yN (Qj (i:Int) y.frm (y.upto-1) _) ?_
    cases q_HB2:Qc (i:Int) y.frm (y.upto-1)<;>have Q:=yh q_HB2<;>clear q_HB2
    ·go_wp2_with fail;go_roundg (7-(i+1))
     case measure=>omega
     case rel=>exact⟨i+1,by omega,by omega,by go_num,(show Aside _ from fun j A=>by
      by_cases e:j=i
      ·subst e;rw[V.out,Q.out,Bool.and_false]
      ·exact D j (by omega)),rfl⟩
    ·obtain rfl:r=true:=by rw[W.out];exact XCb X Y (U.trans O) (V.trans Q)
     go_wp2_with fail;go_ret;exact⟨rfl,hb⟩
  ·obtain rfl:i=7:=by omega
   obtain rfl:r=false:=by rw[W.out];exact U7b X Y.out fun j A=>D j A
   go_wp2_with fail;go_ret;exact⟨rfl,hb⟩
def YI (s:Span) (l:List Span):Bool:=l.any (fun x=>decide (s.frm<x.frm))
def Uc (s:Span) (l:List Span):List Span:=if YI s l then Uo s l else l
theorem YRa {s:Span}{m:List Span}(h:YI s m=false)(r:List Span):Uo s (m++r)=m++Uo s r:=by
 induction m with
 | nil=>rfl
 | cons y m ih=>
  unfold YI at h;rw[List.any_cons,Bool.or_eq_false_iff]at h;have A:¬s.frm<y.frm:=of_decide_eq_false h.1
  show Uo s (y::(m++r))=y::(m++Uo s r)
  rw[Uo,M2 A,ih h.2]
theorem Y1b {s x:Span}{m:List Span}(h:YI s m=true):Uo s (m++[x])=Uo s m++[x]:=by
 induction m with
 | nil=>simp[YI]at h
 | cons y m ih=>
  show Uo s (y::(m++[x]))=_
  rw[Uo,Uo];by_cases hy:s.frm<y.frm
  ·rw[M3 hy,M3 hy];rfl
  ·rw[M2 hy,M2 hy];unfold YI at h;rw[List.any_cons,J3 hy,Bool.false_or]at h;rw[ih h];rfl
theorem Xd {s x:Span}{l:List Span}{k:Nat}(h:l[k]? = some x):YI s (l.take (k+1))=(YI s (l.take k) || decide (s.frm<x.frm)):=Qu h
theorem X2b {s x:Span}{l:List Span}{k:Nat}(h:l[k]? = some x)(A:YI s (l.take k)=true):Uc s (l.take (k+1))=Uc s (l.take k)++[x]:=by
 unfold Uc;rw[Xd h,A,Bool.true_or,M3 rfl,M3 rfl,Qo h,Y1b A]
theorem X1b {s x:Span}{l:List Span}{k:Nat}(h:l[k]? = some x)(A:YI s (l.take k)=false)(D:s.frm<x.frm):Uc s (l.take (k+1))=Uc s (l.take k)++[s]++[x]:=by
 unfold Uc;rw[Xd h,A,J2 D,Bool.false_or,M3 rfl,M2 (by simp),Qo h,YRa A];rw[Uo,M3 D];simp
theorem X0b {s x:Span}{l:List Span}{k:Nat}(h:l[k]? = some x)(A:YI s (l.take k)=false)(D:¬s.frm<x.frm):Uc s (l.take (k+1))=Uc s (l.take k)++[x]:=by
 unfold Uc;rw[Xd h,A,J3 D,Bool.or_false,M2 (by simp),M2 (by simp),Qo h]
theorem XZb (s:Span)(l:List Span):(Uc s l).length≤l.length+1:=by
 unfold Uc
 split
 ·have:=(UYa s l).length_eq;rw[this];simp
 ·omega
theorem Y0b {s:Span}{l:List Span}(h:YI s l=false):Uo s l=l++[s]:=by
 have:=YRa h []
 rwa [List.append_nil]at this
def adE (l:List Span) (s:Span):Int:=if l.any (fun x=>Q8 x s)then 6 else 0
theorem Yga (A:Option Addr)(n cap:Nat)(l:List Span)(s:Span)(w:World)(h:Sl XJ 2 w All A n cap l)(hl:l.length≤1000)(ay:∀x∈l,YL x)(hs:YL s)(az:InI s.frm)(aA:InI s.upto) :
  Calls prog 210 #[.slice A n cap,.agg #[.int .i64 s.frm,.int .i64 s.upto]] w fun e w'=>∃v xs,e=.returned (.tuple #[v,.int .i64 (adE l s)])∧
   Own XJ 2 51 w' w.heap.size v (okL (adE l s) (Uo s l)) xs∧yw w w':=by
 have aI:=h.bd;have av:=yh h.len;obtain⟨u,hu⟩:=yE (adE l s);obtain⟨R,hR⟩:=yE (Uo s l);rw[←hu,←hR];have HU:=yh hu;clear hu;have HR:=yh hR;clear hR
 have aK:n≤1000:=by rw[←av.out];exact hl
 have aD:=yh ay;clear ay;have HS:=yh hs;clear hs;clear hl;go_enter func210,ntmps210;go_upto_region 0 with(fail);go_cut [3] (fun p wx=>∃g,yp p g∧SpanAt wx g s.frm s.upto∧yw w wx)
 case first=>as_aux_lemma=>
  go_wp2_with fail;go_meet;exact⟨_,rfl,Zk _ _,Qi _ _⟩
 obtain⟨g,rfl,hS,ao⟩:=hcut;replace h:=h.bel ao;obtain⟨O,aE⟩:=yE wc;have ai:=yh hS;have HH:=yh h;have I:=yh ao;clear hS h ao;subst aE;go_wp2_with fail
 go_loopg [6,7,8] n (fun gk o p i wr=>∃k:Nat,k≤n∧n-k≤gk∧i=.int .i64 k∧p=.bool (YI s (l.take k))∧Aside ((l.take k).any (fun x=>Q8 x s)=false)∧∃xs,Own XJ 2 51 wr O.heap.size o (Uc s (l.take k)) xs∧yw O wr)
 case atStart=>exact⟨0,M0 _,by omega,rfl,rfl,rfl,[],Own.nil _ _ _ _ _,J4 _ _⟩
 case round=>
  obtain⟨k,hk,aJ,rfl,rfl,HE,xs,E,D⟩:=hrel;obtain⟨A2,n2,aH,rfl,_⟩:=E.sl Qz;obtain⟨L,hL⟩:=yE (Uc s (l.take k));obtain⟨p,hp⟩:=yE (YI s (l.take k));rw[←hL]at E;rw[←hp]
  have ax:L.length≤1001:=by
   rw[hL];have h1:=XZb s (l.take k);have h2:=List.length_take_le k l;omega
  have Z:=yh ax;have HL:=yh hL;clear hL;have HP:=yh hp;clear hp;clear ax;by_cases hlt:k<n
  ·obtain⟨b,al,x,c0,c1,rfl,hx,⟨hc,x0,x1⟩,g0,g1⟩:=HH.at2 hlt;simp only[List.cons.injEq,and_true]at hc;obtain⟨rfl,rfl⟩:=hc;have lb:=ZT g0
   have aw:∀X,yw O X→yI X b (al+k*2) x.frm∧yI X b (al+k*2+1) x.upto∧yI X g 0 s.frm∧yI X g 1 s.upto:=fun X hX=>
    ⟨(hX.cell (p:=⟨b,al+k*2,none⟩) lb).trans g0,(hX.cell (p:=⟨b,al+k*2+1,none⟩) lb).trans g1,(ai.below hX).c0,(ai.below hX).c1⟩
   have ar:=fun W=>Qwb x s W (aD x (J6 hx)) HS;obtain⟨q,hq⟩:=yE (Q8 x s);rw[←hq]at ar;have aC:=yh ar;clear ar;have J:=yh hx;clear hx;have HQ:=yh hq;clear hq;have am:=yh aw;clear aw;clear g0 g1;obtain⟨d0,d1,d2,d3⟩:=am _ D;go_upto_region 6 with(fail);go_cut [20] (fun t wx=>t=.bool q∧yw wr wx)
   case first=>as_aux_lemma=>
    go_region_with (go_at_call 240;refine yM (aC _) fun wn aG=>?_)
    all_goals
     go_wp2_with fail;go_meet;exact⟨rfl,(J4 _ wr).drew.trans aG⟩
   obtain⟨rfl,ap⟩:=hcut;replace E:=E.bel ap;replace D:=D.trans (ap.mono D.size);clear ap d0 d1 d2 d3;obtain⟨d0,d1,d2,d3⟩:=am _ D;cases q
   ·have an:=yh (show(l.take (k+1)).any (fun x=>Q8 x s)=false by rw[Qu J.out,HE,←HQ.out];rfl);cases p
    ·by_cases hc:s.frm<x.frm
     ·have hd:decide (s.frm<x.frm)=true:=J2 hc;have F:=yh (show Uc s (l.take (k+1))=L++[s]++[x]by rw[HL.out];exact X1b J HP.symm hc);have aa:=yh (show YI s (l.take (k+1))=true by rw[Xd J.out,←HP.out,J2 hc];rfl);clear hc;go_wp2_with fail;go_quiet (fail);have U:=below_drewN D nq;have ab:=(E.bel (below_drewN (J4 wc.heap.size wc) nq)).below Qz (Qi (wc.drewN nq) (.cells #[.int .i64 s.frm,.int .i64 s.upto] 51));have aM:=U.size
      have ag:O.heap.size≤((wc.drewN nq).alloc (.cells #[.int .i64 s.frm,.int .i64 s.upto] 51)).heap.size:=by simp;have:=D.size;omega
      go_wp2_with (first
       | (at_builtin;refine QC (t:=79) (e:=51) (bytes:=16) rfl (.tmp 37) (.tmp 42) rfl Xf Qz rfl Q rfl (Qfa _ All x.frm x.upto 51 x0 x1 trivial) (fun _ _ hc=>hc) (by have:=Z.out;first|omega|(simp;omega)) (by omega) V ?_;intro v' w' ah ae ad _)
       | (at_builtin;refine QC (t:=79) (e:=51) (bytes:=16) rfl (.tmp 33) (.tmp 35) rfl Xf Qz rfl ab rfl (Qfa _ All s.frm s.upto 51 az aA trivial) (fun _ _ hc=>hc) (by have:=Z.out;omega) (by omega) ag ?_;intro v1 w1 aB af aq _;have Y:=QA (U.alloc aM _) ab aq ag;have Q:=af.below Qz (Qi w1 (.cells #[.int .i64 x.frm,.int .i64 x.upto] 51));have V:O.heap.size≤(w1.alloc (.cells #[.int .i64 x.frm,.int .i64 x.upto] 51)).heap.size:=Nat.le_trans Y.size (by simp);have aF:=Y.alloc Y.size (.cells #[.int .i64 x.frm,.int .i64 x.upto] 51);obtain⟨f0,f1,f2,f3⟩:=am _ Y;obtain⟨A4,n4,c4,rfl,_⟩:=af.sl Qz))
      go_roundg (n-(k+1))
      case measure=>omega
      case rel=>exact⟨k+1,by omega,by omega,by go_num,by rw[aa.out],an,ah,by rw[F.out];exact ae,QA aF Q ad V⟩
     ·have hd:decide (s.frm<x.frm)=false:=J3 hc;have F:=yh (show Uc s (l.take (k+1))=L++[x]by rw[HL.out];exact X0b J HP.symm hc);have aa:=yh (show YI s (l.take (k+1))=false by rw[Xd J.out,←HP.out,J3 hc];rfl);clear hc;go_wp2_with fail;go_quiet (fail);have U:=below_drewN D nq;have Q:=(E.bel (below_drewN (J4 wc.heap.size wc) nq)).below Qz (Qi (wc.drewN nq) (.cells #[.int .i64 x.frm,.int .i64 x.upto] 51));have aM:=U.size
      have V:O.heap.size≤((wc.drewN nq).alloc (.cells #[.int .i64 x.frm,.int .i64 x.upto] 51)).heap.size:=by simp;have:=D.size;omega
      go_wp2_with (at_builtin;refine QC (t:=79) (e:=51) (bytes:=16) rfl (.tmp 37) (.tmp 42) rfl Xf Qz rfl Q rfl (Qfa _ All x.frm x.upto 51 x0 x1 trivial) (fun _ _ hc=>hc) (by have:=Z.out;first|omega|(simp;omega)) (by omega) V ?_;intro v' w' ah ae ad _);go_roundg (n-(k+1))
      case measure=>omega
      case rel=>exact⟨k+1,by omega,by omega,by go_num,by rw[aa.out],an,ah,by rw[F.out];exact ae,QA (U.alloc aM _) Q ad V⟩
    ·have F:=yh (show Uc s (l.take (k+1))=L++[x]by rw[HL.out];exact X2b J HP.symm);have aa:=yh (show YI s (l.take (k+1))=true by rw[Xd J.out,←HP.out];rfl);go_wp2_with fail;go_quiet (fail);have U:=below_drewN D nq;have Q:=(E.bel (below_drewN (J4 wc.heap.size wc) nq)).below Qz (Qi (wc.drewN nq) (.cells #[.int .i64 x.frm,.int .i64 x.upto] 51));have aM:=U.size
     have V:O.heap.size≤((wc.drewN nq).alloc (.cells #[.int .i64 x.frm,.int .i64 x.upto] 51)).heap.size:=by simp;have:=D.size;omega
     go_wp2_with (at_builtin;refine QC (t:=79) (e:=51) (bytes:=16) rfl (.tmp 37) (.tmp 42) rfl Xf Qz rfl Q rfl (Qfa _ All x.frm x.upto 51 x0 x1 trivial) (fun _ _ hc=>hc) (by have:=Z.out;first|omega|(simp;omega)) (by omega) V ?_;intro v' w' ah ae ad _);go_roundg (n-(k+1))
     case measure=>omega
     case rel=>exact⟨k+1,by omega,by omega,by go_num,by rw[aa.out],an,ah,by rw[F.out];exact ae,QA (U.alloc aM _) Q ad V⟩
   ·obtain rfl:u=6:=by rw[HU.out];exact M3 (Zwa J HQ.symm)
    go_wp2_with fail;go_ret2;exact⟨_,_,rfl,Own.nil _ _ _ _ _,I.trans (D.mono I.size)⟩
  ·obtain rfl:k=n:=by omega
   have hT:l.take k=l:=M1 (Nat.le_of_eq av);rw[hT]at HE
   obtain rfl:u=0:=by rw[HU.out];exact M2 (by rw[HE];simp)
   have aj:L=Uc s l:=by rw[HL.out,hT]
   have ac:p=YI s l:=by rw[HP.out,hT]
   obtain⟨_,_,d2,d3⟩:True∧True∧yI wr g 0 s.frm∧yI wr g 1 s.upto:=⟨trivial,trivial,(ai.below D).c0,(ai.below D).c1⟩;have ak:=I.trans (D.mono I.size);cases p
   ·have F:=yh (show L++[s]=R by rw[HR.out,Y0b ac.symm,aj];unfold Uc;rw[←ac];rfl);have ab:=E.below Qz (Qi wr (.cells #[.int .i64 s.frm,.int .i64 s.upto] 51));have aM:=D.size
    have ag:O.heap.size≤(wr.alloc (.cells #[.int .i64 s.frm,.int .i64 s.upto] 51)).heap.size:=by simp;omega
    have au:=yh ak;clear hT aj ac ak;go_wp2_with (at_builtin;refine QC (t:=79) (e:=51) (bytes:=16) rfl (.tmp 46) (.tmp 48) rfl Xf Qz rfl ab rfl (Qfa _ All s.frm s.upto 51 az aA trivial) (fun _ _ hc=>hc) (by have:=Z.out;omega) (by omega) ag ?_;intro v1 w1 aB af aq _;have Y:=QA (D.alloc aM _) ab aq ag;obtain⟨A4,n4,c4,rfl,_⟩:=af.sl Qz);go_ret2;exact⟨_,aB,rfl,by rw[QR,←F.out];exact af.mono Qz I.size,I.trans (Y.mono I.size)⟩
   ·have F:=yh (show L=R by rw[HR.out,aj];unfold Uc;rw[←ac];rfl);have au:=yh ak;have HO:=yh E;clear hT aj ac ak E;go_wp2_with fail;go_ret2;exact⟨_,_,rfl,by rw[QR,←F.out];exact HO.mono Qz I.size,au⟩
theorem U6b (x y:Span):Q8 x y=Q8 y x:=by
 unfold Q8;rw[Bool.and_comm]
def VRa (out:List Span) (s:Span):Option (List Span):=if adE out s=0 then some (Uo s out)else none
def spF (ls:List Span):Option (List Span):=ls.foldl (fun o s=>o.bind (fun out=>VRa out s)) (some [])
theorem Vva (ls:List Span)(s:Span):spF (ls++[s])=(spF ls).bind (fun out=>VRa out s):=by
 unfold spF;rw[List.foldl_append];rfl
theorem Ysa {l:List Span}{s:Span} : adE l s=0↔l.any (fun x=>Q8 x s)=false:=by
 unfold adE;cases h:l.any (fun x=>Q8 x s)
 ·simp
 ·simp
theorem Qib {α:Type}{p:List α→Prop}(A:p [])(D:∀l x,p l→p (l++[x])):∀l,p l:=fun l=>by
 have:∀l:List α,p l.reverse:=fun l=>by
  induction l with
  | nil=>exact A
  | cons x l ih=>rw[List.reverse_cons];exact D _ _ ih
 have h:=this l.reverse
 rwa [List.reverse_reverse]at h
theorem Vxb:∀ls:List Span,∀out:List Span,(∀x∈ls,x.frm<x.upto)→spF ls=some out→out.Perm ls∧out.Pairwise (fun x y=>x.upto≤y.frm):=by
 refine Qib (p:=fun ls=>∀out:List Span,(∀x∈ls,x.frm<x.upto)→spF ls=some out→out.Perm ls∧out.Pairwise (fun x y=>x.upto≤y.frm)) ?_ ?_
 ·intro out _ h;injection h with h;subst h;exact⟨List.Perm.refl _,List.Pairwise.nil⟩
 ·intro ls s I out A h;rw[Vva]at h
  cases ho:spF ls with
  | none=>rw[ho]at h;cases h
  | some o=>
   rw[ho]at h;have h:VRa o s=some out:=h;unfold VRa at h;by_cases h1:adE o s=0
   ·rw[M3 h1]at h;injection h with h;subst h;obtain⟨E,F⟩:=I _ (fun x D=>A x (List.mem_append_left _ D)) ho;exact⟨(UYa s o).trans (E.append_right [s]),Xsb (A s (by simp)) (fun x D=>A x (List.mem_append_left _ (E.subset D))) F (Ysa.1 h1)⟩
   ·rw[M2 h1]at h;cases h
theorem Yf {ls out:List Span}(A:∀x∈ls,x.frm<x.upto)(D:spF ls=some out):out.Perm ls∧out.Pairwise (fun x y=>x.upto≤y.frm):=Vxb ls out A D
theorem Zwb:∀ls:List Span,(∀x∈ls,x.frm<x.upto)→ls.Pairwise (fun x y=>Q8 x y=false)→∃out,spF ls=some out:=by
 refine Qib (p:=fun ls=>(∀x∈ls,x.frm<x.upto)→ls.Pairwise (fun x y=>Q8 x y=false)→∃out,spF ls=some out) (fun _ _=>⟨[],rfl⟩) ?_;intro ls s J F D;rw[List.pairwise_append]at D;obtain⟨o,E⟩:=J (fun x A=>F x (List.mem_append_left _ A)) D.1;have I:=(Yf (fun x A=>F x (List.mem_append_left _ A)) E).1;rw[Vva,E];refine⟨Uo s o,?_⟩
 show VRa o s=_
 unfold VRa;rw[M3 (Ysa.2 (List.any_eq_false.2 fun x A=>by rw[D.2.2 x (I.subset A) s (by simp)];simp))]
theorem ZRa {ls:List Span}(A:∀x∈ls,x.frm<x.upto)(D:ls.Pairwise (fun x y=>Q8 x y=false)):∃out,spF ls=some out:=Zwb ls A D
theorem Vga {R:Span→Span→Prop}(D:∀x y z,R x y→R y z→R x z):∀{s:List Span},(∀i x y,s[i]? = some x→s[i+1]? = some y→R x y)→s.Pairwise R
 | [],_=>List.Pairwise.nil
 | [x],_=>by simp
 | x::y::s,h=>by
  have F:=Vga D (s:=y::s) (fun i a b I J=>h (i+1) a b (by simpa using I) (by simpa using J));have E:=h 0 x y rfl rfl;rw[List.pairwise_cons];refine⟨fun z A=>?_,F⟩;rcases List.mem_cons.1 A with rfl|A
  ·exact E
  ·exact D x y z E ((List.pairwise_cons.1 F).1 z A)
theorem Xya {s:List Span}(h:s.Pairwise (fun x y=>x.upto≤y.frm)):s.Pairwise (fun x y=>Q8 x y=false):=
 h.imp fun A=>by unfold Q8;simp;omega
theorem VAb {ls s:List Span}(D:∀x∈ls,x.frm<x.upto)(I:s.Perm ls)(Y:s.Pairwise (fun x y=>x.frm≤y.frm)) :
  ((∀i x y,s[i]? = some x→s[i+1]? = some y→Q8 x y=false)→spF ls=some s)∧((∃i x y,s[i]? = some x∧s[i+1]? = some y∧Q8 x y=true)→spF ls=none):=by
 have X:∀x∈s,x.frm<x.upto:=fun x A=>D x (I.subset A)
 have Z:∀{x y:Span},Q8 x y=false→Q8 y x=false:=fun {x y} h=>by rw[U6b];exact h
 refine⟨fun h=>?_,fun h=>?_⟩
 ·have hw:s.Pairwise (fun x y=>x.upto≤y.frm):=by
   refine List.Pairwise.imp (R:=fun x y=>x.upto≤y.frm∧y.frm<y.upto) (fun h=>h.1) (Vga (fun x y z V h2=>⟨by omega,h2.2⟩) fun i x y A E=>?_);have ab:=X x (J6 A);have aa:=X y (J6 E)
   have ac:x.frm≤y.frm:=by
    obtain⟨O,rfl⟩:=J0.1 A;obtain⟨Q,rfl⟩:=J0.1 E;exact List.pairwise_iff_getElem.1 Y i (i+1) O Q (by omega)
   rcases U6a (h i x y A E) ab aa with e|e
   ·exact⟨e,aa⟩
   ·omega
  obtain⟨o,F⟩:=ZRa D ((I.pairwise_iff (fun {x y}=>Z)).1 (Xya hw));obtain⟨J,U⟩:=Yf D F;rw[F,VXa (I.trans J.symm) Y (Qmc (fun x A=>D x (J.subset A)) U)]
 ·obtain⟨i,x,y,A,E,W⟩:=h
  cases F:spF ls with
  | none=>rfl
  | some o=>
   obtain⟨J,U⟩:=Yf D F;have V:s.Pairwise (fun x y=>Q8 x y=false):=((I.trans J.symm).pairwise_iff (fun {x y}=>Z)).2 (Xya U);obtain⟨O,rfl⟩:=J0.1 A;obtain⟨Q,rfl⟩:=J0.1 E;have:=List.pairwise_iff_getElem.1 V i (i+1) O Q (by omega);rw[this]at W;exact absurd W (by simp)
structure Bkg where
 id:Int
 kind:Int
 state:Int
 gst:Int
 lev:Bool
 cab:Int
 cat:Int
 frm:Int
 upto:Int
 til:Int
 fol:List Entry
 deriving Inhabited
structure BkIn (x:Bkg):Prop where
 id:InI x.id
 kind:InI x.kind
 state:InI x.state
 gst:InI x.gst
 cab:InI x.cab
 cat:InI x.cat
 frm:InI x.frm
 upto:InI x.upto
 til:InI x.til
abbrev Qk (x:Bkg) (v:Value):Array Value:=#[.int .i64 x.id,.int .i64 x.kind,.int .i64 x.state,.int .i64 x.gst,.bool x.lev,.int .i64 x.cab,.int .i64 x.cat,.int .i64 x.frm,.int .i64 x.upto,.int .i64 x.til,v]
def ZP:Cod Bkg:=fun w S x cs=>∃A n cap,cs=(Qk x (.slice A n cap)).toList∧Sl Qm 3 w S A n cap x.fol∧BkIn x
theorem Xa:Good ZP:=⟨fun h E=>by
  obtain⟨A,n,cap,rfl,h,F⟩:=h
  exact⟨A,n,cap,rfl,h.keep Qb (by omega) E,F⟩,fun h u D=>by
  obtain⟨A,n,cap,rfl,h,F⟩:=h
  simp[Qk]at D;rcases D with rfl|rfl|rfl|rfl|rfl|rfl|rfl|rfl|rfl|rfl|rfl<;>rfl⟩
instance bkgK:CodK ZP 11:=⟨Xa,by omega⟩
instance entryK:CodK Qm 3:=⟨Qb,by omega⟩
def YH (c:Cab) (b:Bkg):Bool:=decide (b.gst≤c.ber) && (c.lev || !b.lev)
def QXa (x:Shp) (i:Int):Cab:=x.cabs.getD i.toNat default
def Zi (x:Shp) (b:Bkg) (i:Int):Bool:=YH (QXa x i) b && ZSa (QZ x.cats) (QXa x i).cat.toNat b.cat.toNat
def YY (x:Shp) (b:Bkg):Int:=if Qc b.cab 0 ((x.cabs.length:Int)-1)=false then 3 else if b.cat≠0 then 1 else if YH (QXa x b.cab) b=false then 4 else 0
def Zga (x:Shp) (b:Bkg):Int:=if Qc b.cat 0 ((x.cats.length:Int)-1)=false then 3 else if b.frm≠0∨b.upto≠x.legs then 4 else if Qc b.cab (-1) ((x.cabs.length:Int)-1)=false then 3
 else if 0≤b.cab∧Zi x b b.cab=false then 4 else 0
def kindE (x:Shp) (b:Bkg):Int:=if b.kind=2 then Zga x b else YY x b
def ofE (x:Shp) (b:Bkg):Int:=if (Qc b.kind 1 2 && Qc b.state 1 3)=false then 7 else if (Qc b.id 1 999999 && Qc b.gst 1 4)=false then 3 else if VS ⟨b.frm,b.upto⟩ x.legs≠0 then VS ⟨b.frm,b.upto⟩ x.legs
 else if kindE x b≠0 then kindE x b else if Qc b.til 0 9999=false then 3 else if b.til≠0∧b.state≠1 then 1 else Qe b.fol
def QB (b:Bkg):Bool:=!decide (b.state=3)
def UZ (c:Int) (b:Bkg):Bool:=QB b && decide (b.cab=c)
def spL (l:List Bkg) (c:Int):List Span:=(l.filter (UZ c)).map (fun b=>⟨b.frm,b.upto⟩)
def Us (l:List Bkg) (k:Nat):Int:=(l.map (fun b=>if QB b=true∧b.frm≤k∧(k:Int)<b.upto then b.gst else 0)).sum
def QU (l:List Bkg) (legs:Nat):List Int:=(List.range legs).map (Us l)
abbrev V1b (c:Cab):Array Value:=#[Zf c.name,.int .i64 c.cat,.int .i64 c.ber,.bool c.lev]
theorem Z5 (n a b:Int)(w:World):Calls prog 122 #[.int .i64 n,.int .i64 a,.int .i64 b] w fun e w'=>e=.returned (.bool (Qc n a b))∧w=w':=by
 go_enter func122,ntmps122;go_wp2
 all_goals go_ret
 all_goals exact⟨Ux (by unfold Qc;simp;try omega),rfl⟩
theorem YMa {c:Cab}{b:Bkg}(h:b.gst≤c.ber):YH c b=(c.lev || !b.lev):=by unfold YH;rw[J2 h];rfl
theorem Xma {c:Cab}{b:Bkg}(h:¬b.gst≤c.ber):YH c b=false:=by unfold YH;rw[J3 h];rfl
theorem Qh {B:Nat}{W X:World}{p:Addr}{v:Value}(E:Below B W X)(A:W.cell? p=some v)(D:B=W.heap.size:=by rfl):X.cell? p=some v:=(World.cell?_of_block (E.block _ (by rw[D];exact World.block_lt_of_cell? W p A))).trans A
theorem Xda (c:Cab)(x:Bkg)(v:Value)(w:World) :
  Calls prog 232 #[.agg (V1b c),.agg (Qk x v)] w fun e w'=>e=.returned (.bool (YH c x))∧yw w w':=by
 obtain⟨W,O,A,F⟩:=c;obtain⟨id,V,X,D,lev,I,J,U,upto,Y,Q⟩:=x;obtain⟨r,E⟩:=yE (YH ⟨W,O,A,F⟩ ⟨id,V,X,D,lev,I,J,U,upto,Y,Q⟩);rw[←E];have HT:=yh (fun h:D≤A=>E.trans (YMa (c:=⟨W,O,A,F⟩) (b:=⟨id,V,X,D,lev,I,J,U,upto,Y,Q⟩) h));have HF:=yh (fun h:¬D≤A=>E.trans (Xma (c:=⟨W,O,A,F⟩) (b:=⟨id,V,X,D,lev,I,J,U,upto,Y,Q⟩) h));clear E;go_enter func232,ntmps232;go_upto_region 0 with(fail);go_cut [2,3,4] (fun p q _ Z=>∃g k,yp p g∧yp q k∧Blk Z g (V1b ⟨W,O,A,F⟩) 136∧Blk Z k (Qk ⟨id,V,X,D,lev,I,J,U,upto,Y,Q⟩ v) 63∧yw w Z)
 case first=>as_aux_lemma=>
  go_wp2_with fail;go_meet;exact⟨_,_,rfl,rfl,QE _ _ _,QF _ _ _,Zo _ _ _⟩
 obtain⟨g,k,rfl,rfl,hG,hK,hb⟩:=hcut;have g2:yI wc g 2 A:=hG.cell rfl;have g3:wc.cell? ⟨g,3,none⟩=some (.bool F):=hG.cell rfl;have k3:yI wc k 3 D:=hK.cell rfl;have k4:wc.cell? ⟨k,4,none⟩=some (.bool lev):=hK.cell rfl;by_cases h1:D≤A
 ·have E:=HT h1;cases F<;>cases lev<;>(simp at E;subst E;go_wp2_with fail;go_ret;exact⟨rfl,hb⟩)
 ·obtain rfl:=HF h1
  have h2:A<D:=by omega
  go_wp2_with fail;go_ret;exact⟨rfl,hb⟩
theorem ZWa (c:Cab)(x:Bkg)(v:Value)(w:World) :
  Calls prog 146 #[.agg (V1b c),.agg (Qk x v)] w fun e w'=>e=.returned (.bool (YH c x))∧yw w w':=by
 obtain⟨W,O,A,F⟩:=c;obtain⟨id,V,X,D,lev,I,J,U,upto,Y,Q⟩:=x;obtain⟨r,E⟩:=yE (YH ⟨W,O,A,F⟩ ⟨id,V,X,D,lev,I,J,U,upto,Y,Q⟩);rw[←E];have HT:=yh (fun h:D≤A=>E.trans (YMa (c:=⟨W,O,A,F⟩) (b:=⟨id,V,X,D,lev,I,J,U,upto,Y,Q⟩) h));have HF:=yh (fun h:¬D≤A=>E.trans (Xma (c:=⟨W,O,A,F⟩) (b:=⟨id,V,X,D,lev,I,J,U,upto,Y,Q⟩) h));clear E;go_enter func146,ntmps146;go_upto_region 0 with(fail);go_cut [2,3,4] (fun p q _ Z=>∃g k,yp p g∧yp q k∧Blk Z g (V1b ⟨W,O,A,F⟩) 136∧Blk Z k (Qk ⟨id,V,X,D,lev,I,J,U,upto,Y,Q⟩ v) 63∧yw w Z)
 case first=>as_aux_lemma=>
  go_wp2_with fail;go_meet;exact⟨_,_,rfl,rfl,QE _ _ _,QF _ _ _,Zo _ _ _⟩
 obtain⟨g,k,rfl,rfl,hG,hK,hb⟩:=hcut;have g2:yI wc g 2 A:=hG.cell rfl;have g3:wc.cell? ⟨g,3,none⟩=some (.bool F):=hG.cell rfl;have k3:yI wc k 3 D:=hK.cell rfl;have k4:wc.cell? ⟨k,4,none⟩=some (.bool lev):=hK.cell rfl;by_cases h1:D≤A
 ·have E:=HT h1;cases F<;>cases lev<;>(simp at E;subst E;go_wp2_with fail;go_ret;exact⟨rfl,hb⟩)
 ·obtain rfl:=HF h1
  have h2:A<D:=by omega
  go_wp2_with fail;go_ret;exact⟨rfl,hb⟩
theorem QJb {x:Shp}(F:OkShp x){k:Nat}(E:k<x.cabs.length):0≤(x.cabs.getD k default).cat∧(x.cabs.getD k default).cat<x.cats.length∧Qc (x.cabs.getD k default).ber 1 4=true:=by
 have h:=U4 F.cabs k E;unfold nmE at h;by_cases h1:VI ((Qv x.cabs).getD k [])=false
 ·rw[M3 h1]at h;omega
 rw[M2 h1]at h;by_cases h2:((Qv x.cabs).take k).contains ((Qv x.cabs).getD k [])=true
 ·rw[M3 h2]at h;omega
 rw[M2 h2]at h;unfold QDa at h;dsimp only at h;by_cases h3:Qc (x.cabs.getD k default).cat 0 ((x.cats.length:Int)-1)=false∨Qc (x.cabs.getD k default).ber 1 4=false
 ·rw[M3 h3]at h;omega
 ·have A:Qc (x.cabs.getD k default).cat 0 ((x.cats.length:Int)-1)=true:=by
   cases e:Qc (x.cabs.getD k default).cat 0 ((x.cats.length:Int)-1)
   ·exact absurd (.inl e) h3
   ·rfl
  have D:=Ql.1 A;refine⟨D.1,by omega,?_⟩;cases e:Qc (x.cabs.getD k default).ber 1 4
  ·exact absurd (.inr e) h3
  ·rfl
theorem Sl.cab {w:World}{B:Option Addr}{m O:Nat}{l:List Cab}(h:Sl Ut 4 w All B m O l){k:Nat}(Y:k<m):∃(b A:Nat) (J:List UInt8) (E D:Int) (I:Bool),B=some ⟨b,A,none⟩∧l.getD k default=⟨J,E,D,I⟩∧
  w.cell? ⟨b,A+k*4,none⟩=some (Zf J)∧w.cell? ⟨b,A+k*4+1,none⟩=some (.int .i64 E)∧w.cell? ⟨b,A+k*4+2,none⟩=some (.int .i64 D)∧w.cell? ⟨b,A+k*4+3,none⟩=some (.bool I):=by
 obtain⟨b,A,x,c0,c1,c2,c3,X,Z,⟨F,_⟩,Q,U,V,W⟩:=h.at4 Y;simp only[List.cons.injEq,and_true]at F;obtain⟨rfl,rfl,rfl,rfl⟩:=F;exact⟨b,A,x.name,x.cat,x.ber,x.lev,X,by rw[J7,Z];rfl,Q,U,V,W⟩
theorem QRa (x:Shp)(A:Option Addr)(n cap:Nat)(B:Option Addr)(m U:Nat)(b:Bkg)(v:Value)(k:Nat)(w:World)(hc:Sl UX 2 w All A n cap x.cats)(hb:Sl Ut 4 w All B m U x.cabs)(ho:OkShp x)
  (hk:k<m) (h0:0≤b.cat) (h1:b.cat<n) :
  Calls prog 191 #[.agg #[.int .i64 x.legs,.int .i64 x.souls,.slice A n cap,.slice B m U],.agg (Qk b v),.int .i64 (k:Int)] w fun e w'=>e=.returned (.bool (Zi x b k))∧yw w w':=by
 obtain⟨id,Y,aa,ao,lev,Q,ag,V,upto,ab,ac⟩:=b;simp only at h0 h1;obtain⟨q,rfl⟩:∃q:Nat,ag=q:=⟨ag.toNat,by omega⟩
 have hq:q<n:=by omega
 obtain⟨r,hr⟩:=yE (Zi x ⟨id,Y,aa,ao,lev,Q,(q:Int),V,upto,ab,ac⟩ k);rw[←hr];obtain⟨b,ae,nm,E,O,Z,hB,hx,e0,e1,e2,e3⟩:=hb.cab hk;subst hB;have af:=QJb ho (k:=k) (by rw[hb.len];exact hk);rw[hx,hc.len]at af;simp only at af;obtain⟨E,rfl⟩:∃d:Nat,E=d:=⟨E.toNat,by omega⟩
 have al:E<n:=by omega
 have ai:QXa x k=⟨nm,E,O,Z⟩:=hx;have HR:=yh (show r=(YH ⟨nm,E,O,Z⟩ ⟨id,Y,aa,ao,lev,Q,(q:Int),V,upto,ab,ac⟩ && ZSa (QZ x.cats) E q)by rw[hr];unfold Zi;rw[ai];rfl);have HM:=yh (fun W h=>YIb x.legs x.souls A n cap x.cats (.slice (some ⟨b,ae,none⟩) m U) E q W h ho.ok al hq);have HF:=yh (fun W=>Xda ⟨nm,E,O,Z⟩ ⟨id,Y,aa,ao,lev,Q,(q:Int),V,upto,ab,ac⟩ v W);have HC:=yh hc;have HB:=yh hb;clear hr hx af hc hb h0 h1 ai;go_enter func191,ntmps191;go_upto_region 0 with(fail);go_cut [3,4,6] (fun p p2 _ wx=>∃g h,yp p g∧yp p2 h∧Blk wx g #[.int .i64 x.legs,.int .i64 x.souls,.slice A n cap,.slice (some ⟨b,ae,none⟩) m U] 25∧Blk wx h (Qk ⟨id,Y,aa,ao,lev,Q,(q:Int),V,upto,ab,ac⟩ v) 63∧yw w wx)
 case first=>as_aux_lemma=>
  go_wp2_with fail;go_meet;exact⟨_,_,rfl,rfl,QE _ _ _,QF _ _ _,Zo _ _ _⟩
 obtain⟨g,h,rfl,rfl,F,hH,D⟩:=hcut;have g3:yJ wc g 3 (some ⟨b,ae,none⟩) m U:=F.cell rfl;replace e0:=Qh D e0;replace e1:=Qh D e1;replace e2:=Qh D e2;replace e3:=Qh D e3;go_upto_region 1 with(fail);obtain⟨w1,rfl⟩:=yE wc;go_cut [7] (fun p wx=>∃z,yp p z∧Blk wx z (V1b ⟨nm,E,O,Z⟩) 136∧yw w1 wx)
 case first=>as_aux_lemma=>
  go_wp2_with fail;go_meet;exact⟨_,rfl,Zk _ _,Qi _ _⟩
 obtain⟨z,rfl,I,ad⟩:=hcut;replace F:=F.bel ad;replace hH:=hH.bel ad;replace D:=D.trans (ad.mono D.size);clear ad e0 e1 e2 e3 g3;obtain⟨f,hf⟩:=yE (YH ⟨nm,E,O,Z⟩ ⟨id,Y,aa,ao,lev,Q,(q:Int),V,upto,ab,ac⟩);rw[←hf]at HF HR;clear hf;have k0:yI wc h 0 id:=hH.cell rfl;have k1:yI wc h 1 Y:=hH.cell rfl;have k2:yI wc h 2 aa:=hH.cell rfl;have k3:yI wc h 3 ao:=hH.cell rfl;have k4:wc.cell? ⟨h,4,none⟩=some (.bool lev):=hH.cell rfl;have k5:yI wc h 5 Q:=hH.cell rfl;have k6:yI wc h 6 (q:Int):=hH.cell rfl;have k7:yI wc h 7 V:=hH.cell rfl;have k8:yI wc h 8 upto:=hH.cell rfl;have k9:yI wc h 9 ab:=hH.cell rfl;have am:wc.cell? ⟨h,10,none⟩=some (v):=hH.cell rfl;have z0:wc.cell? ⟨z,0,none⟩=some (Zf nm):=I.cell rfl;have z1:yI wc z 1 (E:Int):=I.cell rfl;have z2:yI wc z 2 O:=I.cell rfl;have z3:wc.cell? ⟨z,3,none⟩=some (.bool Z):=I.cell rfl;go_wp2_with fail;refine yM (HF _) fun J X=>?_;cases f
 ·obtain rfl:r=false:=HR.out;go_wp2_with fail;go_ret;exact⟨rfl,D.trans (X.mono D.size)⟩
 ·obtain⟨s,hs⟩:=yE (ZSa (QZ x.cats) E q);rw[←hs]at HM HR
  obtain rfl:r=s:=by rw[HR.out];rfl
  clear hs;replace F:=F.bel X;replace hH:=hH.bel X;replace I:=I.bel X;replace D:=D.trans (X.mono D.size);clear X k0 k1 k2 k3 k4 k5 k6 k7 k8 k9 am z0 z1 z2 z3;have g0:yI J g 0 x.legs:=F.cell rfl;have g1:yI J g 1 x.souls:=F.cell rfl;have g2:yJ J g 2 A n cap:=F.cell rfl;have g3:yJ J g 3 (some ⟨b,ae,none⟩) m U:=F.cell rfl;have z1:yI J z 1 (E:Int):=I.cell rfl;have h6:yI J h 6 (q:Int):=hH.cell rfl;have ah:=HM J (HC.bel D);have aj:=yh ah;clear ah;go_wp2_with fail;refine yM aj fun w3 ak=>?_;go_wp2_with fail;go_ret;exact⟨rfl,D.trans (ak.mono D.size)⟩
theorem Xi (x:Shp)(A:Option Addr)(n cap:Nat)(B:Option Addr)(m Y:Nat)(b:Bkg)(v:Value)(k:Nat)(w:World)(hc:Sl UX 2 w All A n cap x.cats)(hb:Sl Ut 4 w All B m Y x.cabs)(ho:OkShp x)
  (hk:k<m) (h0:0≤b.cat) (h1:b.cat<n) :
  Calls prog 147 #[.agg #[.int .i64 x.legs,.int .i64 x.souls,.slice A n cap,.slice B m Y],.agg (Qk b v),.int .i64 (k:Int)] w fun e w'=>e=.returned (.bool (Zi x b k))∧yw w w':=by
 obtain⟨id,V,aq,U,lev,O,aj,Q,upto,ar,ad⟩:=b;simp only at h0 h1;obtain⟨q,rfl⟩:∃q:Nat,aj=q:=⟨aj.toNat,by omega⟩
 have hq:q<n:=by omega
 obtain⟨r,hr⟩:=yE (Zi x ⟨id,V,aq,U,lev,O,(q:Int),Q,upto,ar,ad⟩ k);rw[←hr];obtain⟨b,F,nm,I,aa,lv,hB,hx,e0,e1,e2,e3⟩:=hb.cab hk;subst hB;have ah:=QJb ho (k:=k) (by rw[hb.len];exact hk);rw[hx,hc.len]at ah;simp only at ah;obtain⟨I,rfl⟩:∃d:Nat,I=d:=⟨I.toNat,by omega⟩
 have am:I<n:=by omega
 have ak:QXa x k=⟨nm,I,aa,lv⟩:=hx;have HR:=yh (show r=(YH ⟨nm,I,aa,lv⟩ ⟨id,V,aq,U,lev,O,(q:Int),Q,upto,ar,ad⟩ && ZSa (QZ x.cats) I q)by rw[hr];unfold Zi;rw[ak];rfl);have HM:=yh (fun W h=>VFa x.legs x.souls A n cap x.cats (.slice (some ⟨b,F,none⟩) m Y) I q W h ho.ok am hq);have HF:=yh (fun W=>ZWa ⟨nm,I,aa,lv⟩ ⟨id,V,aq,U,lev,O,(q:Int),Q,upto,ar,ad⟩ v W);have HC:=yh hc;have HB:=yh hb;clear hr hx ah hc hb h0 h1 ak;go_enter func147,ntmps147;go_upto_region 0 with(fail);go_cut [3,4,6] (fun p p2 _ wx=>∃g h,yp p g∧yp p2 h∧Blk wx g #[.int .i64 x.legs,.int .i64 x.souls,.slice A n cap,.slice (some ⟨b,F,none⟩) m Y] 25∧Blk wx h (Qk ⟨id,V,aq,U,lev,O,(q:Int),Q,upto,ar,ad⟩ v) 63∧yw w wx)
 case first=>as_aux_lemma=>
  go_wp2_with fail;go_meet;exact⟨_,_,rfl,rfl,QE _ _ _,QF _ _ _,Zo _ _ _⟩
 obtain⟨g,h,rfl,rfl,hG,J,ae⟩:=hcut;replace e0:=Qh ae e0;replace e1:=Qh ae e1;replace e2:=Qh ae e2;replace e3:=Qh ae e3;have g0:yI wc g 0 x.legs:=hG.cell rfl;have g1:yI wc g 1 x.souls:=hG.cell rfl;have g2:yJ wc g 2 A n cap:=hG.cell rfl;have g3:yJ wc g 3 (some ⟨b,F,none⟩) m Y:=hG.cell rfl;have k0:yI wc h 0 id:=J.cell rfl;have k1:yI wc h 1 V:=J.cell rfl;have k2:yI wc h 2 aq:=J.cell rfl;have k3:yI wc h 3 U:=J.cell rfl;have k4:wc.cell? ⟨h,4,none⟩=some (.bool lev):=J.cell rfl;have k5:yI wc h 5 O:=J.cell rfl;have k6:yI wc h 6 (q:Int):=J.cell rfl;have k7:yI wc h 7 Q:=J.cell rfl;have k8:yI wc h 8 upto:=J.cell rfl;have k9:yI wc h 9 ar:=J.cell rfl;have ag:wc.cell? ⟨h,10,none⟩=some (v):=J.cell rfl;obtain⟨f,hf⟩:=yE (YH ⟨nm,I,aa,lv⟩ ⟨id,V,aq,U,lev,O,(q:Int),Q,upto,ar,ad⟩);rw[←hf]at HF HR;clear hf
 have ai:=yh (fun(X:World) (D:yw wc X)=>And.intro (And.intro (Qh D g0) (And.intro (Qh D g1) (And.intro (Qh D g2) (Qh D g3)))) (And.intro (And.intro (Qh D e0) (And.intro (Qh D e1) (And.intro (Qh D e2) (Qh D e3))))
  (And.intro (Qh D k0) (And.intro (Qh D k1) (And.intro (Qh D k2) (And.intro (Qh D k3) (And.intro (Qh D k4) (And.intro (Qh D k5) (And.intro (Qh D k6) (And.intro (Qh D k7) (And.intro (Qh D k8) (And.intro (Qh D k9) (Qh D ag)))))))))))))
 have E:yw wc wc.drew:=(J4 _ wc).drew;have ab:=yh ae;replace e0:=Qh E e0;replace e1:=Qh E e1;replace e2:=Qh E e2;replace e3:=Qh E e3;replace g3:=Qh E g3;replace k0:=Qh E k0;replace k1:=Qh E k1;replace k2:=Qh E k2;replace k3:=Qh E k3;replace k4:=Qh E k4;replace k5:=Qh E k5;replace k6:=Qh E k6;replace k7:=Qh E k7;replace k8:=Qh E k8;replace k9:=Qh E k9;replace ag:=Qh E ag;have an:(0:Int)≤(k:Int):=Int.natCast_nonneg _
 have ao:(k:Int)<(m:Int):=by omega
 clear g0 g1 g2 hG J;have ac:=yh (show ∀X,yw wc X→(fun w'=>(yI w' g 0 x.legs∧yI w' g 1 x.souls∧yJ w' g 2 A n cap∧yJ w' g 3 (some ⟨b,F,none⟩) m Y)∧(w'.cell? ⟨b,F+k*4,none⟩=some (Zf nm)∧yI w' b (F+k*4+1) (I:Int)∧yI w' b (F+k*4+2) aa∧w'.cell? ⟨b,F+k*4+3,none⟩=some (.bool lv))∧(yI w' h 0 id∧yI w' h 1 V∧yI w' h 2 aq∧yI w' h 3 U∧w'.cell? ⟨h,4,none⟩=some (.bool lev)∧yI w' h 5 O∧yI w' h 6 (q:Int)∧yI w' h 7 Q∧yI w' h 8 upto∧yI w' h 9 ar∧w'.cell? ⟨h,10,none⟩=some v)) X from ai);have hb:=E;clear k0 k1 k2 k3 k4 k5 k6 k7 k8 k9 ag e0 e1 e2 e3 g3 ai E;cases f
 ·obtain rfl:r=false:=HR.out;go_upto_region 1 with(fail);refine yZ (S:=(fun w'=>(yI w' g 0 x.legs∧yI w' g 1 x.souls∧yJ w' g 2 A n cap∧yJ w' g 3 (some ⟨b,F,none⟩) m Y)∧(w'.cell? ⟨b,F+k*4,none⟩=some (Zf nm)∧yI w' b (F+k*4+1) (I:Int)∧yI w' b (F+k*4+2) aa∧w'.cell? ⟨b,F+k*4+3,none⟩=some (.bool lv))∧(yI w' h 0 id∧yI w' h 1 V∧yI w' h 2 aq∧yI w' h 3 U∧w'.cell? ⟨h,4,none⟩=some (.bool lev)∧yI w' h 5 O∧yI w' h 6 (q:Int)∧yI w' h 7 Q∧yI w' h 8 upto∧yI w' h 9 ar∧w'.cell? ⟨h,10,none⟩=some v))) (ac _ hb) fun af=>?_;refine yT [0,1,2,3,4,5] ?_;iterate 6 (refine yS ?_;simp only[yU])
  refine yR 6 fun K hK=>?_;go_simp
  (go_at_call 146;refine yM (HF _) fun w2 Z=>?_;replace hb:=hb.trans (Z.mono hb.size);clear Z)
  go_wp2_with fail;refine hK.out _ _ (ac _ hb) fun af=>?_;clear hK K
  try simp only[yU]
  refine yT [7] ?_;iterate 1 (refine yS ?_;simp only[yU])
  refine wpAnyH_take (i:=8) (v:=undef) (gA rfl) (by kernel_rfl) (by kernel_rfl) (by kernel_rfl) (fun _ _ _ h=>h) (Or.inr ⟨rfl,rfl⟩) (by assumption) ?_;simp only[yU];refine wpAnyH_take (i:=9) (v:=undef) (gA rfl) (by kernel_rfl) (by kernel_rfl) (by kernel_rfl) (fun _ _ _ h=>h) (Or.inr ⟨rfl,rfl⟩) (by assumption) ?_;simp only[yU];refine wpAnyH_take (i:=10) (v:=undef) (gA rfl) (by kernel_rfl) (by kernel_rfl) (by kernel_rfl) (fun _ _ _ h=>h) (Or.inr ⟨rfl,rfl⟩) (by assumption) ?_;simp only[yU];refine wpAnyH_take (i:=11) (v:=undef) (gA rfl) (by kernel_rfl) (by kernel_rfl) (by kernel_rfl) (fun _ _ _ h=>h) (Or.inr ⟨rfl,rfl⟩) (by assumption) ?_;simp only[yU];refine wpAnyH_take (i:=12) (v:=undef) (gA rfl) (by kernel_rfl) (by kernel_rfl) (by kernel_rfl) (fun _ _ _ h=>h) (Or.inr ⟨rfl,rfl⟩) (by assumption) ?_;simp only[yU];refine wpAnyH_take (i:=13) (v:=undef) (gA rfl) (by kernel_rfl) (by kernel_rfl) (by kernel_rfl) (fun _ _ _ h=>h) (Or.inr ⟨rfl,rfl⟩) (by assumption) ?_;simp only[yU];refine wpAnyH_take (i:=14) (v:=undef) (gA rfl) (by kernel_rfl) (by kernel_rfl) (by kernel_rfl) (fun _ _ _ h=>h) (Or.inr ⟨rfl,rfl⟩) (by assumption) ?_;simp only[yU];refine wpAnyH_take (i:=15) (v:=undef) (gA rfl) (by kernel_rfl) (by kernel_rfl) (by kernel_rfl) (fun _ _ _ h=>h) (Or.inr ⟨rfl,rfl⟩) (by assumption) ?_;simp only[yU];refine wpAnyH_take (i:=16) (v:=undef) (gA rfl) (by kernel_rfl) (by kernel_rfl) (by kernel_rfl) (fun _ _ _ h=>h) (Or.inr ⟨rfl,rfl⟩) (by assumption) ?_;simp only[yU];refine wpAnyH_take (i:=17) (v:=undef) (gA rfl) (by kernel_rfl) (by kernel_rfl) (by kernel_rfl) (fun _ _ _ h=>h) (Or.inr ⟨rfl,rfl⟩) (by assumption) ?_;simp only[yU];refine yT [18,19] ?_;iterate 2 (refine yS ?_;simp only[yU])
  refine yD ?_;go_wp2_with fail;go_ret;exact⟨rfl,ab.trans (hb.mono ab.size)⟩
 ·obtain⟨s,hs⟩:=yE (ZSa (QZ x.cats) I q);rw[←hs]at HM HR
  obtain rfl:r=s:=by rw[HR.out];rfl
  clear hs;go_upto_region 1 with(fail);refine yZ (S:=(fun w'=>(yI w' g 0 x.legs∧yI w' g 1 x.souls∧yJ w' g 2 A n cap∧yJ w' g 3 (some ⟨b,F,none⟩) m Y)∧(w'.cell? ⟨b,F+k*4,none⟩=some (Zf nm)∧yI w' b (F+k*4+1) (I:Int)∧yI w' b (F+k*4+2) aa∧w'.cell? ⟨b,F+k*4+3,none⟩=some (.bool lv))∧(yI w' h 0 id∧yI w' h 1 V∧yI w' h 2 aq∧yI w' h 3 U∧w'.cell? ⟨h,4,none⟩=some (.bool lev)∧yI w' h 5 O∧yI w' h 6 (q:Int)∧yI w' h 7 Q∧yI w' h 8 upto∧yI w' h 9 ar∧w'.cell? ⟨h,10,none⟩=some v))) (ac _ hb) fun af=>?_;refine yT [0,1,2,3,4,5] ?_;iterate 6 (refine yS ?_;simp only[yU])
  refine yR 6 fun K hK=>?_;go_simp
  (go_at_call 146;refine yM (HF _) fun w2 Z=>?_;replace hb:=hb.trans (Z.mono hb.size);clear Z;have al:=yh (HM w2 ((HC.bel ab).bel hb)))
  go_wp2_with fail;refine hK.out _ _ (ac _ hb) fun af=>?_;clear hK K
  try simp only[yU]
  refine yT [7,8,9,10,11,12,13,14,15,16] ?_;iterate 10 (refine yS ?_;simp only[yU])
  refine yR 17 fun K hK=>?_;go_simp
  (go_at_call 209;refine yM al fun w3 Z=>?_;replace hb:=hb.trans (Z.mono hb.size);clear Z)
  go_wp2_with fail;refine hK.out _ _ (ac _ hb) fun af=>?_;clear hK K
  try simp only[yU]
  refine yT [18,19] ?_;iterate 2 (refine yS ?_;simp only[yU])
  refine yD ?_;go_wp2_with fail;go_ret;exact⟨rfl,ab.trans (hb.mono ab.size)⟩
theorem VCa {m:Nat}(h:m≤9223372036854775807):IntKind.i64.wrap ((m:Int)-1)=(m:Int)-1:=by rw[IntKind.wrap_i64];omega
theorem Vab (x:Shp)(A:Option Addr)(n cap:Nat)(B:Option Addr)(m Y:Nat)(b:Bkg)(v:Value)(w:World)(Z:Sl Ut 4 w All B m Y x.cabs) :
  Calls prog 186 #[.agg #[.int .i64 x.legs,.int .i64 x.souls,.slice A n cap,.slice B m Y],.agg (Qk b v)] w fun e w'=>e=.returned (.int .i64 (YY x b))∧yw w w':=by
 obtain⟨id,O,Q,J,lev,D,E,I,upto,U,V⟩:=b;obtain⟨r,hr⟩:=yE (YY x ⟨id,O,Q,J,lev,D,E,I,upto,U,V⟩);rw[←hr];obtain⟨q1,aa⟩:=yE (Qc D 0 ((m:Int)-1));have X:=yh (show r=if q1=false then 3 else if E≠0 then 1 else if YH (QXa x D) ⟨id,O,Q,J,lev,D,E,I,upto,U,V⟩=false then 4 else 0 by rw[hr,aa,←Z.len];rfl);have al:=VCa Z.bd;have ab:=fun W=>Z5 D 0 ((m:Int)-1) W;rw[←aa]at ab;have HB:=yh Z;have HQ:=yh aa;clear aa;clear hr Z;go_enter func186,ntmps186;go_upto_region 0 with(fail);go_cut [2,3,4] (fun p p2 _ wx=>∃g h,yp p g∧yp p2 h∧Blk wx g #[.int .i64 x.legs,.int .i64 x.souls,.slice A n cap,.slice B m Y] 25∧Blk wx h (Qk ⟨id,O,Q,J,lev,D,E,I,upto,U,V⟩ v) 63∧yw w wx)
 case first=>as_aux_lemma=>
  go_wp2_with fail;go_meet;exact⟨_,_,rfl,rfl,QE _ _ _,QF _ _ _,Zo _ _ _⟩
 obtain⟨g,h,rfl,rfl,hG,hH,F⟩:=hcut;have g3:yJ wc g 3 B m Y:=hG.cell rfl;have k0:yI wc h 0 id:=hH.cell rfl;have k1:yI wc h 1 O:=hH.cell rfl;have k2:yI wc h 2 Q:=hH.cell rfl;have k3:yI wc h 3 J:=hH.cell rfl;have k4:wc.cell? ⟨h,4,none⟩=some (.bool lev):=hH.cell rfl;have k5:yI wc h 5 D:=hH.cell rfl;have k6:yI wc h 6 E:=hH.cell rfl;have k7:yI wc h 7 I:=hH.cell rfl;have k8:yI wc h 8 upto:=hH.cell rfl;have k9:yI wc h 9 U:=hH.cell rfl;have am:wc.cell? ⟨h,10,none⟩=some (v):=hH.cell rfl;cases q1
 ·obtain rfl:r=3:=by rw[X.out,M3 rfl]
  go_wp2_with fail;refine(ab _).mono ?_;rintro e w9 ⟨rfl,rfl⟩;go_wp2_with fail;go_ret;exact⟨rfl,F⟩
 have ah:=Ql.1 HQ.symm;obtain⟨k,rfl⟩:∃k:Nat,D=k:=⟨D.toNat,by omega⟩
 have hk:k<m:=by omega
 by_cases hcat:E=0
 ·subst hcat;obtain⟨b,an,nm,ct,ac,lv,hB,hx,e0,e1,e2,e3⟩:=(HB.bel F).cab hk;subst hB;have hf:QXa x k=⟨nm,ct,ac,lv⟩:=hx;have HF:=yh (fun W=>Xda ⟨nm,ct,ac,lv⟩ ⟨id,O,Q,J,lev,k,0,I,upto,U,V⟩ v W);obtain⟨f,ad⟩:=yE (YH ⟨nm,ct,ac,lv⟩ ⟨id,O,Q,J,lev,k,0,I,upto,U,V⟩);have ae:=yh (show r=if f=false then 4 else 0 by rw[X.out,M2 (by simp),M2 (by simp),hf,ad]);rw[←ad]at HF;clear X hx hf ad HQ ah;have aj:(0:Int)≤(k:Int):=Int.natCast_nonneg _
  have ak:(k:Int)<(m:Int):=by omega
  go_wp2_with fail;refine(ab _).mono ?_;rintro e w9 ⟨rfl,rfl⟩;go_wp2_with fail;go_upto_region 5 with(fail);go_cut [18] (fun t wx=>t=.bool (!f)∧yw wc wx)
  case first=>as_aux_lemma=>
   go_region_with (go_at_call 232;refine yM (HF _) fun wn ag=>?_)
   all_goals
    go_wp2_with fail;go_meet;exact⟨rfl,(J4 _ _).drew.trans ag⟩
  obtain⟨rfl,af⟩:=hcut;cases f
  ·obtain rfl:r=4:=ae.out;go_wp2_with fail;go_ret;exact⟨rfl,F.trans (af.mono F.size)⟩
  ·obtain rfl:r=0:=ae.out;go_wp2_with fail;go_ret;exact⟨rfl,F.trans (af.mono F.size)⟩
 ·obtain rfl:r=1:=by rw[X.out,M2 (by simp),M3 hcat]
  have ai:(E !=0)=true:=by simpa using hcat
  clear hcat;go_wp2_with fail;refine yN (ab _) ?_;go_wp2_with fail;go_ret;exact⟨rfl,F⟩
theorem Y5a (x:Shp)(A:Option Addr)(n cap:Nat)(B:Option Addr)(m X:Nat)(b:Bkg)(v:Value)(w:World)(hc:Sl UX 2 w All A n cap x.cats)(hb:Sl Ut 4 w All B m X x.cabs)(ho:OkShp x) :
  Calls prog 187 #[.agg #[.int .i64 x.legs,.int .i64 x.souls,.slice A n cap,.slice B m X],.agg (Qk b v)] w fun e w'=>e=.returned (.int .i64 (Zga x b))∧yw w w':=by
 obtain⟨id,U,V,O,lev,au,I,E,upto,av,Y⟩:=b;obtain⟨r,hr⟩:=yE (Zga x ⟨id,U,V,O,lev,au,I,E,upto,av,Y⟩);rw[←hr];obtain⟨q1,aa⟩:=yE (Qc I 0 ((n:Int)-1));obtain⟨q2,ac⟩:=yE (decide ((⟨E,upto⟩:Span)≠⟨0,x.legs⟩));obtain⟨q3,ab⟩:=yE (Qc au (-1) ((m:Int)-1))
 have J:=yh (show r=if q1=false then 3 else if q2=true then 4 else if q3=false then 3 else if 0≤au∧Zi x ⟨id,U,V,O,lev,au,I,E,upto,av,Y⟩ au=false then 4 else 0 by
  rw[hr,aa,ac,ab,←hb.len,←hc.len];unfold Zga
  congr 1
  have an:(E≠0∨upto≠x.legs)↔decide ((⟨E,upto⟩:Span)≠⟨0,x.legs⟩)=true:=by rw[decide_eq_true_iff];simp only[ne_eq,Span.mk.injEq];omega
  simp only[an])
 have ao:=VCa hb.bd;have ap:=VCa hc.bd;have ak:=fun W=>Z5 I 0 ((n:Int)-1) W;have al:=fun W=>Z5 au (-1) ((m:Int)-1) W;have aj:=fun W=>QIc ⟨E,upto⟩ ⟨0,x.legs⟩ W;simp only at aj;rw[←aa]at ak;rw[←ac]at aj;rw[←ab]at al;have am:=yh (fun(k:Nat) W h1 h2 h3 h4 h5=>QRa x A n cap B m X ⟨id,U,V,O,lev,au,I,E,upto,av,Y⟩ v k W h1 h2 ho h3 h4 h5);have HB:=yh hb;have HC:=yh hc;have ae:=yh aa;clear aa;have af:=yh ab;clear ab;clear hr hb hc ac;go_enter func187,ntmps187;go_upto_region 0 with(fail);go_cut [2,3,4] (fun p p2 _ wx=>∃g h,yp p g∧yp p2 h∧Blk wx g #[.int .i64 x.legs,.int .i64 x.souls,.slice A n cap,.slice B m X] 25∧Blk wx h (Qk ⟨id,U,V,O,lev,au,I,E,upto,av,Y⟩ v) 63∧yw w wx)
 case first=>as_aux_lemma=>
  go_wp2_with fail;go_meet;exact⟨_,_,rfl,rfl,QE _ _ _,QF _ _ _,Zo _ _ _⟩
 obtain⟨g,h,rfl,rfl,Z,D,F⟩:=hcut;have g0:yI wc g 0 x.legs:=Z.cell rfl;have g1:yI wc g 1 x.souls:=Z.cell rfl;have g2:yJ wc g 2 A n cap:=Z.cell rfl;have g3:yJ wc g 3 B m X:=Z.cell rfl;have k0:yI wc h 0 id:=D.cell rfl;have k1:yI wc h 1 U:=D.cell rfl;have k2:yI wc h 2 V:=D.cell rfl;have k3:yI wc h 3 O:=D.cell rfl;have k4:wc.cell? ⟨h,4,none⟩=some (.bool lev):=D.cell rfl;have k5:yI wc h 5 au:=D.cell rfl;have k6:yI wc h 6 I:=D.cell rfl;have k7:yI wc h 7 E:=D.cell rfl;have k8:yI wc h 8 upto:=D.cell rfl;have k9:yI wc h 9 av:=D.cell rfl;have aq:wc.cell? ⟨h,10,none⟩=some (v):=D.cell rfl;go_wp2_with fail;refine(ak _).mono ?_;rintro e w9 ⟨rfl,rfl⟩;cases q1
 ·obtain rfl:r=3:=by rw[J.out,M3 rfl]
  go_wp2_with fail;go_ret;exact⟨rfl,F⟩
 have Q:=Ql.1 ae.symm;cases q2;rotate_left
 ·obtain rfl:r=4:=by rw[J.out,M2 (by simp),M3 rfl]
  clear Q;go_wp2_with fail;go_ret;exact⟨rfl,F⟩
 go_wp2_with fail;refine yN (al _) ?_;cases q3
 ·obtain rfl:r=3:=by rw[J.out,M2 (by simp),M2 (by simp),M3 rfl]
  clear Q;go_wp2_with fail;go_ret;exact⟨rfl,F⟩
 have ai:=Ql.1 af.symm;by_cases h0:0≤au
 ·obtain⟨k,rfl⟩:∃k:Nat,au=k:=⟨au.toNat,by omega⟩;have ad:=yh (am k wc (HC.bel F) (HB.bel F) (by omega) Q.1 (by have:=Q.2;omega));obtain⟨f,hf⟩:=yE (Zi x ⟨id,U,V,O,lev,k,I,E,upto,av,Y⟩ k)
  have ag:=yh (show r=if f=false then 4 else 0 by
   rw[J.out,M2 (by simp),M2 (by simp),M2 (by simp),←hf]
   cases f<;>simp<;>omega)
  rw[←hf]at ad;clear J hf Q ai ae af;go_wp2_with fail;refine yM ad fun wn ah=>?_;cases f
  ·obtain rfl:r=4:=ag.out;go_wp2_with fail;go_ret;exact⟨rfl,F.trans (ah.mono F.size)⟩
  ·obtain rfl:r=0:=ag.out;go_wp2_with fail;go_ret;exact⟨rfl,F.trans (ah.mono F.size)⟩
 ·obtain rfl:r=0:=by rw[J.out,M2 (by simp),M2 (by simp),M2 (by simp),M2 (fun h=>h0 h.1)]
  have h1:au<0:=by omega
  clear Q ai;go_wp2_with fail;go_ret;exact⟨rfl,F⟩
theorem Ubb (x:Shp)(id J D I:Int)(lev:Bool)(O Q A upto E:Int)(F:List Entry):ofE x ⟨id,J,D,I,lev,O,Q,A,upto,E,F⟩=if (Qc J 1 2 && Qc D 1 3)=false then 7 else if (Qc id 1 999999 && Qc I 1 4)=false then 3 else if VS ⟨A,upto⟩ x.legs≠0 then VS ⟨A,upto⟩ x.legs
 else if kindE x ⟨id,J,D,I,lev,O,Q,A,upto,E,F⟩≠0 then kindE x ⟨id,J,D,I,lev,O,Q,A,upto,E,F⟩else if Qc E 0 9999=false then 3 else if E≠0∧D≠1 then 1 else Qe F:=rfl
theorem QBa (x:Shp)(A:Option Addr)(n cap:Nat)(B:Option Addr)(m ad:Nat)(b:Bkg)(A3:Option Addr)(n3 X:Nat)(w:World)(hc:Sl UX 2 w All A n cap x.cats)(hb:Sl Ut 4 w All B m ad x.cabs)(ho:OkShp x)(hf:Sl Qm 3 w All A3 n3 X b.fol) :
  Calls prog 104 #[.agg #[.int .i64 x.legs,.int .i64 x.souls,.slice A n cap,.slice B m ad],.agg (Qk b (.slice A3 n3 X))] w fun e w'=>e=.returned (.int .i64 (ofE x b))∧yw w w':=by
 obtain⟨id,Q,J,V,lev,Y,Z,U,upto,O,aa⟩:=b;simp only at hf;obtain⟨r,hr⟩:=yE (ofE x ⟨id,Q,J,V,lev,Y,Z,U,upto,O,aa⟩);rw[←hr];rw[Ubb]at hr;have az:=fun W=>Z5 Q 1 2 W;have aA:=fun W=>Z5 J 1 3 W;have ax:=fun W=>Z5 id 1 999999 W;have ay:=fun W=>Z5 V 1 4 W;have aC:=fun W=>Z5 O 0 9999 W;have aB:=fun W=>VYa U upto x.legs W;have ar:=yh (fun W h=>Vab x A n cap B m ad ⟨id,Q,J,V,lev,Y,Z,U,upto,O,aa⟩ (.slice A3 n3 X) W h);have au:=yh (fun W h1 h2=>Y5a x A n cap B m ad ⟨id,Q,J,V,lev,Y,Z,U,upto,O,aa⟩ (.slice A3 n3 X) W h1 h2 ho);have ap:=yh (fun W h=>Y5 A3 n3 X aa W h);obtain⟨k1,e1⟩:=yE (Qc Q 1 2);obtain⟨k2,e2⟩:=yE (Qc J 1 3);obtain⟨i1,e3⟩:=yE (Qc id 1 999999);obtain⟨i2,e4⟩:=yE (Qc V 1 4);obtain⟨t1,e5⟩:=yE (Qc O 0 9999);obtain⟨se,e6⟩:=yE (VS ⟨U,upto⟩ x.legs);obtain⟨fe,e7⟩:=yE (Qe aa);rw[←e1]at az;rw[←e2]at aA;rw[←e3]at ax;rw[←e4]at ay;rw[←e5]at aC;rw[←e6]at aB;rw[←e7]at ap;rw[←e1,←e2,←e3,←e4,←e5,←e6,←e7]at hr;have HR:=yh hr;clear hr;have aE:=yh e2;clear e2;have HB:=yh hb;have HC:=yh hc;have HF:=yh hf;clear hb hc hf e1 e3 e4 e5 e6 e7;go_enter func104,ntmps104;go_upto_region 0 with(fail);go_cut [2,3,4] (fun p p2 _ wx=>∃g h,yp p g∧yp p2 h∧Blk wx g #[.int .i64 x.legs,.int .i64 x.souls,.slice A n cap,.slice B m ad] 25∧Blk wx h (Qk ⟨id,Q,J,V,lev,Y,Z,U,upto,O,aa⟩ (.slice A3 n3 X)) 63∧yw w wx)
 case first=>as_aux_lemma=>
  go_wp2_with fail;go_meet;exact⟨_,_,rfl,rfl,QE _ _ _,QF _ _ _,Zo _ _ _⟩
 obtain⟨g,h,rfl,rfl,E,hH,D⟩:=hcut;have g0:yI wc g 0 x.legs:=E.cell rfl;have g1:yI wc g 1 x.souls:=E.cell rfl;have g2:yJ wc g 2 A n cap:=E.cell rfl;have g3:yJ wc g 3 B m ad:=E.cell rfl;have z0:yI wc h 0 id:=hH.cell rfl;have z1:yI wc h 1 Q:=hH.cell rfl;have z2:yI wc h 2 J:=hH.cell rfl;have z3:yI wc h 3 V:=hH.cell rfl;have z4:wc.cell? ⟨h,4,none⟩=some (.bool lev):=hH.cell rfl;have z5:yI wc h 5 Y:=hH.cell rfl;have z6:yI wc h 6 Z:=hH.cell rfl;have z7:yI wc h 7 U:=hH.cell rfl;have z8:yI wc h 8 upto:=hH.cell rfl;have z9:yI wc h 9 O:=hH.cell rfl;have ag:wc.cell? ⟨h,10,none⟩=some ((.slice A3 n3 X)):=hH.cell rfl;go_wp2_with fail;refine(az _).mono ?_;rintro e w9 ⟨rfl,rfl⟩;cases k1
 ·obtain rfl:r=7:=HR.trans (M3 (by simp));go_wp2_with fail;go_ret;exact⟨rfl,D⟩
 go_wp2_with fail;refine(aA _).mono ?_;rintro e w9 ⟨rfl,rfl⟩;cases k2
 ·obtain rfl:r=7:=HR.trans (M3 (by simp));go_wp2_with fail;go_ret;exact⟨rfl,D⟩
 have ah:=yh (HR.trans (M2 (by simp)));clear HR;go_wp2_with fail;refine(ax _).mono ?_;rintro e w9 ⟨rfl,rfl⟩;cases i1
 ·obtain rfl:r=3:=ah.trans (M3 (by simp));go_wp2_with fail;go_ret;exact⟨rfl,D⟩
 go_wp2_with fail;refine(ay _).mono ?_;rintro e w9 ⟨rfl,rfl⟩;cases i2
 ·obtain rfl:r=3:=ah.trans (M3 (by simp));go_wp2_with fail;go_ret;exact⟨rfl,D⟩
 have ak:=yh (ah.trans (M2 (by simp)));clear ah;go_wp2_with fail;refine yM (aB _) fun F ab=>?_;replace E:=E.bel ab;replace hH:=hH.bel ab;replace D:=D.trans (ab.mono D.size);clear ab g0 g1 g2 g3 z0 z1 z2 z3 z4 z5 z6 z7 z8 z9 ag;by_cases hse:se=0;rotate_left
 ·obtain rfl:r=se:=by rw[ak.out,M3 hse]
  have aw:(r !=0)=true:=by simpa using hse
  clear hse;go_wp2_with fail;go_ret;exact⟨rfl,D⟩
 subst hse;have av:=yh (ak.trans (M2 (by simp)));clear ak;have g0:yI F g 0 x.legs:=E.cell rfl;have g1:yI F g 1 x.souls:=E.cell rfl;have g2:yJ F g 2 A n cap:=E.cell rfl;have g3:yJ F g 3 B m ad:=E.cell rfl;have z0:yI F h 0 id:=hH.cell rfl;have z1:yI F h 1 Q:=hH.cell rfl;have z2:yI F h 2 J:=hH.cell rfl;have z3:yI F h 3 V:=hH.cell rfl;have z4:F.cell? ⟨h,4,none⟩=some (.bool lev):=hH.cell rfl;have z5:yI F h 5 Y:=hH.cell rfl;have z6:yI F h 6 Z:=hH.cell rfl;have z7:yI F h 7 U:=hH.cell rfl;have z8:yI F h 8 upto:=hH.cell rfl;have z9:yI F h 9 O:=hH.cell rfl;have ag:F.cell? ⟨h,10,none⟩=some ((.slice A3 n3 X)):=hH.cell rfl;have ac:=yh (ar F (HB.bel D));go_wp2_with fail;refine yM ac fun I ab=>?_;replace E:=E.bel ab;replace hH:=hH.bel ab;replace D:=D.trans (ab.mono D.size);clear ab g0 g1 g2 g3 z0 z1 z2 z3 z4 z5 z6 z7 z8 z9 ag ac ar;have g0:yI I g 0 x.legs:=E.cell rfl;have g1:yI I g 1 x.souls:=E.cell rfl;have g2:yJ I g 2 A n cap:=E.cell rfl;have g3:yJ I g 3 B m ad:=E.cell rfl;have z0:yI I h 0 id:=hH.cell rfl;have z1:yI I h 1 Q:=hH.cell rfl;have z2:yI I h 2 J:=hH.cell rfl;have z3:yI I h 3 V:=hH.cell rfl;have z4:I.cell? ⟨h,4,none⟩=some (.bool lev):=hH.cell rfl;have z5:yI I h 5 Y:=hH.cell rfl;have z6:yI I h 6 Z:=hH.cell rfl;have z7:yI I h 7 U:=hH.cell rfl;have z8:yI I h 8 upto:=hH.cell rfl;have z9:yI I h 9 O:=hH.cell rfl;have ag:I.cell? ⟨h,10,none⟩=some ((.slice A3 n3 X)):=hH.cell rfl;obtain⟨ke,af⟩:=yE (kindE x ⟨id,Q,J,V,lev,Y,Z,U,upto,O,aa⟩);have ai:=yh (av.out);rw[←af]at ai;obtain⟨kn,ao⟩:=yE (YY x ⟨id,Q,J,V,lev,Y,Z,U,upto,O,aa⟩);rw[←ao];have aj:=yh af;clear af;have aq:=yh ao;clear ao;clear av;go_upto_if 42 with(fail);obtain⟨w4,aD⟩:=yE I;subst aD;go_cut [6] (fun p wx=>p=.int .i64 ke∧yw w4 wx)
 case first=>as_aux_lemma=>
  by_cases hkd:Q=2
  ·subst hkd;have af:ke=Zga x ⟨id,2,J,V,lev,Y,Z,U,upto,O,aa⟩:=aj.out;have ac:=yh (au _ (HC.bel D) (HB.bel D));rw[←af]at ac;clear af;go_wp2_with fail;refine yM ac fun w5 ae=>?_;go_wp2_with fail;go_meet;exact⟨rfl,ae⟩
  ·obtain rfl:ke=kn:=by rw[aj.out,aq.out];unfold kindE;rw[M2 hkd]
   have aw:(Q==2)=false:=by simpa using hkd
   clear hkd;go_wp2_with fail;go_meet;exact⟨rfl,J4 _ _⟩
 obtain⟨rfl,ae⟩:=hcut;replace E:=E.bel ae;replace hH:=hH.bel ae;replace D:=D.trans (ae.mono D.size);clear ae g0 g1 g2 g3 z0 z1 z2 z3 z4 z5 z6 z7 z8 z9 ag aj aq au;by_cases hk0:ke=0;rotate_left
 ·obtain rfl:r=ke:=by rw[ai.out,M3 hk0]
  have aw:(r !=0)=true:=by simpa using hk0
  clear hk0;go_wp2_with fail;go_ret;exact⟨rfl,D⟩
 subst hk0;have al:=yh (ai.trans (M2 (by simp)));clear ai;have z2:yI wc h 2 J:=hH.cell rfl;have z9:yI wc h 9 O:=hH.cell rfl;have ag:yJ wc h 10 A3 n3 X:=hH.cell rfl;go_wp2_with fail;refine yN (aC _) ?_;cases t1
 ·obtain rfl:r=3:=al.trans (M3 (by simp));go_wp2_with fail;go_ret;exact⟨rfl,D⟩
 have am:=yh (al.trans (M2 (by simp)));clear al;have ac:=yh (ap _ (HF.bel D));by_cases h1:O=0
 ·obtain rfl:r=fe:=by rw[am.out,M2 (fun h=>h.1 h1)]
  subst h1;go_wp2_with fail;refine yM ac fun w6 an=>?_;go_wp2_with fail;go_ret;exact⟨rfl,D.trans (an.mono D.size)⟩
 have aF:(O !=0)=true:=by simpa using h1
 by_cases h2:J=1
 ·obtain rfl:r=fe:=by rw[am.out,M2 (fun h=>h.2 h2)]
  subst h2;clear h1;go_wp2_with fail;refine yM ac fun w6 an=>?_;go_wp2_with fail;go_ret;exact⟨rfl,D.trans (an.mono D.size)⟩
 ·obtain rfl:r=1:=by rw[am.out,M3 ⟨h1,h2⟩]
  have aG:(J !=1)=true:=by simpa using h2
  clear h1 h2;go_wp2_with fail;go_ret;exact⟨rfl,D⟩
theorem Vm (x:Shp)(A:Option Addr)(n cap:Nat)(B:Option Addr)(m ab:Nat)(b:Bkg)(A3:Option Addr)(n3 c3:Nat)(w:World)(hc:Sl UX 2 w All A n cap x.cats)(hb:Sl Ut 4 w All B m ab x.cabs)(ho:OkShp x)(hf:Sl Qm 3 w All A3 n3 c3 b.fol) :
  Calls prog 71 #[.agg #[.int .i64 x.legs,.int .i64 x.souls,.slice A n cap,.slice B m ab],.agg (Qk b (.slice A3 n3 c3))] w fun e w'=>e=.returned (.int .i64 (ofE x b))∧yw w w':=by
 obtain⟨id,aa,F,U,lev,E,O,Q,upto,I,X⟩:=b;simp only at hf;obtain⟨r,hr⟩:=yE (ofE x ⟨id,aa,F,U,lev,E,O,Q,upto,I,X⟩);rw[←hr];rw[Ubb]at hr;have aB:=fun W=>Qj aa 1 2 W;have aC:=fun W=>Qj F 1 3 W;have az:=fun W=>Qj id 1 999999 W;have aA:=fun W=>Qj U 1 4 W;have aF:=fun W=>Qj I 0 9999 W;have aE:=fun W=>VEa Q upto x.legs W;have ax:=yh (fun(k:Nat) W Y h2 h3 h4 h5=>Xi x A n cap B m ab ⟨id,aa,F,U,lev,E,O,Q,upto,I,X⟩ (.slice A3 n3 c3) k W Y h2 ho h3 h4 h5);have ay:=yh (fun W h=>Xg A3 n3 c3 X W h);obtain⟨k1,e1⟩:=yE (Qc aa 1 2);obtain⟨k2,e2⟩:=yE (Qc F 1 3);obtain⟨i1,e3⟩:=yE (Qc id 1 999999);obtain⟨i2,e4⟩:=yE (Qc U 1 4);obtain⟨t1,e5⟩:=yE (Qc I 0 9999);obtain⟨se,e6⟩:=yE (VS ⟨Q,upto⟩ x.legs);obtain⟨fe,e7⟩:=yE (Qe X);obtain⟨ke,e8⟩:=yE (kindE x ⟨id,aa,F,U,lev,E,O,Q,upto,I,X⟩);rw[←e1]at aB;rw[←e2]at aC;rw[←e3]at az;rw[←e4]at aA;rw[←e5]at aF;rw[←e6]at aE;rw[←e7]at ay;rw[←e1,←e2,←e3,←e4,←e5,←e6,←e7,←e8]at hr;have HR:=yh hr;clear hr;have aG:=yh e1;have ad:=yh e8;clear e8;have HB:=yh hb;have HC:=yh hc;have HF:=yh hf;have aO:=hb.bd;have aP:=hc.bd;clear hb hc hf e1 e2 e3 e4 e5 e6 e7;go_enter func71,ntmps71;go_upto_region 0 with(fail);go_cut [2,3,4] (fun p p2 _ wx=>∃g h,yp p g∧yp p2 h∧Blk wx g #[.int .i64 x.legs,.int .i64 x.souls,.slice A n cap,.slice B m ab] 25∧Blk wx h (Qk ⟨id,aa,F,U,lev,E,O,Q,upto,I,X⟩ (.slice A3 n3 c3)) 63∧yw w wx)
 case first=>as_aux_lemma=>
  go_wp2_with fail;go_meet;exact⟨_,_,rfl,rfl,QE _ _ _,QF _ _ _,Zo _ _ _⟩
 obtain⟨g,h,rfl,rfl,V,D,aS⟩:=hcut;have g0:yI wc g 0 x.legs:=V.cell rfl;have g1:yI wc g 1 x.souls:=V.cell rfl;have g2:yJ wc g 2 A n cap:=V.cell rfl;have g3:yJ wc g 3 B m ab:=V.cell rfl;have z0:yI wc h 0 id:=D.cell rfl;have z1:yI wc h 1 aa:=D.cell rfl;have z2:yI wc h 2 F:=D.cell rfl;have z3:yI wc h 3 U:=D.cell rfl;have z4:wc.cell? ⟨h,4,none⟩=some (.bool lev):=D.cell rfl;have z5:yI wc h 5 E:=D.cell rfl;have z6:yI wc h 6 O:=D.cell rfl;have z7:yI wc h 7 Q:=D.cell rfl;have z8:yI wc h 8 upto:=D.cell rfl;have z9:yI wc h 9 I:=D.cell rfl;have al:wc.cell? ⟨h,10,none⟩=some ((.slice A3 n3 c3)):=D.cell rfl;go_wp2_with fail;refine(aB _).mono ?_;rintro e w9 ⟨rfl,rfl⟩;cases k1
 ·obtain rfl:r=7:=HR.trans (M3 (by simp));go_wp2_with fail;go_ret;exact⟨rfl,aS⟩
 go_wp2_with fail;refine(aC _).mono ?_;rintro e w9 ⟨rfl,rfl⟩;cases k2
 ·obtain rfl:r=7:=HR.trans (M3 (by simp));go_wp2_with fail;go_ret;exact⟨rfl,aS⟩
 have ai:=yh (HR.trans (M2 (by simp)));clear HR;go_wp2_with fail;refine(az _).mono ?_;rintro e w9 ⟨rfl,rfl⟩;cases i1
 ·obtain rfl:r=3:=ai.trans (M3 (by simp));go_wp2_with fail;go_ret;exact⟨rfl,aS⟩
 go_wp2_with fail;refine(aA _).mono ?_;rintro e w9 ⟨rfl,rfl⟩;cases i2
 ·obtain rfl:r=3:=ai.trans (M3 (by simp));go_wp2_with fail;go_ret;exact⟨rfl,aS⟩
 have an:=yh (ai.trans (M2 (by simp)));clear ai;go_wp2_with fail;refine yM (aE _) fun J aj=>?_;replace V:=V.bel aj;replace D:=D.bel aj;replace aS:=aS.trans (aj.mono aS.size);clear aj g0 g1 g2 g3 z0 z1 z2 z3 z4 z5 z6 z7 z8 z9 al;by_cases hse:se=0;rotate_left
 ·obtain rfl:r=se:=by rw[an.out,M3 hse]
  have au:(r !=0)=true:=by simpa using hse
  clear hse;go_wp2_with fail;go_ret;exact⟨rfl,aS⟩
 subst hse;have ao:=yh (an.trans (M2 (by simp)));clear an;have g0:yI J g 0 x.legs:=V.cell rfl;have g1:yI J g 1 x.souls:=V.cell rfl;have g2:yJ J g 2 A n cap:=V.cell rfl;have g3:yJ J g 3 B m ab:=V.cell rfl;have z0:yI J h 0 id:=D.cell rfl;have z1:yI J h 1 aa:=D.cell rfl;have z2:yI J h 2 F:=D.cell rfl;have z3:yI J h 3 U:=D.cell rfl;have z4:J.cell? ⟨h,4,none⟩=some (.bool lev):=D.cell rfl;have z5:yI J h 5 E:=D.cell rfl;have z6:yI J h 6 O:=D.cell rfl;have z7:yI J h 7 Q:=D.cell rfl;have z8:yI J h 8 upto:=D.cell rfl;have z9:yI J h 9 I:=D.cell rfl;have al:J.cell? ⟨h,10,none⟩=some ((.slice A3 n3 c3)):=D.cell rfl;go_upto_if 40 with(fail);obtain⟨w4,aJ⟩:=yE J;subst aJ;go_cut [] (fun wx=>ke=0∧yw w4 wx)
 case first=>as_aux_lemma=>
  have fin:∀q,ke=q→q≠0→r=q:=fun q Y h2=>by rw[ao.out,Y,M3 h2]
  have aT:=yh fin;clear fin;have aD:=Ql.1 aG.symm;by_cases hkd:aa=1
  ·subst hkd;have Z:=yh (show ke=if Qc E 0 ((m:Int)-1)=false then 3 else if O≠0 then 1 else if YH (QXa x E) ⟨id,1,F,U,lev,E,O,Q,upto,I,X⟩=false then 4 else 0 by rw[ad.out,←HB.out.len];rfl);clear ad aD;by_cases hc0:E<0
   ·obtain rfl:r=3:=aT.out 3 (by rw[Z.out,M3 (QM (.inl hc0))]) (by decide);go_wp2_with fail;go_ret;exact⟨rfl,aS⟩
   by_cases hc1:(m:Int)≤E
   ·obtain rfl:r=3:=aT.out 3 (by rw[Z.out,M3 (QM (.inr (by omega)))]) (by decide);go_wp2_with fail;go_ret;exact⟨rfl,aS⟩
   obtain⟨k,rfl⟩:∃k:Nat,E=k:=⟨E.toNat,by omega⟩
   have hk:k<m:=by omega
   by_cases hcat:O=0
   ·subst hcat;obtain⟨b,aQ,nm,ct,ar,lv,hB,hx,e0,e1,e2,e3⟩:=(HB.bel aS).cab hk;subst hB;have hf:QXa x k=⟨nm,ct,ar,lv⟩:=hx;have HD:=yh (fun W=>ZWa ⟨nm,ct,ar,lv⟩ ⟨id,1,F,U,lev,k,0,Q,upto,I,X⟩ (.slice A3 n3 c3) W);obtain⟨f,aw⟩:=yE (YH ⟨nm,ct,ar,lv⟩ ⟨id,1,F,U,lev,k,0,Q,upto,I,X⟩);have ae:=yh (show ke=if f=false then 4 else 0 by rw[Z.out,M2 (by rw[Zg (by omega) (by omega)];simp),M2 (by simp),hf,aw]);rw[←aw]at HD;have aM:(0:Int)≤(k:Int):=Int.natCast_nonneg _
    have aN:(k:Int)<(m:Int):=by omega
    clear hx hf aw hc0 hc1 Z;go_upto_region 14 with(fail);go_cut [61] (fun t wx=>t=.bool (!f)∧yw w4 wx)
    case first=>as_aux_lemma=>
     go_region_with (go_at_call 146;refine yM (HD _) fun wn aH=>?_)
     all_goals
      go_wp2_with fail;go_meet;exact⟨rfl,(J4 _ _).drew.trans aH⟩
    obtain⟨rfl,af⟩:=hcut;cases f
    ·obtain rfl:r=4:=aT.out 4 ae (by decide);go_wp2_with fail;go_ret;exact⟨rfl,aS.trans (af.mono aS.size)⟩
    ·skip;go_wp2_with fail;go_meet;exact⟨ae,af⟩
   ·obtain rfl:r=1:=aT.out 1 (by rw[Z.out,M2 (by rw[Zg (by omega) (by omega)];simp),M3 hcat]) (by decide)
    have au:(O !=0)=true:=by simpa using hcat
    clear hcat hc0 hc1;go_wp2_with fail;go_ret;exact⟨rfl,aS⟩
  ·have aI:aa=2:=by omega
   subst aI
   have Z:=yh (show ke=if Qc O 0 ((n:Int)-1)=false then 3 else if Q≠0∨upto≠x.legs then 4 else if Qc E (-1) ((m:Int)-1)=false then 3 else if 0≤E∧Zi x ⟨id,2,F,U,lev,E,O,Q,upto,I,X⟩ E=false then 4 else 0 by
    rw[ad.out,←HB.out.len,←HC.out.len];rfl)
   clear ad aD hkd;by_cases hc0:O<0
   ·obtain rfl:r=3:=aT.out 3 (by rw[Z.out,M3 (QM (.inl hc0))]) (by decide);go_wp2_with fail;go_ret;exact⟨rfl,aS⟩
   by_cases hc1:(n:Int)≤O
   ·obtain rfl:r=3:=aT.out 3 (by rw[Z.out,M3 (QM (.inr (by omega)))]) (by decide);go_wp2_with fail;go_ret;exact⟨rfl,aS⟩
   have ag:=yh (Z.trans (M2 (by rw[Zg (by omega) (by omega)];simp)));clear Z;by_cases hfr:Q=0;rotate_left
   ·obtain rfl:r=4:=aT.out 4 (by rw[ag.out,M3 (.inl hfr)]) (by decide)
    have au:(Q !=0)=true:=by simpa using hfr
    clear hfr;go_wp2_with fail;go_ret;exact⟨rfl,aS⟩
   subst hfr;by_cases hup:upto=x.legs;rotate_left
   ·obtain rfl:r=4:=aT.out 4 (by rw[ag.out,M3 (.inr hup)]) (by decide)
    have au:(upto !=x.legs)=true:=by simpa using hup
    clear hup;go_wp2_with fail;go_ret;exact⟨rfl,aS⟩
   subst hup;have ah:=yh (ag.trans (M2 (by simp)));clear ag;by_cases hm0:E < -1
   ·obtain rfl:r=3:=aT.out 3 (by rw[ah.out,M3 (QM (.inl hm0))]) (by decide);go_wp2_with fail;go_ret;exact⟨rfl,aS⟩
   by_cases hm1:(m:Int)≤E
   ·obtain rfl:r=3:=aT.out 3 (by rw[ah.out,M3 (QM (.inr (by omega)))]) (by decide);go_wp2_with fail;go_ret;exact⟨rfl,aS⟩
   have am:=yh (ah.trans (M2 (by rw[Zg (by omega) (by omega)];simp)));clear ah;by_cases h0:0≤E
   ·obtain⟨k,rfl⟩:∃k:Nat,E=k:=⟨E.toNat,by omega⟩;have ac:=yh (ax k w4 (HC.bel aS) (HB.bel aS) (by omega) (by omega) (by omega));obtain⟨f,hf⟩:=yE (Zi x ⟨id,2,F,U,lev,k,O,0,x.legs,I,X⟩ k)
    have ae:=yh (show ke=if f=false then 4 else 0 by
     rw[am.out,←hf]
     cases f<;>simp<;>omega)
    rw[←hf]at ac;clear hf am;go_wp2_with fail;refine yM ac fun wn af=>?_;cases f
    ·obtain rfl:r=4:=aT.out 4 ae (by decide);go_wp2_with fail;go_ret;exact⟨rfl,aS.trans (af.mono aS.size)⟩
    ·skip;go_wp2_with fail;go_meet;exact⟨ae,af⟩
   ·have Y:E<0:=by omega
    go_wp2_with fail;go_meet;exact⟨by rw[am.out,M2 (fun h=>by have:=h.1;omega)],J4 _ _⟩
 obtain⟨rfl,ak⟩:=hcut;replace V:=V.bel ak;replace D:=D.bel ak;replace aS:=aS.trans (ak.mono aS.size);clear ak g0 g1 g2 g3 z0 z1 z2 z3 z4 z5 z6 z7 z8 z9 al ad ax;have ap:=yh (ao.trans (M2 (by simp)));clear ao;have z2:yI wc h 2 F:=D.cell rfl;have z8:yI wc h 8 upto:=D.cell rfl;have z9:yI wc h 9 I:=D.cell rfl;have al:yJ wc h 10 A3 n3 c3:=D.cell rfl;go_wp2_with fail;refine yN (aF _) ?_;cases t1
 ·obtain rfl:r=3:=ap.trans (M3 (by simp));go_wp2_with fail;go_ret;exact⟨rfl,aS⟩
 have aq:=yh (ap.trans (M2 (by simp)));clear ap;have ac:=yh (ay _ (HF.bel aS));by_cases Y:I=0
 ·obtain rfl:r=fe:=by rw[aq.out,M2 (fun h=>h.1 Y)]
  subst Y;go_wp2_with fail;refine yM ac fun w6 av=>?_;go_wp2_with fail;go_ret;exact⟨rfl,aS.trans (av.mono aS.size)⟩
 have aK:(I !=0)=true:=by simpa using Y
 by_cases h2:F=1
 ·obtain rfl:r=fe:=by rw[aq.out,M2 (fun h=>h.2 h2)]
  subst h2;clear Y;go_wp2_with fail;refine yM ac fun w6 av=>?_;go_wp2_with fail;go_ret;exact⟨rfl,aS.trans (av.mono aS.size)⟩
 ·obtain rfl:r=1:=by rw[aq.out,M3 ⟨Y,h2⟩]
  have aL:(F !=1)=true:=by simpa using h2
  clear Y h2;go_wp2_with fail;go_ret;exact⟨rfl,aS⟩
theorem Sl.bkg {w:World}{S:Nat→Prop}{A:Option Addr}{n cap:Nat}{l:List Bkg}(h:Sl ZP 11 w S A n cap l){k:Nat}(U:k<n):∃(b F:Nat) (x:Bkg) (X:Option Addr) (E D:Nat),A=some ⟨b,F,none⟩∧l[k]? = some x∧Sl Qm 3 w S X E D x.fol∧BkIn x∧
  ∀j u,(Qk x (.slice X E D)).toList[j]? = some u→w.cell? ⟨b,F+k*11+j,none⟩=some u:=by
 have V:=h.len;obtain⟨b,F,cs,I,_,O,W,Q⟩:=h.rd k (l[k]'(by omega)) (J1 (by omega));obtain⟨X,E,D,rfl,hF,J⟩:=O;exact⟨b,F,_,X,E,D,I,J1 (by omega),hF,J,Q⟩
end Go.Proofs.YtjdcokpmgionjaaGreat
namespace Go.Proofs.YtjdcokpmgionjaaGreat
open Proofs.Tryz Go.RowKit Go.Shelf Go.Lib
open Go.Sort hiding Below Holds
theorem XNa (x y:Zua)(W:World):Calls prog 195 #[.agg #[.int .i64 x.1.frm,.int .i64 x.1.upto],.agg #[.int .i64 y.1.frm,.int .i64 y.1.upto]] W fun e w'=>e=.returned (.int .i64 (YE x y))∧∃q I,w'=Go.Sort.grow (W.drewN q) I:=by
 obtain⟨⟨a,b⟩,A,D⟩:=x;obtain⟨⟨c,d⟩,E,F⟩:=y;simp only at A D E F
 have J:wrap64 (a-c)=a-c:=by unfold wrap64;omega
 go_enter func195,ntmps195;go_wp2_with fail;go_ret;exact⟨rfl,0,_,by rw[Go.Sort.alloc_eq_grow,Go.Sort.alloc_eq_grow,Go.Sort.grow_grow];rfl⟩
theorem QAb {base g n cap:Nat}{l:List Span}{xs:List Value}{w:World}(h:Own XJ 2 51 w base (.slice (some ⟨g,0,none⟩) n cap) l xs)(av:l.length≤140737488355328)(hs:∀x∈l,-1000≤x.frm∧x.frm≤1000) :
  Calls prog 194 #[.slice (some ⟨g,0,none⟩) n cap,.func (.func 195) #[] #[]] w fun e w'=>e=.returned (.tuple #[])∧
   ∃l' au,l'.Perm l∧l'.Pairwise (fun x y=>x.frm≤y.frm)∧Own XJ 2 51 w' base (.slice (some ⟨g,0,none⟩) n cap) l' au∧Kept (fun j=>j=g) w w':=by
 obtain⟨E,aa⟩:∃E:List Zua,E.map Subtype.val=l:=⟨l.pmap (fun x I=>⟨x,I⟩) hs,by rw[List.map_pmap];simp⟩
 have af:E.length=l.length:=by rw[←aa];simp
 have ah:=h.row
 have hn:n=l.length:=by
  rcases ah.2 with⟨F,_⟩|⟨g',ai,J,F,_⟩
  ·cases F
  ·injection F
 subst hn
 obtain⟨J,hb,ad,ap,Z,ab,ax⟩:∃J,base≤g∧w.heap[g]? = some (.cells J 51 (0,0))∧l.length≤cap∧cap≤maxLen∧J.size=cap*2∧J.toList.take (l.length*2)=xs:=by
  rcases ah.2 with⟨F,_⟩|⟨g',ai,J,F,r⟩
  ·cases F
  ·simp only[Value.slice.injEq,Option.some.injEq,Addr.mk.injEq,and_true,true_and]at F;obtain⟨rfl,rfl⟩:=F;exact⟨J,r⟩
 have hH:HoldsK VQ 2 w g 0 E.toArray:=fun j O=>by
  rw[size_flatK]at O
  have aw:j<E.length*2:=by simpa using O
  have D:j / 2<l.length:=by omega
  obtain⟨cs,Y,hl,aj,ak⟩:=h.cells (J1 D);obtain⟨rfl,_⟩:=Y;refine⟨?_,ak _⟩
  have ae:j / 2*2+j % 2=j:=by omega
  have I:(E.toArray[j / 2]!).1=l[j / 2]:=by
   have Q:j / 2<E.length:=by omega
   rw[getElem!_pos _ _ (by simpa using Q)];simp only[List.getElem_toArray]
   have:(E.map Subtype.val)[j / 2]'(by simpa using Q)=l[j / 2]:=by simp only[aa]
   rw[List.getElem_map]at this;exact this
  have hf:=Z0b E.toArray (j / 2) (j % 2) (by simp;omega) (by omega);rw[ae]at hf
  show w.cell? ⟨g,0+j,none⟩=some ((flatK VQ 2 E.toArray)[j]!)
  rw[Nat.zero_add,hf];unfold VQ ZYb;rw[I]
  have hc:=aj (j % 2) (([Value.int .i64 (l[j / 2]).frm,.int .i64 (l[j / 2]).upto])[j % 2]!) (by
   have:j % 2=0∨j % 2=1:=by omega
   rcases this with e|e<;>rw[e]<;>rfl)
  rw[ae]at hc;exact hc
 have Z:=AnyQ.slices_SortFunc Tryz.sortSpan 2 Tryz.isAgg51 Tryz.sizeOf51 VQ (fun _=>rfl) (fun x v F=>by simp[VQ,ZYb]at F;rcases F with rfl|rfl<;>rfl) YE Uvc 195 #[] g 0 cap E.toArray w (enters_of func195 (by kernel_rfl) rfl)
  (fun _ _ _ _ x y=>XNa x y _) hH (lt_of_block ad) (by simp;omega)
 have e1:E.toArray.size=l.length:=by simpa using af
 rw[e1]at Z;refine Calls.mono Z ?_;rintro e w' ⟨rfl,A,q,os,⟨ar,_,ag⟩,aq,rfl⟩
 have ac:A.size=l.length:=by rw[ar];exact e1
 have hp:(A.toList.map Subtype.val).Perm l:=by
  rw[←aa];refine List.Perm.map _ ?_
  have Q:(A.extract 0 l.length).toList=A.toList:=by rw[←ac];simp
  have X:(E.toArray.extract 0 l.length).toList=E:=by rw[←af];simp
  rw[Q,X]at ag;exact ag
 have W:=hp.length_eq
 have an:∀x∈l,InI x.frm∧InI x.upto:=fun x I=>by
  obtain⟨i,D⟩:=List.getElem?_of_mem I;obtain⟨_,Y,_⟩:=h.cells D;exact Y.2
 have V:(flatK VQ 2 A).size=l.length*2:=by rw[size_flatK,ac]
 have al:∀i (D:i<A.size) j,j<2→(flatK VQ 2 A).toList[i*2+j]? = some ((VQ A[i])[j]!):=fun i D j O=>by
  have U:i*2+j<(flatK VQ 2 A).size:=by rw[V];omega
  have:=Z0b A i j D O;rw[getElem!_pos (flatK VQ 2 A) _ U,getElem!_pos A i D]at this;rw[←this];simp
 refine⟨rfl,A.toList.map Subtype.val,(flatK VQ 2 A).toList,hp,?_,⟨⟨?_,.inr ⟨g,cap,_,?_,hb,Yda ad,?_,‹_›,?_,?_⟩⟩,?_⟩,Vsa⟩
 ·rw[List.pairwise_map,List.pairwise_iff_getElem];intro i j D O am
  have Q:i<A.size:=by simpa using D
  have X:j<A.size:=by simpa using O
  have:=aq i j (M0 _) am (by omega);rw[getElem!_pos A i Q,getElem!_pos A j X]at this;have:¬YE A[j] A[i]<0:=of_decide_eq_false this;unfold YE at this;simp only[Array.getElem_toList];omega
 ·rw[Array.length_toList,V,W]
 ·rw[W]
 ·rw[W];exact ap
 ·simp[Go.Sort.putCells,ab]
 ·rw[W];refine List.ext_getElem? fun i=>?_;rw[List.getElem?_take];by_cases D:i<l.length*2
  ·rw[M3 D]
   have U:i<(flatK VQ 2 A).size:=by rw[V];exact D
   have ao:i<J.size:=by rw[ab];omega
   simp only[Go.Sort.putCells,Array.getElem?_toList,Array.getElem?_mapIdx];rw[Array.getElem?_eq_getElem ao,Array.getElem?_eq_getElem U];simp only[Option.map_some,M0,true_and,Nat.zero_add,Nat.sub_zero,M3 U,id];rw[getElem!_pos (flatK VQ 2 A) _ U]
  ·rw[M2 D,List.getElem?_eq_none (by rw[Array.length_toList,V];omega)]
 ·intro i x I
  have D:i<A.size:=by have:=(J0.1 I).1;simpa using this
  rw[List.getElem?_map,Array.getElem?_toList,Array.getElem?_eq_getElem D]at I;simp only[Option.map_some,Option.some.injEq]at I;have hm:x∈l:=hp.subset (List.mem_map.2 ⟨A[i],by simp,I⟩);refine⟨[.int .i64 x.frm,.int .i64 x.upto],⟨rfl,an x hm⟩,rfl,fun j u hu=>?_⟩;have O:j<2:=(J0.1 hu).1;rw[al i D j O,←hu];unfold VQ ZYb;rw[I]
  have:j=0∨j=1:=by omega
  rcases this with rfl|rfl<;>rfl
theorem Uia (p:Option Addr)(cap:Nat)(A:Value)(w:World):Calls prog 194 #[.slice p 0 cap,A] w fun e w'=>e=.returned (.tuple #[])∧w'=w:=
 AnyF.slices_SortFunc_none Tryz.sortSpan p cap A w
end Go.Proofs.YtjdcokpmgionjaaGreat
namespace Go.Proofs.YtjdcokpmgionjaaGreat
open Proofs.Tryz Go.RowKit Go.Shelf
theorem YK (b:Bkg)(v:Value)(w:World):Calls prog 110 #[.agg (Qk b v)] w fun e w'=>e=.returned (.bool (QB b))∧yw w w':=by
 obtain⟨id,Q,A,O,lev,E,F,J,upto,U,I⟩:=b;by_cases h:A=3
 ·have D:=yh (show QB ⟨id,Q,A,O,lev,E,F,J,upto,U,I⟩=false by unfold QB;rw[J2 h];rfl);subst h;go_enter func110,ntmps110;go_wp2_with fail;go_ret;exact⟨Ux (by rw[D.out]),Qi _ _⟩
 ·have D:=yh (show QB ⟨id,Q,A,O,lev,E,F,J,upto,U,I⟩=true by unfold QB;rw[J3 h];rfl)
  have V:(A !=3)=true:=by simpa using h
  clear h;go_enter func110,ntmps110;go_wp2_with fail;go_ret;exact⟨Ux (by rw[D.out]),Qi _ _⟩
theorem ZIb (b:Bkg)(v:Value)(c:Int)(w:World):Calls prog 193 #[.agg (Qk b v),.int .i64 c] w fun e w'=>e=.returned (.bool (UZ c b))∧yw w w':=by
 obtain⟨id,O,Q,J,lev,D,F,I,upto,U,V⟩:=b;obtain⟨r,hr⟩:=yE (UZ c ⟨id,O,Q,J,lev,D,F,I,upto,U,V⟩);rw[←hr];have X:=fun W=>YK ⟨id,O,Q,J,lev,D,F,I,upto,U,V⟩ v W;obtain⟨q,Z⟩:=yE (QB ⟨id,O,Q,J,lev,D,F,I,upto,U,V⟩);rw[←Z]at X;have HR:=yh (show r=(q && decide (D=c))by rw[hr,Z];rfl);have HL:=yh X;clear X;clear hr Z;go_enter func193,ntmps193;go_upto_region 0 with(fail);go_cut [2,4] (fun p _ wx=>∃h,yp p h∧Blk wx h (Qk ⟨id,O,Q,J,lev,D,F,I,upto,U,V⟩ v) 63∧yw w wx)
 case first=>as_aux_lemma=>
  go_wp2_with fail;go_meet;exact⟨_,rfl,Zk _ _,Qi _ _⟩
 obtain⟨h,rfl,A,E⟩:=hcut;have z0:yI wc h 0 id:=A.cell rfl;have z1:yI wc h 1 O:=A.cell rfl;have z2:yI wc h 2 Q:=A.cell rfl;have z3:yI wc h 3 J:=A.cell rfl;have z4:wc.cell? ⟨h,4,none⟩=some (.bool lev):=A.cell rfl;have z5:yI wc h 5 D:=A.cell rfl;have z6:yI wc h 6 F:=A.cell rfl;have z7:yI wc h 7 I:=A.cell rfl;have z8:yI wc h 8 upto:=A.cell rfl;have z9:yI wc h 9 U:=A.cell rfl;have aa:wc.cell? ⟨h,10,none⟩=some (v):=A.cell rfl;go_wp2_with fail;refine yM (HL _) fun w2 Y=>?_;replace A:=A.bel Y;replace E:=E.trans (Y.mono E.size);clear Y z0 z1 z2 z3 z4 z5 z6 z7 z8 z9 aa;have z5:yI w2 h 5 D:=A.cell rfl;cases q
 ·obtain rfl:r=false:=HR.out;go_wp2_with fail;go_ret;exact⟨rfl,E⟩
 by_cases hcb:D=c
 ·obtain rfl:r=true:=by rw[HR.out,J2 hcb];rfl
  subst hcb;go_wp2_with fail;go_ret;exact⟨rfl,E⟩
 ·obtain rfl:r=false:=by rw[HR.out,J3 hcb];rfl
  have ab:(D==c)=false:=by simpa using hcb
  clear hcb;go_wp2_with fail;go_ret;exact⟨rfl,E⟩
def VMb (l:List Bkg):Prop:=∀b∈l,YL ⟨b.frm,b.upto⟩
theorem Qkb {l:List Bkg}{c:Int}{k:Nat}{b:Bkg}(h:l[k]? = some b):spL (l.take (k+1)) c=spL (l.take k) c++(if UZ c b=true then [⟨b.frm,b.upto⟩]else []):=by
 unfold spL;rw[Qo h,List.filter_append,List.map_append];cases e:UZ c b<;>simp[e]
theorem QEc {l:List Bkg}{c:Int}{s:Span}(h:s∈spL l c):∃b∈l,s=⟨b.frm,b.upto⟩:=by
 unfold spL at h;obtain⟨b,A,rfl⟩:=List.mem_map.1 h;exact⟨b,(List.mem_filter.1 A).1,rfl⟩
theorem Zxb {l:List Bkg}(h:VMb l){c:Int} : ∀s∈spL l c,YL s:=fun s D=>by
 obtain⟨b,A,rfl⟩:=QEc D;exact h b A
theorem Ujb (l:List Bkg)(c:Int):(spL l c).length≤l.length:=by
 unfold spL;rw[List.length_map];exact List.length_filter_le _ _
def Una (l:List Bkg) (c:Int):List Span:=(spF (spL l c)).getD []
def ZZ (l:List Bkg) (c:Int):Bool:=(spF (spL l c)).isSome
theorem Xaa:∀{l:List Span} {a:Int},(∀x∈l,YL x∧a≤x.frm)→l.Pairwise (fun x y=>x.upto≤y.frm)→a≤7→(l.length:Int)≤7-a
 | [],a,_,_,h7=>by simp;omega
 | x::l,a,h,hp,_=>by
  obtain⟨⟨E,F,D⟩,I⟩:=h x (List.mem_cons_self ..);rw[List.pairwise_cons]at hp;have:=Xaa (l:=l) (a:=x.upto) (fun y A=>⟨(h y (List.mem_cons_of_mem _ A)).1,hp.1 y A⟩) hp.2 D;rw[List.length_cons];omega
theorem QCc {ls out:List Span}(E:∀x∈ls,YL x)(h:spF ls=some out):out.length≤7∧∀x∈out,YL x:=by
 obtain⟨F,I⟩:=Yf (fun x A=>(E x A).2.1) h;have D:∀x∈out,YL x:=fun x A=>E x (F.subset A);have:=Xaa (l:=out) (a:=0) (fun x A=>⟨D x A,(D x A).1⟩) I (by omega);exact⟨by omega,D⟩
theorem QFc (l:List Bkg)(c:Int)(k:Nat):∃m,spL l c=spL (l.take k) c++m:=by
 refine⟨spL (l.drop k) c,?_⟩;unfold spL;rw[←List.map_append,←List.filter_append,List.take_append_drop]
theorem Ygb {ls m:List Span}(h:spF ls=none):spF (ls++m)=none:=by
 have:∀m:List Span,(m.foldl (fun o s=>o.bind (fun out=>VRa out s)) none)=none:=by
  intro m
  induction m with
  | nil=>rfl
  | cons x m ih=>rw[List.foldl_cons];exact ih
 unfold spF at h ⊢;rw[List.foldl_append,h,this]
theorem Yob {l:List Bkg}{c:Int}{k:Nat}(h:spF (spL (l.take k) c)=none):ZZ l c=false∧Una l c=[]:=by
 obtain⟨m,A⟩:=QFc l c k;unfold ZZ Una;rw[A,Ygb h];exact⟨rfl,rfl⟩
theorem XW {l:List Bkg}{c:Int}{out:List Span}(h:spF (spL l c)=some out):ZZ l c=true∧Una l c=out:=by
 unfold ZZ Una;rw[h];exact⟨rfl,rfl⟩
theorem YP (C:Option Addr)(I cb:Nat)(l:List Bkg)(c:Int)(w:World)(hl:Sl ZP 11 w All C I cb l)(aw:VMb l) :
  Calls prog 149 #[.slice C I cb,.int .i64 c] w fun e w'=>∃v xs,e=.returned (.tuple #[v,.bool (ZZ l c)])∧Own XJ 2 51 w' w.heap.size v (Una l c) xs∧yw w w':=by
 have aG:=hl.bd;have HL:=yh hl;have HN:=yh hl.len;have ap:=yh aw;clear aw;obtain⟨tb,am⟩:=yE (ZZ l c);obtain⟨tl,an⟩:=yE (Una l c);rw[←am,←an];have aq:=yh am;clear am;have ar:=yh an;clear an;clear hl;go_enter func149,ntmps149;go_wp2_with fail
 go_loopg [6,7] I (fun gk o i wr=>∃(k:Nat) (out:List Span) (xs:List Value),k≤I∧I-k≤gk∧i=.int .i64 k∧Aside (spF (spL (l.take k) c)=some out)∧Own XJ 2 51 wr w.heap.size o out xs∧yw w wr)
 case atStart=>exact⟨0,[],[],M0 _,by omega,rfl,rfl,Own.nil _ _ _ _ _,J4 _ _⟩
 case round=>
  obtain⟨k,out,xs,hk,aI,rfl,O,X,E⟩:=hrel;by_cases hlt:k<I
  ·skip;obtain⟨D,F,⟨id,ag,Z,ab,lev,Q,aa,U,upto,ah,aj⟩,A3,n3,c3,hA,hx,hF,W,A⟩:=(HL.bel E).bkg hlt;subst hA;simp only at hF;have y0:yI wr D (F+k*11) id:=A 0 _ rfl;have y1:yI wr D (F+k*11+1) ag:=A 1 _ rfl;have y2:yI wr D (F+k*11+2) Z:=A 2 _ rfl;have y3:yI wr D (F+k*11+3) ab:=A 3 _ rfl;have y4:wr.cell? ⟨D,F+k*11+4,none⟩=some (.bool lev):=A 4 _ rfl;have y5:yI wr D (F+k*11+5) Q:=A 5 _ rfl;have y6:yI wr D (F+k*11+6) aa:=A 6 _ rfl;have y7:yI wr D (F+k*11+7) U:=A 7 _ rfl;have y8:yI wr D (F+k*11+8) upto:=A 8 _ rfl;have y9:yI wr D (F+k*11+9) ah:=A 9 _ rfl;have aL:yJ wr D (F+k*11+10) A3 n3 c3:=A 10 _ rfl;clear A;have ae:=ap _ (J6 hx);have J:=Qkb (c:=c) hx;obtain⟨al,ad⟩:=QCc (Zxb (fun b E=>ap b (List.mem_of_mem_take E))) O;obtain⟨A2,n2,aA,rfl,af⟩:=X.sl Qz;have aD:=yh W.frm;have aE:=yh W.upto;have aJ:(0:Int)≤(k:Int):=Int.natCast_nonneg _;by_cases hst:Z=3
   ·have V:UZ c ⟨id,ag,Z,ab,lev,Q,aa,U,upto,ah,aj⟩=false:=by unfold UZ QB;rw[J2 hst];rfl
    rw[V,M2 (by simp),List.append_nil]at J;have ai:=yh J;clear J;have HO:=yh X;subst hst;clear V X af hx ae ad al W;go_wp2_with fail;go_roundg (I-(k+1))
    case measure=>omega
    case rel=>exact⟨k+1,out,xs,by omega,by omega,by go_num,(show spF _=_ by rw[ai.out];exact O),HO,E⟩
   have aK:(Z==3)=false:=by simpa using hst
   by_cases hcb:Q=c;rotate_left
   ·have V:UZ c ⟨id,ag,Z,ab,lev,Q,aa,U,upto,ah,aj⟩=false:=by unfold UZ;rw[J3 hcb,Bool.and_false]
    rw[V,M2 (by simp),List.append_nil]at J;have ai:=yh J;clear J;have HO:=yh X
    have aH:(Q !=c)=true:=by simpa using hcb
    clear V X af hx ae ad al W hst hcb;go_wp2_with fail;go_roundg (I-(k+1))
    case measure=>omega
    case rel=>exact⟨k+1,out,xs,by omega,by omega,by go_num,(show spF _=_ by rw[ai.out];exact O),HO,E⟩
   have V:UZ c ⟨id,ag,Z,ab,lev,Q,aa,U,upto,ah,aj⟩=true:=by unfold UZ QB;rw[J2 hcb,J3 hst];rfl
   rw[V,M3 rfl]at J
   have av:spF (spL (l.take (k+1)) c)=VRa out ⟨U,upto⟩:=by rw[J,Vva,O];rfl
   have ak:=Yga A2 n2 aA out ⟨U,upto⟩ wr (af.all Qz (by omega)) (by omega) ad ae W.frm W.upto;obtain⟨u,hu⟩:=yE (adE out ⟨U,upto⟩);rw[←hu]at ak;have ax:=yh ak;clear ak;have HU:=yh hu;clear hu;have ao:=yh av;clear av;have aB:=E.size;subst hcb;clear V J hx X af ae ad al W hst;go_wp2_with fail;refine ax.mono ?_;rintro e w2 ⟨v2,aC,rfl,ac,au⟩;by_cases hu0:u=0
   ·subst hu0;rw[QR]at ac;have ay:=yh (ac.mono Qz aB);have az:=yh (show spF (spL (l.take (k+1)) Q)=some (Uo ⟨U,upto⟩ out)by rw[ao.out];unfold VRa;rw[M3 HU.out.symm]);clear ac O;go_wp2_with fail;go_roundg (I-(k+1))
    case measure=>omega
    case rel=>exact⟨k+1,_,aC,by omega,by omega,by go_num,az,ay,E.trans (au.mono E.size)⟩
   ·have Y:=Yob (l:=l) (c:=Q) (k:=k+1) (by rw[ao.out];unfold VRa;rw[M2 (by rw[←HU.out];exact hu0)]);obtain rfl:tb=false:=aq.trans Y.1;obtain rfl:tl=[]:=ar.trans Y.2
    have aF:(u !=0)=true:=by simpa using hu0
    clear hu0 Y ac;go_wp2_with fail;go_ret2;exact⟨_,[],rfl,Own.nil _ _ _ _ _,E.trans (au.mono E.size)⟩
  ·obtain rfl:k=I:=by omega
   rw[M1 (Nat.le_of_eq HN.out)]at O;have Y:=XW O;obtain rfl:tb=true:=aq.trans Y.1;obtain rfl:tl=out:=ar.trans Y.2;clear Y O;go_wp2_with fail;go_ret2;exact⟨_,xs,rfl,X,E⟩
end Go.Proofs.YtjdcokpmgionjaaGreat
