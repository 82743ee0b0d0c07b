/-
  Laws and contracts.
-/
import Derived.Test.YtjdcokpmgionjaaGreatBun18
import Derived.Test.YtjdcokpmgionjaaGreatBun19
set_option linter.unusedSimpArgs false
set_option linter.unusedVariables false
set_option maxRecDepth 100000
set_option maxHeartbeats 20000000
namespace Go.Proofs.YtjdcokpmgionjaaGreat
open Proofs.Tryz Go.RowKit Go.Shelf
theorem X9a {y:Sai}(E:Z9 y.ship=0)(F:ZI y.fares y.ship.cats.length y.ship.legs=0)(I:Qc y.day 0 9999=true)(J:Qc y.leaves 0 9999=true)(h5:y.bks.length≤16)(O:∀b∈y.bks,ofE y.ship b=0)(Q:Xj y.bks)
  (U:y.bks.any (Vj y.closed)=false) (V:QX y=0):QD y=0:=by
 have W:Xy y=0:=by
  unfold Xy
  rw[M2 (by omega),show Qn (Vb y) y.bks.length=0 from XE fun i A=>by
   have D:y.bks[i]? = some y.bks[i]:=J1 A;rw[Yi D,O _ (List.getElem_mem A),M2 (by simp),M2];rintro⟨Z,X⟩
   have Y:y.bks.getD (i-1) default=y.bks[i-1]'(by omega):=by rw[J7,J1 (by omega)];rfl
   rw[Y]at X;have:=Q (i-1) i _ _ (by omega) (J1 (by omega)) D
   omega,M2 (by simp),M2 (by rw[U];simp)]
 unfold QD;rw[E,M2 (by simp),F,M2 (by simp),M2 (by rw[I,J];simp),W,M2 (by simp),V]
 rfl
def UN (b:Bkg):Bkg:={ b with state:=if QB b=true then 1 else 3,til:=0,fol:=[] }
theorem U1a (b:Bkg):QB (UN b)=QB b:=by
 unfold UN;cases h:QB b<;>simp[QB]
theorem Z3b (c:Int)(b:Bkg):UZ c (UN b)=UZ c b:=by unfold UZ;rw[U1a];rfl
theorem Xwb (b:Bkg):QH (UN b)=QH b:=by unfold QH;rw[U1a];rfl
theorem QDc (l:List Bkg)(c:Int):spL (l.map UN) c=spL l c:=by
 induction l with
 | nil=>rfl
 | cons b l ih=>
  unfold spL at ih ⊢;rw[List.map_cons,List.filter_cons,List.filter_cons,Z3b]
  split
  ·rw[List.map_cons,List.map_cons,ih];rfl
  ·exact ih
theorem Vub (l:List Bkg)(k:Nat):Us (l.map UN) k=Us l k:=by
 unfold Us;rw[List.map_map]
 congr 1
 refine List.map_congr_left fun b _=>?_
 show(if QB (UN b)=true∧b.frm≤k∧(k:Int)<b.upto then b.gst else 0)=_
 rw[U1a]
theorem QSb (l:List Bkg)(c:Nat):QN (l.map UN) c=QN l c:=by
 unfold QN;rw[List.any_map]
 congr 2
 funext b
 exact Z3b c b
theorem XBb (x:Sai)(l:List Bkg)(b:Bkg):Uw (ZC x (l.map UN)) (UN b)=Uw (ZC x l) b:=by
 unfold Uw
 show((List.range x.ship.cabs.length).filter (fun c:Nat=>Zi x.ship (UN b) (c:Int) && QN (l.map UN) c)).map Int.ofNat=((List.range x.ship.cabs.length).filter (fun c:Nat=>Zi x.ship b (c:Int) && QN l c)).map Int.ofNat
 congr 2
 funext c
 rw[QSb];rfl
theorem Xua (x:Sai)(l:List Bkg):QI (ZC x (l.map UN))=(QI (ZC x l)).map UN:=by
 unfold QI
 show(l.map UN).filter QH=(l.filter QH).map UN
 rw[List.filter_map]
 congr 2
 funext b
 exact Xwb b
theorem YEa (x:Sai)(l:List Bkg):∀(m:List Bkg) (i:Nat),ZD (ZC x (l.map UN)) (m.map UN) i=ZD (ZC x l) m i
 | [],_=>rfl
 | b::m,i=>by rw[List.map_cons,ZD,ZD,XBb,YEa x l m (i+1)]
theorem Ynb (l:List Bkg)(c:Int):ZZ (l.map UN) c=ZZ l c:=by unfold ZZ;rw[QDc]
theorem Y8a (x:Sai)(l:List Bkg):QX (ZC x (l.map UN))=QX (ZC x l):=by
 have A:Um (ZC x (l.map UN))=Um (ZC x l):=by
  unfold Um
  show((List.range x.ship.cabs.length).any fun c=>!ZZ (l.map UN) (c:Int))=((List.range x.ship.cabs.length).any fun c=>!ZZ l (c:Int))
  congr 1
  funext c
  rw[Ynb]
 have D:QU (l.map UN) x.ship.legs.toNat=QU l x.ship.legs.toNat:=by
  unfold QU;exact List.map_congr_left fun k _=>Vub l k
 have E:UC (ZC x (l.map UN))=UC (ZC x l):=by
  unfold UC;rw[Xua,List.map_map]
  rfl
 have F:Zl (ZC x (l.map UN))=Zl (ZC x l):=by
  unfold Zl;rw[Xua,YEa]
 unfold QX;rw[A,E,F]
 show(if _ then _ else if x.ship.souls<mx (QU (l.map UN) x.ship.legs.toNat)then _ else _)=(if _ then _ else if x.ship.souls<mx (QU l x.ship.legs.toNat)then _ else _)
 rw[D]
theorem Xqb (c:Int)(b:Bkg):(UZ c b && QB b)=UZ c b:=by unfold UZ;cases QB b<;>simp
theorem Yhb (l:List Bkg)(c:Int):spL (l.filter QB) c=spL l c:=by
 unfold spL;rw[List.filter_filter]
 congr 2
 funext b
 exact Xqb c b
theorem Zub (l:List Bkg)(k:Nat):Us (l.filter QB) k=Us l k:=by
 unfold Us
 induction l with
 | nil=>rfl
 | cons b l ih=>
  rw[List.filter_cons]
  split
  ·rw[List.map_cons,List.map_cons,List.sum_cons,List.sum_cons,ih]
  ·next h=>rw[List.map_cons,List.sum_cons,ih,M2 (fun A=>h A.1)];omega
theorem YFa (l:List Bkg)(c:Nat):QN (l.filter QB) c=QN l c:=by
 unfold QN;rw[List.any_filter]
 congr 2
 funext b
 unfold UZ;cases QB b<;>simp
theorem Vea (x:Sai)(l:List Bkg):QI (ZC x (l.filter QB))=QI (ZC x l):=by
 unfold QI
 show(l.filter QB).filter QH=l.filter QH
 rw[List.filter_filter]
 congr 1
 funext b
 unfold QH;cases QB b<;>simp
theorem U5b (x:Sai)(l:List Bkg)(b:Bkg):Uw (ZC x (l.filter QB)) b=Uw (ZC x l) b:=by
 unfold Uw
 show((List.range x.ship.cabs.length).filter (fun c:Nat=>Zi x.ship b (c:Int) && QN (l.filter QB) c)).map Int.ofNat=((List.range x.ship.cabs.length).filter (fun c:Nat=>Zi x.ship b (c:Int) && QN l c)).map Int.ofNat
 congr 2
 funext c
 rw[YFa]
theorem Q2a {x y:Sai}(A:∀b,Uw x b=Uw y b):∀(l:List Bkg) (i:Nat),ZD x l i=ZD y l i
 | [],_=>rfl
 | b::l,i=>by rw[ZD,ZD,A,Q2a A l (i+1)]
theorem ZNa (x:Sai)(l:List Bkg):QX (ZC x (l.filter QB))=QX (ZC x l):=by
 have A:Um (ZC x (l.filter QB))=Um (ZC x l):=by
  unfold Um
  show((List.range x.ship.cabs.length).any fun c=>!ZZ (l.filter QB) (c:Int))=((List.range x.ship.cabs.length).any fun c=>!ZZ l (c:Int))
  congr 1
  funext c
  unfold ZZ;rw[Yhb]
 have D:QU (l.filter QB) x.ship.legs.toNat=QU l x.ship.legs.toNat:=by
  unfold QU;exact List.map_congr_left fun k _=>Zub l k
 have E:UC (ZC x (l.filter QB))=UC (ZC x l):=by
  unfold UC;rw[Vea]
 have F:Zl (ZC x (l.filter QB))=Zl (ZC x l):=by
  unfold Zl;rw[Vea,Q2a (U5b x l)]
 unfold QX;rw[A,E,F]
 show(if _ then _ else if x.ship.souls<mx (QU (l.filter QB) x.ship.legs.toNat)then _ else _)=(if _ then _ else if x.ship.souls<mx (QU l x.ship.legs.toNat)then _ else _)
 rw[D]
theorem Qab {x:Sai}{l:List Bkg}(h:QD x=0)(A:l.Sublist x.bks):QX (ZC x l)=0:=(Zm (X6b h A (YMb A (Zja (Zm h).room).2.2))).room
theorem Ucb {X:Shp}{b:Bkg}(h:OkBk X b):ofE X b=0:=by
 unfold ofE;rw[M2 (by rw[h.kind,h.state];simp),M2 (by rw[h.id,Ql.2 h.gst];simp),M2 (by rw[h.span];simp),M2 (by rw[h.kindE];simp),M2 (by rw[h.til];simp),M2 (fun A=>A.2 (h.opt A.1))];exact h.fol
theorem Yr {l:List Bkg}{k:Nat}{b c:Bkg}(h:c∈l.set k b):c∈l∨c=b:=List.mem_or_eq_of_mem_set h
theorem Yba {x:Sai}{k:Nat}{b b':Bkg}(h:QD x=0)(F:x.bks[k]? = some b)(J:b'.id=b.id)(O:OkBk x.ship b')(I:Vj x.closed b'=false)(Q:QX (QT x k b')=0):QD (QT x k b')=0:=by
 have D:=Zm h;refine X9a (X2 h).1 D.fares D.day D.leaves (by show(x.bks.set k b').length≤16;rw[List.length_set];exact D.bs.len) (fun c E=>?_) (X3b (QP D.bs.rise) F J) ?_ Q
 ·rcases Yr E with A|A
  ·exact Ucb (D.bs.bk c A)
  ·rw[A];exact Ucb O
 ·refine List.any_eq_false.2 fun c E=>?_;rcases Yr E with A|A
  ·exact List.any_eq_false.1 D.bs.bad c A
  ·rw[A];show ¬Vj x.closed b'=true;rw[I];simp
theorem Qwc {l:List Bkg}{k:Nat}{b b':Bkg}(A:l[k]? = some b)(h:UN b'=UN b):(l.set k b').map UN=l.map UN:=by
 rw[List.map_set,h];refine List.ext_getElem? fun i=>?_;by_cases hi:i=k
 ·subst hi;have D:=(J0.1 A).1;rw[List.getElem?_set_self (by rw[List.length_map];exact D),List.getElem?_map,A];rfl
 ·rw[List.getElem?_set_ne (fun e=>hi e.symm)]
theorem Y9a {x:Sai}{k:Nat}{b b':Bkg}(h:QD x=0)(D:x.bks[k]? = some b)(E:UN b'=UN b):QX (QT x k b')=0:=by
 have A:=Y8a x (x.bks.set k b');rw[Qwc D E,Y8a]at A;exact A.symm.trans (Zm h).room
theorem YLa {l:List Bkg}{k:Nat}{b b':Bkg}(A:l[k]? = some b)(h:QB b'=false):(l.set k b').filter QB=(Z4b l k).filter QB:=by
 have D:=(J0.1 A).1;rw[List.set_eq_take_append_cons_drop,M3 D,List.filter_append,List.filter_cons,M2 (by rw[h];simp)];unfold Z4b;rw[List.filter_append]
theorem Vnb {x:Sai}{k:Nat}{b b':Bkg}(h:QD x=0)(D:x.bks[k]? = some b)(E:QB b'=false):QX (QT x k b')=0:=by
 have A:=ZNa x (x.bks.set k b');rw[YLa D E,ZNa]at A;exact A.symm.trans (Qab h (Xzb x.bks k))
theorem ZPb {c:Bool}{b b':Bkg}(A:b'.kind=b.kind)(D:QB b'=QB b)(E:b'.cab=b.cab):Vj c b'=Vj c b:=by unfold Vj;rw[A,D,E]
section
variable {x:Sai} {t:Int}
theorem ZCb (h:ZTa x t=0):QD (Qwa x t)=0∧∃(k:Nat) (b b':Bkg),x.bks[k]? = some b∧b.id=t∧b'.id=t∧Qwa x t=QT x k b'∧QD x=0:=by
 unfold ZTa chE YT at h;by_cases A:QD x≠0
 ·rw[M3 A]at h;exact absurd h A
 rw[M2 A]at h;by_cases hl:ZH x t=true;rotate_left
 ·rw[M2 hl]at h;omega
 rw[M3 hl]at h;have A:=Decidable.not_not.1 A;have F:=Zm A;obtain⟨b,E,I,V,W,X,O⟩:=UE (QP F.bs.rise) hl;unfold Qwa;rw[O]at h ⊢;unfold Zoa at h
 have U:b.state=1:=by
  by_cases hs:b.state=1
  ·exact hs
  ·rw[M2 hs]at h;omega
 have D:=F.bs.bk b (J6 E)
 have J:QB (YF b)=QB b:=by unfold QB YF;simp[U]
 refine⟨Yba A E rfl ⟨D.kind,show Qc (2:Int) 1 3=true by decide,D.id,D.gst,D.span,D.kindE,show Qc (0:Int) 0 9999=true by decide,fun Q=>absurd rfl Q,D.fol⟩ ?_ (Y9a A E ?_),_,b,YF b,E,I,I,rfl,A⟩
 ·exact(ZPb (c:=x.closed) (b:=b) (b':=YF b) rfl J rfl).trans (by simpa using List.any_eq_false.1 F.bs.bad b (J6 E))
 ·unfold UN;rw[J]
  rfl
theorem Zlb {a:Int}(h:ZKa x t a=0):QD (Qta x t a)=0∧∃(k:Nat) (b b':Bkg),x.bks[k]? = some b∧b.id=t∧b'.id=t∧Qta x t a=QT x k b'∧QD x=0:=by
 unfold ZKa chE YT at h;by_cases A:QD x≠0
 ·rw[M3 A]at h;exact absurd h A
 rw[M2 A]at h;by_cases hl:ZH x t=true;rotate_left
 ·rw[M2 hl]at h;omega
 rw[M3 hl]at h;have A:=Decidable.not_not.1 A;have F:=Zm A;obtain⟨b,E,I,Q,U,V,J⟩:=UE (QP F.bs.rise) hl;unfold Qta;rw[J]at h ⊢
 have O:Qe (Uaa x b a).fol=0:=by
  unfold Zda at h;by_cases q1:Qc a 1 100000000=false
  ·rw[M3 q1]at h;omega
  rw[M2 q1]at h;by_cases q2:Zz b.fol<a
  ·rw[M3 q2]at h;omega
  rw[M2 q2]at h;exact h
 have D:=F.bs.bk b (J6 E);refine⟨Yba A E rfl ⟨D.kind,D.state,D.id,D.gst,D.span,D.kindE,D.til,D.opt,O⟩ ?_ (Y9a A E rfl),_,b,Uaa x b a,E,I,I,rfl,A⟩;exact(ZPb (c:=x.closed) (b:=b) (b':=Uaa x b a) rfl rfl rfl).trans (by simpa using List.any_eq_false.1 F.bs.bad b (J6 E))
theorem Z1b {X:Shp}{b:Bkg}{day:Int}(A:OkBk X b)(h:ZV x b day=0):OkBk X (VR x b day):=by
 have D:Qe (VR x b day).fol=0:=by
  unfold ZV at h;by_cases q:b.state=2∧100000000<QV b.fol
  ·rw[M3 q]at h;omega
  ·rw[M2 q]at h;exact h
 exact⟨A.kind,show Qc (3:Int) 1 3=true by decide,A.id,A.gst,A.span,A.kindE,show Qc (0:Int) 0 9999=true by decide,fun E=>absurd rfl E,D⟩
theorem QYb (h:ZCa x t=0):QD (Qqa x t)=0∧∃(k:Nat) (b b':Bkg),x.bks[k]? = some b∧b.id=t∧b'.id=t∧Qqa x t=QT x k b'∧QD x=0:=by
 unfold ZCa chE YT at h;by_cases A:QD x≠0
 ·rw[M3 A]at h;exact absurd h A
 rw[M2 A]at h;by_cases hl:ZH x t=true;rotate_left
 ·rw[M2 hl]at h;omega
 rw[M3 hl]at h;have A:=Decidable.not_not.1 A;have I:=Zm A;obtain⟨b,D,E,Q,U,V,J⟩:=UE (QP I.bs.rise) hl;unfold Qqa;rw[J]at h ⊢;have O:=I.bs.bk b (J6 D)
 have F:QB (VR x b x.day)=false:=by unfold QB VR;simp
 exact⟨Yba A D rfl (Z1b O h) (by unfold Vj;rw[F];simp) (Vnb A D F),_,b,VR x b x.day,D,E,E,rfl,A⟩
theorem Q7b {c:Int}(h:ZGa x t c=0):QD (Qsa x t c)=0∧∃(k:Nat) (b b':Bkg),x.bks[k]? = some b∧b.id=t∧b'.id=t∧Qsa x t c=QT x k b'∧QD x=0:=by
 unfold ZGa chE YT at h;by_cases A:QD x≠0
 ·rw[M3 A]at h;exact absurd h A
 rw[M2 A]at h;by_cases hl:ZH x t=true;rotate_left
 ·rw[M2 hl]at h;omega
 rw[M3 hl]at h;have A:=Decidable.not_not.1 A;have F:=Zm A;obtain⟨b,D,E,O,Q,U,I⟩:=UE (QP F.bs.rise) hl;unfold Qsa;rw[I]at h ⊢;unfold Q9a at h;by_cases q1:b.cab<0
 ·rw[M3 q1]at h;omega
 rw[M2 q1]at h;by_cases q2:c<0∨(x.ship.cabs.length:Int)≤c
 ·rw[M3 q2]at h;omega
 rw[M2 q2]at h;by_cases q3:c=b.cab
 ·rw[M3 q3]at h;omega
 rw[M2 q3]at h;by_cases q4:ofE x.ship (QK b c)≠0
 ·rw[M3 q4]at h;exact absurd h q4
 rw[M2 q4]at h;refine⟨Yba A D rfl (ZZa (Decidable.not_not.1 q4)) ?_ h,_,b,QK b c,D,E,E,rfl,A⟩
 have J:Vj x.closed b=false:=by simpa using List.any_eq_false.1 F.bs.bad b (J6 D)
 refine Eq.trans ?_ J;unfold Vj QK
 show(decide (b.kind=2) && (QB b && (decide (c<0)==x.closed)))=_
 rw[J3 q1,J3 (show ¬c<0 by omega)]
end
def shE (c:Int) (l:List Edg):List Edg:=(l.filter (fun e=>decide (0<e.lft) && !decide (e.rgt=c))).map (fun e=>⟨e.lft-1,e.rgt⟩)
theorem Uya (c:Int)(l m:List Edg):shE c (l++m)=shE c l++shE c m:=by unfold shE;rw[List.filter_append,List.map_append]
theorem Ycb (c:Int)(l:List Int):shE c (toE 0 l)=[]:=by
 unfold shE toE
 rw[List.filter_eq_nil_iff.2 (fun e A=>by
  obtain⟨d,_,rfl⟩:=List.mem_map.1 A
  simp)]
 rfl
theorem Uib (c:Int)(i:Nat):∀l:List Int,shE c (toE (i+1) l)=toE i (l.filter (fun d=>!decide (d=c)))
 | []=>rfl
 | d::l=>by
  have E:=Uib c i l;have D:toE (i+1) (d::l)=[⟨((i+1:Nat):Int),d⟩]++toE (i+1) l:=rfl;rw[D,Uya,E,List.filter_cons]
  have F:(0:Int)<((i+1:Nat):Int):=by omega
  by_cases hd:d=c
  ·have A:shE c [⟨((i+1:Nat):Int),d⟩]=[]:=by unfold shE;rw[List.filter_cons,M2 (by simp[hd])];rfl
   rw[A,M2 (by simp[hd])];rfl
  ·have A:shE c [⟨((i+1:Nat):Int),d⟩]=[⟨(i:Int),d⟩]:=by
    unfold shE;rw[List.filter_cons,M3 (by simp[hd])]
    show[(⟨((i+1:Nat):Int)-1,d⟩:Edg)]=_
    rw[show((i+1:Nat):Int)-1=i by omega]
   rw[A,M3 (by simp[hd])];rfl
theorem Qaa (x:Sai)(b:Bkg)(A:List Bkg)(i:Nat):ZD x (b::A) i=toE i (Uw x b)++ZD x A (i+1):=rfl
theorem ZXb {x y:Sai}{c:Int}(D:∀q,Uw y q=(Uw x q).filter (fun d=>!decide (d=c))):∀(A:List Bkg) (i:Nat),ZD y A i=shE c (ZD x A (i+1))
 | [],_=>rfl
 | b::A,i=>by rw[Qaa,Qaa,Uya,Uib,D,ZXb D A (i+1)]
section
variable {x:Sai} {i:Nat} {b:Bkg}
theorem X1 (A:x.bks[i]? = some b):x.bks=x.bks.take i++b::x.bks.drop (i+1):=Q5b A
theorem Xe {l:List Bkg}(A:l[i]? = some b)(b':Bkg):l.set i b'=l.take i++b'::l.drop (i+1):=by
 rw[List.set_eq_take_append_cons_drop,M3 (J0.1 A).1]
theorem Vfa (A:QH b=true):b.kind=2∧QB b=true∧b.cab<0:=by
 unfold QH at A;rw[Bool.and_eq_true,Bool.and_eq_true]at A;exact⟨of_decide_eq_true A.1,A.2.1,of_decide_eq_true A.2.2⟩
theorem Z6a (b:Bkg)(c:Nat):QH (QK b c)=false:=by
 unfold QH QK
 have:¬((c:Int)<0):=by omega
 simp[this]
theorem Uwa (A:x.bks[i]? = some b)(D:Q2 x i=[])(E:QH b=true):QI x=b::(x.bks.drop (i+1)).filter QH:=by
 unfold QI
 conv=>lhs;rw[X1 A]
 rw[List.filter_append,show(x.bks.take i).filter QH=[]from D,List.filter_cons,M3 E];rfl
theorem Uxa (A:x.bks[i]? = some b)(D:Q2 x i=[])(c:Nat):QI (QT x i (QK b c))=(x.bks.drop (i+1)).filter QH:=by
 unfold QI
 show(x.bks.set i (QK b c)).filter QH=_
 rw[Xe A,List.filter_append,show(x.bks.take i).filter QH=[]from D,List.filter_cons,M2 (by rw[Z6a];simp)];rfl
theorem XTb (A:x.bks[i]? = some b)(E:Q2 x i=[])(c:Nat):Q2 (QT x i (QK b c)) (i+1)=[]:=by
 have D:=(J0.1 A).1;unfold Q2
 show((x.bks.set i (QK b c)).take (i+1)).filter QH=[]
 rw[Qo (x:=QK b c) (List.getElem?_set_self D),List.take_set_of_le (J5 i),List.filter_append,show(x.bks.take i).filter QH=[]from E,List.filter_cons,M2 (by rw[Z6a];simp)];rfl
theorem Q0b (E:QH b=true)(c A:Nat):UZ (A:Int) (QK b c)=decide (A=c)∧UZ (A:Int) b=false:=by
 obtain⟨_,D,F⟩:=Vfa E
 constructor
 ·unfold UZ;rw[show QB (QK b c)=true from D,Bool.true_and,decide_eq_decide]
  show(c:Int)=A↔_
  omega
 ·unfold UZ;rw[J3 (by omega),Bool.and_false]
theorem URb (D:x.bks[i]? = some b)(I:QH b=true)(c A:Nat):QN (x.bks.set i (QK b c)) A=(QN x.bks A && !decide (A=c)):=by
 obtain⟨E,F⟩:=Q0b I c A;unfold QN
 conv=>rhs;rw[X1 D]
 rw[Xe D,List.any_append,List.any_cons,List.any_append,List.any_cons,E,F];cases(x.bks.take i).any (UZ (A:Int))<;>cases(x.bks.drop (i+1)).any (UZ (A:Int))<;>cases decide (A=c)<;>rfl
theorem Z6b (A:x.bks[i]? = some b)(D:QH b=true)(c:Nat)(q:Bkg):Uw (QT x i (QK b c)) q=(Uw x q).filter (fun d=>!decide (d=(c:Int))):=by
 unfold Uw
 show((List.range x.ship.cabs.length).filter (fun d:Nat=>Zi x.ship q (d:Int) && QN (x.bks.set i (QK b c)) d)).map Int.ofNat=_
 rw[List.filter_map,List.filter_filter]
 congr 2
 funext d
 rw[URb A D]
 show _=(!decide ((d:Int)=(c:Int)) && (Zi x.ship q (d:Int) && QN x.bks d))
 rw[show decide ((d:Int)=(c:Int))=decide (d=c)from decide_eq_decide.2 (by omega)];cases Zi x.ship q (d:Int)<;>cases QN x.bks d<;>cases decide (d=c)<;>rfl
theorem XVa (A:x.bks[i]? = some b)(D:Q2 x i=[])(E:QH b=true)(c:Nat):Zl (QT x i (QK b c))=shE c (Zl x):=by
 unfold Zl;rw[Uwa A D E,Uxa A D,Qaa,Uya,Ycb,ZXb (Z6b A E c)];rfl
theorem Y8b {q:Bkg}{c:Int}(h:c∈Uw x q):∃d:Nat,c=d∧d<x.ship.cabs.length∧Zi x.ship q d=true∧QN x.bks d=true:=by
 unfold Uw at h;obtain⟨d,E,rfl⟩:=List.mem_map.1 h;obtain⟨D,A⟩:=List.mem_filter.1 E;have A:(Zi x.ship q (d:Int) && QN x.bks d)=true:=A;rw[Bool.and_eq_true]at A;exact⟨d,rfl,List.mem_range.1 D,A.1,A.2⟩
theorem ZAc (E:x.bks[i]? = some b)(I:QH b=true){c A:Nat}(h:¬A=c):spL (x.bks.set i (QK b c)) (A:Int)=spL x.bks (A:Int):=by
 obtain⟨D,F⟩:=Q0b I c A;rw[J3 h]at D;unfold spL
 conv=>rhs;rw[X1 E]
 rw[Xe E,List.filter_append,List.filter_cons,M2 (by rw[D];simp),List.filter_append,List.filter_cons,M2 (by rw[F];simp)]
theorem Ukb (F:x.bks[i]? = some b)(I:QH b=true){c:Nat}(h:QN x.bks c=true):spL (x.bks.set i (QK b c)) (c:Int)=[⟨b.frm,b.upto⟩]:=by
 obtain⟨E,_⟩:=Q0b I c c
 have D:∀q∈x.bks,¬UZ (c:Int) q=true:=by
  unfold QN at h;rw[Bool.not_eq_true']at h;exact List.any_eq_false.1 h
 unfold spL;rw[Xe F,List.filter_append,List.filter_cons,M3 (by rw[E];simp),List.filter_eq_nil_iff.2 (fun q A=>D q (List.take_subset _ _ A)),List.filter_eq_nil_iff.2 (fun q A=>D q (List.drop_subset _ _ A))]
 rfl
theorem YBb (A:OkShp x.ship)(Q:OkBk x.ship b)(F:Um x=false)(D:x.bks[i]? = some b)(E:QH b=true){c:Nat}(h:QN x.bks c=true):Um (QT x i (QK b c))=false:=by
 unfold Um at F ⊢;refine List.any_eq_false.2 fun d J=>?_
 have I:ZZ x.bks (d:Int)=true:=by simpa using List.any_eq_false.1 F d J
 show ¬(!ZZ (x.bks.set i (QK b c)) (d:Int))=true
 by_cases q:d=c
 ·subst q;have O:b.frm<b.upto:=(QWa A Q).2.1
  obtain⟨o,U⟩:=ZRa (ls:=spL (x.bks.set i (QK b d)) (d:Int)) (fun s A=>by
   rw[Ukb D E h,List.mem_singleton]at A
   rw[A];exact O) (by rw[Ukb D E h];exact List.pairwise_singleton _ _)
  rw[(XW U).1];simp
 ·have:ZZ (x.bks.set i (QK b c)) (d:Int)=true:=by unfold ZZ at I ⊢;rw[ZAc D E q];exact I
  rw[this];simp
theorem QBc (A:x.bks[i]? = some b)(c:Int)(n:Nat):QU (x.bks.set i (QK b c)) n=QU x.bks n:=by
 unfold QU;refine List.map_congr_left fun k _=>?_;unfold Us
 conv=>rhs;rw[X1 A]
 rw[Xe A,List.map_append,List.map_cons,List.map_append,List.map_cons]
 rfl
theorem Q7a (x:Sai):(UC x).length=(QI x).length:=List.length_map _
theorem Ugb (J:OkShp x.ship)(F:OkBk x.ship b)(I:QX x=0)(A:x.bks[i]? = some b)(D:Q2 x i=[])(E:QH b=true){c:Nat}(h:QN x.bks c=true) :
  QX (QT x i (QK b c))=if UB ((QI x).length-1) (shE c (Zl x))=true then 0 else 9:=by
 obtain⟨O,Q,_⟩:=Zja I;unfold QX;rw[M2 (by rw[YBb J F O A E h];simp),show(QT x i (QK b c)).bks=x.bks.set i (QK b c)from rfl,show(QT x i (QK b c)).ship=x.ship from rfl,QBc A,M2 Q,XVa A D E,Q7a,Uxa A D,Uwa A D E]
 rfl
theorem Qpc (A:x.bks[i]? = some b)(E:Q2 x i=[])(I:QH b=true)(V:UB (QI x).length (Zl x)=true):∃c:Nat,(c:Int)∈Uw x b∧UB ((QI x).length-1) (shE c (Zl x))=true:=by
 have O:=Uwa A E I;obtain⟨J,D,F,Q⟩:=X9b (QTa.1 V);rw[O]at D;rcases J with _|⟨⟨b',c⟩,J⟩
 ·cases D
 rw[List.map_cons]at D F;injection D with e1 e2;obtain rfl:b'=b:=e1;refine⟨c,Q _ (List.mem_cons_self ..),?_⟩;rw[←XVa A E I c,show(QI x).length-1=(QI (QT x i (QK b' c))).length by rw[O,Uxa A E];rfl];refine Y6 (Yab ⟨J,by rw[Uxa A E];exact e2,(List.nodup_cons.1 F).2,fun p U=>?_⟩);rw[Z6b A I];refine List.mem_filter.2 ⟨Q p (List.mem_cons_of_mem _ U),?_⟩;have W:¬p.2=c:=fun e=>(List.nodup_cons.1 F).1 (by rw[←e];exact List.mem_map.2 ⟨p,U,rfl⟩)
 have:¬(p.2:Int)=c:=by omega
 simp[this]
end
noncomputable def Xza (x:Sai) (b:Bkg):Option Int:=(Uw x b).find? (fun c=>UB ((QI x).length-1) (shE c (Zl x)))
noncomputable def XA (x:Sai) (i:Nat):Sai:=match x.bks[i]? with
 | some b=>if QH b=true then (match Xza x b with|some c=>QT x i (QK b c)|none=>x)else x
 | none=>x
noncomputable def Qy (x:Sai):Nat→Sai
 | 0=>x
 | k+1=>XA (Qy x k) k
noncomputable def Xm (x:Sai):Sai:={ Qy x x.bks.length with closed:=true }
theorem Ym {x:Sai}{i:Nat}{b:Bkg}(A:x.bks[i]? = some b)(D:QH b=false):XA x i=x:=by
 unfold XA;rw[A]
 show(if QH b=true then _ else _)=_
 rw[D];rfl
theorem Yl {x:Sai}{i:Nat}{b:Bkg}{c:Int}(A:x.bks[i]? = some b)(D:QH b=true)(E:Xza x b=some c):XA x i=QT x i (QK b c):=by
 unfold XA;rw[A]
 show(if QH b=true then _ else _)=_
 rw[M3 D,E]
structure CloK (x y:Sai) (i:Nat):Prop where
 ship:y.ship=x.ship
 fares:y.fares=x.fares
 day:y.day=x.day
 leaves:y.leaves=x.leaves
 closed:y.closed=x.closed
 ids:y.bks.map (·.id)=x.bks.map (·.id)
 bk:∀b∈y.bks,OkBk x.ship b
 tail:y.bks.drop i=x.bks.drop i
 none:Q2 y i=[]
 room:QX y=0
theorem CloK.len {x y:Sai}{i:Nat}(h:CloK x y i):y.bks.length=x.bks.length:=by
 have:=congrArg List.length h.ids
 rwa [List.length_map,List.length_map]at this
theorem CloK.at {x y:Sai}{i:Nat}(h:CloK x y i):y.bks[i]? = x.bks[i]?:=by
 have:=congrArg (fun l:List Bkg=>l[0]?) h.tail
 simpa [List.getElem?_drop] using this
theorem Xsa {X:Shp}{b:Bkg}{c:Nat}(h:OkBk X b)(F:QH b=true)(J:c<X.cabs.length)(E:Zi X b c=true):OkBk X (QK b c):=by
 obtain⟨D,_,I⟩:=Vfa F;refine⟨h.kind,h.state,h.id,h.gst,h.span,?_,h.til,h.opt,h.fol⟩;have A:=h.kindE;unfold kindE at A ⊢;rw[M3 D]at A;rw[show(QK b c).kind=b.kind from rfl,M3 D];unfold Zga at A ⊢
 show(if Qc b.cat 0 ((X.cats.length:Int)-1)=false then (3:Int)else if b.frm≠0∨b.upto≠X.legs then 4 else if Qc (c:Int) (-1) ((X.cabs.length:Int)-1)=false then 3 else if 0≤(c:Int)∧Zi X (QK b c) c=false then 4 else 0)=0
 by_cases q1:Qc b.cat 0 ((X.cats.length:Int)-1)=false
 ·rw[M3 q1]at A;omega
 rw[M2 q1]at A ⊢;by_cases q2:b.frm≠0∨b.upto≠X.legs
 ·rw[M3 q2]at A;omega
 rw[M2 q2,M2 (by rw[Zg (by omega) (by omega)];simp),M2];rintro⟨_,q⟩;rw[show Zi X (QK b c) c=Zi X b c from rfl,E]at q;cases q
theorem CloK.start {x:Sai}(A:OkSai x):CloK x x 0:=⟨rfl,rfl,rfl,rfl,rfl,rfl,A.bs.bk,rfl,rfl,A.room⟩
section
variable {x y:Sai} {i:Nat} {b:Bkg}
theorem CloK.pick (h:CloK x y i)(I:x.bks[i]? = some b)(U:QH b=true):∃c:Nat,Xza y b=some (c:Int)∧c<x.ship.cabs.length∧Zi x.ship b c=true∧QN y.bks c=true∧UB ((QI y).length-1) (shE c (Zl y))=true:=by
 have J:y.bks[i]? = some b:=h.at.trans I;have D:=(Zja h.room).2.2;rw[Q7a]at D;obtain⟨c,E,F⟩:=Qpc J h.none U D
 have V:(Xza y b).isSome=true:=by unfold Xza;exact List.find?_isSome.2 ⟨(c:Int),E,F⟩
 obtain⟨e,A⟩:=Option.isSome_iff_exists.1 V;have O:e∈Uw y b:=List.mem_of_find?_eq_some A;have Q:=List.find?_some A;obtain⟨d,rfl,W,X,Y⟩:=Y8b O;exact⟨d,A,by rw[←h.ship];exact W,by rw[←h.ship];exact X,Y,Q⟩
theorem CloK.step (W:OkShp x.ship)(h:CloK x y i)(E:x.bks[i]? = some b):CloK x (XA y i) (i+1):=by
 have A:y.bks[i]? = some b:=h.at.trans E;have Y:=(J0.1 A).1;have F:=h.bk b (J6 A);rcases Bool.eq_false_or_eq_true (QH b)with D|D
 ·obtain⟨c,I,J,O,Q,U⟩:=h.pick E D;rw[Yl A D I];refine⟨h.ship,h.fares,h.day,h.leaves,h.closed,?_,fun q V=>?_,?_,XTb A h.none c,?_⟩
  ·rw[←h.ids]
   show(y.bks.set i (QK b c)).map (·.id)=_
   conv=>rhs;rw[X1 A]
   rw[Xe A,List.map_append,List.map_cons,List.map_append,List.map_cons];rfl
  ·rcases Yr V with X|rfl
   ·exact h.bk q X
   ·exact Xsa F D J O
  ·show(y.bks.set i (QK b c)).drop (i+1)=_
   rw[List.drop_set_of_lt (by omega)];have:=congrArg (List.drop 1) h.tail
   rwa [List.drop_drop,List.drop_drop]at this
  ·rw[Ugb (by rw[h.ship];exact W) (by rw[h.ship];exact F) h.room A h.none D Q,M3 U]
 ·rw[Ym A D];refine⟨h.ship,h.fares,h.day,h.leaves,h.closed,h.ids,h.bk,?_,?_,h.room⟩
  ·have:=congrArg (List.drop 1) h.tail
   rwa [List.drop_drop,List.drop_drop]at this
  ·rw[Vt A,h.none,M2 (by rw[D];simp)];rfl
end
theorem Vq {x:Sai}(A:OkSai x):∀k,k≤x.bks.length→CloK x (Qy x k) k
 | 0,_=>CloK.start A
 | k+1,h=>(Vq A k (by omega)).step A.bs.ship (J1 (by omega))
theorem YU {x:Sai}(E:OkSai x){i:Nat} : ∀d,i+d≤x.bks.length→(Q2 x (i+d)).length=(Q2 x i).length→Qy x (i+d)=Qy x i
 | 0,_,_=>rfl
 | d+1,h,he=>by
  have A:x.bks[i+d]? = some (x.bks[i+d]'(by omega)):=J1 (by omega);have F:=Vt A
  have I:∀d,i+d≤x.bks.length→(Q2 x i).length≤(Q2 x (i+d)).length:=fun d _=>by
   unfold Q2;refine List.Sublist.length_le (List.Sublist.filter _ ?_);exact(List.take_prefix_take_left (by omega)).sublist
  have O:=I d (by omega);rw[show i+(d+1)=i+d+1 by omega,F,J9]at he
  have D:QH (x.bks[i+d]'(by omega))=false:=by
   rcases Bool.eq_false_or_eq_true (QH (x.bks[i+d]'(by omega)))with q|q
   ·rw[q]at he;simp at he;omega
   ·exact q
  rw[D]at he;have J:=Vq E (i+d) (by omega)
  show XA (Qy x (i+d)) (i+d)=_
  rw[Ym (J.at.trans A) D,YU E d (by omega) (by simp at he;omega)]
theorem Z3a {x:Sai}(A:OkSai x){i j:Nat}(D:i≤x.bks.length)(E:j≤x.bks.length)(h:(Q2 x i).length=(Q2 x j).length):Qy x i=Qy x j:=by
 rcases Nat.le_total i j with q|q
 ·have:=YU A (i:=i) (j-i) (by omega) (by rw[show i+(j-i)=j by omega];exact h.symm);rw[show i+(j-i)=j by omega]at this;exact this.symm
 ·have:=YU A (i:=j) (i-j) (by omega) (by rw[show j+(i-j)=i by omega];exact h)
  rwa [show j+(i-j)=i by omega]at this
theorem QHa {x:Sai} : ∀{n k:Nat} {b:Bkg},(Q2 x n)[k]? = some b→∃j,j<n∧x.bks[j]? = some b∧QH b=true∧(Q2 x j).length=k
 | 0,_,_,h=>by simp[Q2]at h
 | n+1,k,b,h=>by
  rcases hq:x.bks[n]? with _|q
  ·have:Q2 x (n+1)=Q2 x n:=by
    unfold Q2;have F:=List.getElem?_eq_none_iff.1 hq;rw[M1 (by omega),M1 F]
   rw[this]at h;obtain⟨j,E,D⟩:=QHa h;exact⟨j,by omega,D⟩
  ·rw[Vt hq]at h;by_cases hk:k<(Q2 x n).length
   ·rw[List.getElem?_append_left hk]at h;obtain⟨j,E,D⟩:=QHa h;exact⟨j,by omega,D⟩
   ·rw[List.getElem?_append_right (by omega)]at h;rcases Bool.eq_false_or_eq_true (QH q)with A|A
    ·rw[M3 A]at h
     have I:k-(Q2 x n).length=0:=by
      have:=(J0.1 h).1;simp at this;omega
     rw[I]at h
     obtain rfl:q=b:=by simpa using h
     exact⟨n,by omega,hq,A,by omega⟩
    ·rw[M2 (by rw[A];simp)]at h;simp at h
theorem Vgb {x y:Sai}{i:Nat}(h:CloK x y i):QI y=(x.bks.drop i).filter QH:=by
 unfold QI
 conv=>lhs;rw[←List.take_append_drop i y.bks]
 rw[List.filter_append,show(y.bks.take i).filter QH=[]from h.none,h.tail];rfl
theorem XVb {x:Sai}(i:Nat):(Q2 x i).length+((x.bks.drop i).filter QH).length=(QI x).length:=by
 unfold QI Q2
 conv=>rhs;rw[←List.take_append_drop i x.bks]
 rw[List.filter_append,J9]
theorem Y7a (y:Sai)(c:Bool):QX { y with closed:=c } = QX y:=by
 have A:Zl { y with closed:=c } = Zl y:=Q2a (x:={ y with closed:=c }) (y:=y) (fun _=>rfl) (QI y) 0;unfold QX;rw[A]
 rfl
theorem YAa {x:Sai}(h:QD x=0):QD (Xm x)=0:=by
 have D:=Zm h;have A:=Vq D x.bks.length (J5 _);have J:=A.len
 refine X9a (y:=Xm x) (by show Z9 (Qy x _).ship=0;rw[A.ship];exact(X2 h).1) (by show ZI (Qy x _).fares (Qy x _).ship.cats.length (Qy x _).ship.legs=0;rw[A.ship,A.fares];exact D.fares) (by show Qc (Qy x _).day 0 9999=true;rw[A.day];exact D.day)
  (by show Qc (Qy x _).leaves 0 9999=true;rw[A.leaves];exact D.leaves) (by show(Qy x _).bks.length≤16;rw[J];exact D.bs.len) (fun b F=>by show ofE (Qy x _).ship b=0;rw[A.ship];exact Ucb (A.bk b F)) ?_ ?_ ((Y7a _ true).trans A.room)
 ·show Xj (Qy x _).bks
  have U:=VZ.1 (QP D.bs.rise);refine VZ.2 ?_;have I:(x.bks.map (·.id)).Pairwise (· < ·):=List.pairwise_map.2 U;rw[←A.ids]at I;exact List.pairwise_map.1 I
 ·refine List.any_eq_false.2 fun b F=>?_
  have Q:QI (Qy x x.bks.length)=[]:=by
   rw[←Ya J];exact A.none
  have O:¬QH b=true:=fun q=>by
   have:b∈QI (Qy x x.bks.length):=List.mem_filter.2 ⟨F,q⟩;rw[Q]at this;cases this
  intro E;refine O ?_;unfold Vj at E;unfold QH;rw[Bool.and_eq_true,Bool.and_eq_true]at E ⊢;refine⟨E.1,E.2.1,?_⟩;have:=E.2.2
  simpa [Xm] using this
noncomputable def Xu (n:Nat) (l:List Edg):List Edg→Option Int
 | []=>none
 | e::m=>if 0<e.lft then none else if UB n (shE e.rgt l)=true then some e.rgt else Xu n l m
noncomputable def XBa (n:Nat) (l:List Edg):Int:=(Xu n l l).getD (-1)
noncomputable def Xoa (n:Nat) (l:List Edg):List Edg:=((Xu n l l).map (fun c=>shE c l)).getD []
theorem XAa (n:Nat)(l r:List Edg)(A:∀e∈r,0<e.lft):∀m:List Int,Xu n l (toE 0 m++r)=m.find? (fun c=>UB n (shE c l))
 | []=>by
  rcases r with _|⟨e,r⟩
  ·rfl
  ·show(if 0<e.lft then none else _)=none
   rw[M3 (A e (List.mem_cons_self ..))]
 | c::m=>by
  show(if (0:Int)<((0:Nat):Int)then none else if UB n (shE c l)=true then some c else Xu n l (toE 0 m++r))=_
  rw[M2 (by omega),XAa n l r A m,List.find?_cons];cases UB n (shE c l)<;>rfl
theorem Vjb {x:Sai}{b:Bkg}{A:List Bkg}(h:QI x=b::A)(n:Nat):Xu n (Zl x) (Zl x)=(Uw x b).find? (fun c=>UB n (shE c (Zl x))):=by
 have D:Zl x=toE 0 (Uw x b)++ZD x A 1:=by unfold Zl;rw[h,Qaa]
 conv=>lhs;rw[show Xu n (Zl x) (Zl x)=Xu n (Zl x) (toE 0 (Uw x b)++ZD x A 1)by rw[←D]]
 exact XAa n _ _ (fun e E=>by have:=Xja x A 1 e E;omega) _
theorem Ybb {l:List Edg}{k:Nat}{e:Edg}(h:l[k]? = some e)(c:Int):shE c (l.take (k+1))=shE c (l.take k)++(if (decide (0<e.lft) && !decide (e.rgt=c))=true then [⟨e.lft-1,e.rgt⟩]else []):=by
 rw[Qo h,Uya]
 congr 1
 unfold shE;rw[List.filter_cons]
 split<;>rfl
theorem Uhb (c:Int)(l:List Edg):(shE c l).length≤l.length:=by
 unfold shE;rw[List.length_map];exact List.length_filter_le _ _
theorem Zxc {n m:Nat}{l:List Edg}(c:Int)(h:Uga (n+1) m l):Uga n m (shE c l):=fun e D=>by
 unfold shE at D;obtain⟨q,I,rfl⟩:=List.mem_map.1 D;obtain⟨E,A⟩:=List.mem_filter.1 I;have F:=h q E;rw[Bool.and_eq_true]at A;have J:0<q.lft:=of_decide_eq_true A.1;refine⟨?_,?_,F.2.2⟩
 ·show 0≤q.lft-1;omega
 ·show q.lft-1<n;omega
theorem Zob {n:Nat}{l m:List Edg}{e:Edg}(h:0<e.lft):Xu n l (e::m)=none:=M3 h
theorem Zpb {n:Nat}{l m:List Edg}{e:Edg}(h:¬0<e.lft)(A:UB n (shE e.rgt l)=true):Xu n l (e::m)=some e.rgt:=(M2 h).trans (M3 A)
theorem Znb {n:Nat}{l m:List Edg}{e:Edg}(h:¬0<e.lft)(A:¬UB n (shE e.rgt l)=true):Xu n l (e::m)=Xu n l m:=(M2 h).trans (M2 A)
theorem UTb (a8 ad:Nat)(A:Option Addr)(n cap:Nat)(l:List Edg)(w:World)(h:Sl Xn 2 w All A n cap l)(hm:a8+1≤16)(hr:ad≤16)(hg:Uga (a8+1) ad l)(hn:n≤1000) :
  Calls prog 188 #[.int .i64 ((a8+1:Nat):Int),.int .i64 (ad:Int),.slice A n cap] w fun e w'=>∃v xs,e=.returned (.tuple #[.int .i64 (XBa a8 l),v])∧Own Xn 2 94 w' w.heap.size v (Xoa a8 l) xs∧yw w w':=by
 have aA:=yh (fun A' n' aJ c W hS=>ZHb a8 ad A' n' aJ (shE c l) W hS (by omega) hr (Zxc c hg));have HS:=yh h;have an:=yh h.len;have aD:=yh (show ∀c,(shE c l).length≤1000 from fun c=>by have:=Uhb c l;have:=h.len;omega);have aB:=yh hg;have aE:=yh hm
 have aP:IntKind.i64.wrap (((a8+1:Nat):Int)-1)=(a8:Int):=by rw[IntWalk.i64_in _ (by omega)];omega
 obtain⟨M,hM⟩:=yE ((a8+1:Nat):Int);rw[←hM]at aP ⊢;clear h hg hM hr hm;go_enter func188,ntmps188;go_wp2_with fail
 go_loopg [15] n (fun gk i wr=>∃(k:Nat),k≤n∧n-k≤gk∧i=.int .i64 k∧Xu a8 l l=Xu a8 l (l.drop k)∧yw w wr)
 case atStart=>exact⟨0,M0 _,by omega,rfl,rfl,J4 _ _⟩
 case round=>
  obtain⟨k,hk,aY,rfl,U,J⟩:=hrel;by_cases hlt:k<n
  ·obtain⟨bb,aU,x,c0,c1,rfl,hx,⟨Z,aM,aN⟩,e0,e1⟩:=(HS.bel J).at2 hlt
   obtain⟨rfl,rfl⟩:c0=.int .i64 x.lft∧c1=.int .i64 x.rgt:=by simpa using Z
   have ar:l.drop k=x::l.drop (k+1):=by rw[List.drop_eq_getElem_cons (J0.1 hx).1];rw[(J0.1 hx).2]
   rw[ar]at U;obtain⟨W1,rfl⟩:=yE wr;have ag:=yh U;clear U;have HX:=yh aN;clear Z ar aM hx;go_upto_region 3 with(fail);go_cut [9] (fun p Q=>∃g,yp p g∧W1.heap.size≤g∧Blk Q g #[.int .i64 x.lft,.int .i64 x.rgt] 94∧yw W1 Q)
   case first=>as_aux_lemma=>
    go_wp2_with fail;go_meet;exact⟨_,rfl,J5 _,Zk _ _,Qi _ _⟩
   obtain⟨g,rfl,a1,hG,ai⟩:=hcut;obtain⟨W2,rfl⟩:=yE wc;replace J:=J.trans (ai.mono J.size);have a2:=ai.size;have aZ:=hG.lt;have g0:yI W2 g 0 x.lft:=hG.cell rfl;have HG:=yh (fun X (hX:yw W2 X)=>hG.bel hX);clear ai hG e0 e1;by_cases q0:0<x.lft
   ·have q1:decide (0<x.lft)=true:=J2 q0;have D:=yh (ag.trans (Zob q0));clear q0;go_wp2_with fail;go_ret2;exact⟨.slice none 0 0,[],by unfold XBa;rw[D.out];rfl,by unfold Xoa;rw[D.out];exact Own.nil _ _ _ _ _,J⟩
   have q1:decide (0<x.lft)=false:=J3 q0;have Q0:=yh q0;have V:=yh J;clear J;clear q0;go_wp2_with fail
   go_loopg [10,24] n (fun gk v i wr=>∃(j:Nat) (xs:List Value) (vo:Value),j≤n∧n-j≤gk∧i=.int .i64 j∧vo=v∧Own Xn 2 94 wr W2.heap.size vo (shE x.rgt (l.take j)) xs∧yw W2 wr)
   case atStart=>exact⟨0,[],_,M0 _,by omega,rfl,rfl,by rw[List.take_zero];exact Own.nil _ _ _ _ _,J4 _ _⟩
   case round=>
    obtain⟨j,xs,vo,hj,aX,rfl,rfl,F,E⟩:=hrel;by_cases hlt2:j<n
    ·obtain⟨b2,aV,y,d0,d1,aq,hy,⟨Z,aQ,aR⟩,e0,e1⟩:=(HS.bel (V.trans (E.mono V.size))).at2 hlt2
     obtain⟨rfl,rfl⟩:d0=.int .i64 y.lft∧d1=.int .i64 y.rgt:=by simpa using Z
     obtain⟨rfl,rfl⟩:b2=bb∧aV=aU:=by injection aq with h;injection h with h1 h2;exact⟨h1.symm,h2.symm⟩
     obtain⟨V1,rfl⟩:=yE wr;have af:=yh (Ybb hy x.rgt);have ac:=yh (aB y (J6 hy));have ay:=F.lt;have aI:=yh (show(shE x.rgt (l.take j)).length≤1000 from by have:=Uhb x.rgt (l.take j);rw[J8]at this;omega);have O:=yh F;clear F;clear Z aq hy aQ;go_upto_region 8 with(fail);go_cut [12] (fun p Q=>∃z,yp p z∧V1.heap.size≤z∧Blk Q z #[.int .i64 y.lft,.int .i64 y.rgt] 94∧yw V1 Q)
     case first=>as_aux_lemma=>
      go_wp2_with fail;go_meet;exact⟨_,rfl,J5 _,Zk _ _,Qi _ _⟩
     obtain⟨z,rfl,a6,hZ,aj⟩:=hcut;obtain⟨I,rfl⟩:=yE wc;have F:=O.bel aj
     have a5:vo.ownBlock≠some z:=fun e=>by have:=(ay z e).2;omega
     replace E:=E.trans (aj.mono E.size);have z0:yI I z 0 y.lft:=hZ.cell rfl;have z1:yI I z 1 y.rgt:=hZ.cell rfl;have g1:yI I g 1 x.rgt:=(HG _ E).cell rfl;have a4:=hZ.lt;have a0:=(HG _ E).lt;clear hZ aj e0 e1 O ay;obtain⟨tv,al⟩:=yE (decide (0<y.lft) && !decide (y.rgt=x.rgt));rw[←al]at af;have ba:=yh al;clear al;have O:=yh F;clear F;have aa:=yh E;clear E;go_upto_region 9 with(fail);go_cut [37] (fun q Q=>q=.bool tv∧I=Q)
     case first=>as_aux_lemma=>
      by_cases q2:0<y.lft
      ·have q3:decide (0<y.lft)=true:=J2 q2;by_cases q4:y.rgt=x.rgt
       ·obtain rfl:tv=false:=by rw[ba.out,J2 q2,J2 q4];rfl
        have q5:(y.rgt !=x.rgt)=false:=by simpa using q4
        clear q2 q4;go_wp2_with fail;go_meet;exact⟨rfl,rfl⟩
       ·obtain rfl:tv=true:=by rw[ba.out,J2 q2,J3 q4];rfl
        have q5:(y.rgt !=x.rgt)=true:=by simpa using q4
        clear q2 q4;go_wp2_with fail;go_meet;exact⟨rfl,rfl⟩
      ·have q3:decide (0<y.lft)=false:=J3 q2
       obtain rfl:tv=false:=by rw[ba.out,J3 q2];rfl
       clear q2;go_wp2_with fail;go_meet;exact⟨rfl,rfl⟩
     obtain⟨rfl,rfl⟩:=hcut;cases tv
     ·have D:=yh (af.trans (by simp:_=shE x.rgt (l.take j)));go_wp2_with fail;go_roundg (n-(j+1))
      case measure=>omega
      case rel=>exact⟨j+1,xs,vo,by omega,by omega,by go_num,rfl,by rw[D.out];exact O,aa⟩
     ·have D:=yh (af.trans (show _=shE x.rgt (l.take j)++[⟨y.lft-1,y.rgt⟩]from rfl))
      have aS:0<y.lft:=by have h:=ba.symm;rw[Bool.and_eq_true]at h;exact of_decide_eq_true h.1
      have aT:y.lft≤16:=by have:=ac.out;have:=aE.out;omega
      have a3:IntKind.i64.wrap (y.lft-1)=y.lft-1:=IntWalk.i64_in _ (by have:=ac.out;omega);have aw:InI (y.lft-1):=.of (by have:=ac.out;omega) (by have:=ac.out;omega)
      have aL:((shE x.rgt (l.take j)).length+1)*16≤140737488355328:=by have:=aI.out;omega
      have ao:=yh (O.bel (Qi I (.cells #[.int .i64 (y.lft-1),.int .i64 y.rgt] 94)))
      have aO:W2.heap.size≤(I.alloc (.cells #[.int .i64 (y.lft-1),.int .i64 y.rgt] 94)).heap.size:=by have:=aa.size;simp;omega
      have aH:=yh (Ztb I All (y.lft-1) y.rgt 94 aw aR trivial);have a9:=yh (aa.trans ((Qi I (.cells #[.int .i64 (y.lft-1),.int .i64 y.rgt] 94)).mono aa.size));clear aw aS aT;go_wp2_with (at_builtin;refine QC (t:=74) (e:=94) (bytes:=16) rfl (.tmp 38) (.tmp 45) rfl UUa QJ rfl ao rfl aH (fun _ _ hc=>hc) aL (by omega) aO ?_;intro v' w' aW az au aK;have aG:=yh az;have aC:=yh au;clear az au aK);go_roundg (n-(j+1))
      case measure=>omega
      case rel=>exact⟨j+1,aW,v',by omega,by omega,by go_num,rfl,by rw[D.out];exact aG,QA a9 ao aC a9.size⟩
    ·obtain rfl:j=n:=by omega
     rw[M1 (by have:=an.out;omega)]at F;obtain⟨V1,rfl⟩:=yE wr;have Y:=V.trans (E.mono V.size);have av:=HG _ E;obtain⟨A1,n1,c1,rfl,ak⟩:=F.sl QJ
     have ax:n1≤1000:=by have:=ak.len;have:=aD x.rgt;omega
     obtain⟨ab,ah⟩:=yE (UB a8 (shE x.rgt l));have HC:=yh (aA A1 n1 c1 x.rgt V1 (ak.all QJ (by omega)) ax);rw[←ah]at HC;have am:=yh ah;clear ah;have O:=yh F;clear F;clear ak ax E g0;go_wp2_with fail;refine yM HC fun w3 ae=>?_;have ap:=O.bel ae;have g1:yI w3 g 1 x.rgt:=(av.bel ae).cell rfl;replace Y:=Y.trans (ae.mono Y.size);have aF:=yh ap;clear ap;have a9:=yh Y;clear Y;clear av HC ae;cases ab
     ·have D:=yh (ag.trans (Znb (Int.not_lt.2 Q0) (by rw[←am.out];simp)));go_wp2_with fail;go_roundg (j-(k+1))
      case measure=>omega
      case rel=>exact⟨k+1,by omega,by omega,by go_num,D,a9⟩
     ·have D:=yh (ag.trans (Zpb (Int.not_lt.2 Q0) am.symm));go_wp2_with fail;go_ret2;exact⟨_,xs,by unfold XBa;rw[D.out];rfl,by unfold Xoa;rw[D.out];exact aF.mono QJ (V.size),a9⟩
  ·obtain rfl:k=n:=by omega
   rw[List.drop_of_length_le (by have:=an.out;omega)]at U;go_wp2_with fail;go_ret2;exact⟨.slice none 0 0,[],by unfold XBa;rw[U];rfl,by unfold Xoa;rw[U];exact Own.nil _ _ _ _ _,J⟩
section
variable {w0:World} {b0:Nat} {w:World} {base:Nat} {x:Sai} {p:SaiV} {g:Nat}
theorem SaiW.geB (h:SaiW w0 b0 w base x p)(D:p.C=some ⟨g,0,none⟩):w0.heap.size≤g∧g<w.heap.size:=by
 obtain⟨E,F,I,J,O,xs,A⟩:=h;rw[D]at A;exact A.lt g rfl
end
theorem Zka {x y:Sai}{i:Nat}(h:CloK x y i)(p:SaiV):Qa y p=Qa x p:=by unfold Qa;rw[h.ship,h.fares,h.day,h.leaves,h.closed]
theorem Vna {x:Sai}(A:OkSai x)(p:SaiV):Qa (Xm x) p=Qa { x with closed:=true } p:=by
 have h:=Vq A x.bks.length (J5 _)
 show Qa { Qy x x.bks.length with closed:=true } p=_
 unfold Qa;simp only;rw[h.ship,h.fares,h.day,h.leaves]
theorem Zrc {l:List Bkg}{k:Nat}{b:Bkg}(F:Xj l)(D:l[k]? = some b):Ze l b.id=k:=by
 have I:=(J0.1 D).1;refine X5a (by omega) (fun q c E A=>F q k c b E A D) (fun q c E A=>?_);rcases Nat.lt_or_ge k q with h|h
 ·exact Int.le_of_lt (F k q b c h D A)
 ·obtain rfl:q=k:=by omega
  rw[D]at A;injection A with A;rw[A];exact Int.le_refl _
theorem Yza {x y:Sai}{i:Nat}(h:CloK x y i)(D:Xj x.bks):Xj y.bks:=by
 refine VZ.2 ?_;have A:(x.bks.map (·.id)).Pairwise (· < ·):=List.pairwise_map.2 (VZ.1 D);rw[←h.ids]at A;exact List.pairwise_map.1 A
theorem UKb (w0:World)(b0:Nat)(x:Sai)(p:SaiV)(y:Nat)(base:Nat)(w:World)(hW:SaiW w0 b0 w base x p)(hY:Blk w y (Qa x p) 162)(a9:w0.heap.size≤y)(O:OkSai x) :
  Calls prog 106 #[.pointer (some ⟨y,0,none⟩)] w fun e w'=>e=.returned (.tuple #[])∧SaiW w0 b0 w' base (Xm x) p∧Blk w' y (Qa (Xm x) p) 162∧Kept (fun j=>w0.heap.size≤j) w w':=by
 have HM:=hW.sai.cabs.len;have bv:=O.bs.ship.cabs12;have aE:=yh (Yka x p w hW.sai O.bs.ship O.bs.bk O.bs.len);have be:=yh (fun bG A n cap l W hS hm hg hn=>UTb bG p.m A n cap l W hS hm (by omega) hg hn);have aG:=yh (fun Y t X hl hr ab hn ht=>XY Y p t X hl hr ab hn ht);have bt:=yh (fun Y i (h:CloK x Y i)=>Zka h p);have bc:=yh (Vna O p);have am:=yh (show x.bks.length=p.nb from hW.sai.bks.len)
 have bU:p.nb≤16:=by have:=am.out;have:=O.bs.len;omega
 have aD:=yh (fun g (J:p.C=some ⟨g,0,none⟩)=>hW.geB J);have bg:=yh (fun g (J:p.C=some ⟨g,0,none⟩) (e:y=g)=>hW.neB J hY (by decide) e.symm);have bK:=yh (fun g (J:p.C=some ⟨g,0,none⟩)=>hW.blkB J);have I:=yh O;have HW:=yh hW;have HY:=yh hY;have bm:=yh HM;have cc:=hY.lt;clear O hW hY HM bv;go_enter func106,ntmps106;go_wp2_with (refine wpList_load_row rfl 32 (.tmp 13) rfl y rfl 162 _ (0,0) _ HY underlying32 rfl (by kernel_rfl) ?_);refine aE.mono ?_;rintro e w1 ⟨v1,v2,bH,bI,rfl,ap,aM,ad⟩;obtain⟨A1,D,c1,rfl,b8⟩:=ap.sl Qd;have aZ:D=(UC x).length:=b8.len.symm
 have bT:D≤16:=by have:=Usa x;have:=am.out;omega
 have bV:=ad.size;have aP:=HW.bel ad;have aR:=HY.bel ad;have ba:=yh ad;have al:=yh (show D=(QI x).length by rw[aZ,Q7a]);have bo:=yh aP;clear aP;have br:=yh aR;clear aR;have an:=yh ap;clear ap;have bj:=yh aM;clear aM;obtain⟨W1,bz⟩:=yE w1;subst bz;clear b8 aZ ad HW HY aE;go_wp2_with fail
 go_loopg [3,20] D (fun gk v iv wr=>∃(k i:Nat) (xs:List Value) (vo:Value),k≤D∧D-k≤gk∧iv=.int .i64 k∧i≤x.bks.length∧(Q2 x i).length=k∧vo=v∧Own Xn 2 94 wr w.heap.size vo (Zl (Qy x i)) xs∧SaiW w0 b0 wr base (Qy x i) p∧Kept (fun j=>p.C=some ⟨j,0,none⟩) W1 wr)
 case atStart=>exact⟨0,0,bI,_,M0 _,by omega,rfl,M0 _,rfl,rfl,bj,bo,Kept.refl _ _⟩
 case round=>
  obtain⟨k,i,xs,vo,hk,bP,rfl,hi,aw,rfl,hO,hW,hK⟩:=hrel;obtain⟨V1,rfl⟩:=yE wr;have bZ:=hK.size;have b5:=br.kept hK (fun e=>bg y e rfl);by_cases hlt:k<D
  ·obtain⟨b,au⟩:∃b,(QI x)[k]? = some b:=⟨_,J1 (by have:=al.out;omega)⟩;obtain⟨j,hj,ak,ac,ax⟩:=QHa (x:=x) (n:=x.bks.length) (k:=k) (b:=b) (by rw[Ya rfl];exact au);rw[Z3a I.out hi (Nat.le_of_lt hj) (aw.trans ax.symm)]at hO hW;have E:=Vq I j (Nat.le_of_lt hj);obtain⟨c,az,bC,bD,bE,bF⟩:=E.pick ak ac;have F:(Qy x j).bks[j]? = some b:=E.at.trans ak;have ay:Qy x (j+1)=QT (Qy x j) j (QK b c):=Yl F ac az;have a0:=Uwa F E.none ac
   have av:(QI (Qy x j)).length=D-k:=by rw[Vgb E,al.out];have:=XVb (x:=x) j;omega
   obtain⟨M,hM⟩:∃M,D-k=M+1:=⟨D-k-1,by omega⟩
   have aA:Xu M (Zl (Qy x j)) (Zl (Qy x j))=some (c:Int):=by
    rw[Vjb a0,show M=(QI (Qy x j)).length-1 by omega];exact az
   have b7:XBa M (Zl (Qy x j))=(c:Int):=by unfold XBa;rw[aA];rfl
   have b6:Xoa M (Zl (Qy x j))=Zl (Qy x (j+1)):=by
    unfold Xoa;rw[aA,ay,XVa F E.none ac];rfl
   have aX:Uga (M+1) p.m (Zl (Qy x j)):=by
    have h:=XWa (Qy x j);rw[Q7a,av,hM,E.ship,bm.out]at h;exact h
   have aT:=E.bk b (J6 F);have bA:=Ql.1 aT.id;obtain⟨Z,hZ⟩:=yE ((M+1:Nat):Int)
   have bY:IntKind.i64.wrap ((D:Int)-(k:Int))=Z:=by rw[IntWalk.i64_in _ (by omega),hZ];omega
   obtain⟨A2,n2,c2,rfl,aB⟩:=hO.sl QJ
   have bB:n2≤1000:=by
    have h1:=aB.len;have h2:=YV (Qy x j) (QI (Qy x j)) 0;have h3:(Zl (Qy x j)).length≤(QI (Qy x j)).length*(Qy x j).ship.cabs.length:=h2;rw[av,E.ship]at h3;have h4:=I.bs.ship.cabs12;have h5:(D-k)*x.ship.cabs.length≤16*12:=Nat.mul_le_mul (by omega) h4;omega
   have af:=yh (be M A2 n2 c2 (Zl (Qy x j)) V1 (aB.all QJ (by omega)) (by omega) aX bB);rw[←hZ,b7,b6]at af;obtain⟨id,ab⟩:=yE b.id
   have aY:(UC x)[k]? = some id:=by unfold UC;rw[List.getElem?_map,au,ab];rfl
   have aL:Own QO 1 3 V1 w.heap.size (.slice A1 D c1) (UC x) bH:=an.keepB ZB (fun q hq=>hK.block q (an.lt q hq).2 (fun e=>by
    have h1:=(an.lt q hq).1;have h2:=(aD q e).2
    omega))
   obtain⟨A3,n3,c3,a8,b9⟩:=aL.sl Qd
   obtain⟨rfl,rfl,rfl⟩:A1=A3∧D=n3∧c1=c3:=by injection a8 with h1 h2 h3;exact⟨h1,h2,h3⟩
   obtain⟨a1,b1,t,c0,rfl,ht,⟨hd,a7⟩,e0⟩:=b9.at1 hlt
   obtain rfl:t=id:=by rw[aY]at ht;injection ht with ht;exact ht.symm
   obtain rfl:c0=.int .i64 t:=by simpa using hd
   obtain⟨g,A4,n4,c4,J,bO,bQ,aU,aW,hF,hI,_⟩:=hW.at F;have ag:=yh (fun X (hX:SaiR X (Qy x j) p)=>aG (Qy x j) t X hX.bks (Yza E (QP I.bs.rise)) (fun q hq=>by have:=Ql.1 (E.bk q hq).id;omega) (by rw[E.len];exact I.bs.len) a7);have aH:=yh (show Ze (Qy x j).bks t=j by rw[ab];exact Zrc (Yza E (QP I.bs.rise)) F);have a5:=bt _ _ E;rw[a5]at ag;have bn:=yh (show Vn t by rw[ab];unfold Vn;omega);obtain⟨Y,ar⟩:=yE (Qy x j);obtain⟨Y',ai⟩:∃q,q=Qy x (j+1):=⟨_,rfl⟩;rw[←ar]at ag aH hW F;have bi:=yh (show QT Y j (QK b c)=Y' by rw[ar,ai];exact ay.symm);have bh:=yh (show(Q2 x (j+1)).length=k+1 by rw[Vt ak,J9,M3 ac,ax];rfl);rw[←ai]at af;have aJ:=yh ai;have bM:(0:Int)≤(c:Int):=Int.natCast_nonneg _
   have bN:(c:Int)≤12:=by have:=I.bs.ship.cabs12;omega
   have bR:(0:Int)≤(j:Int):=Int.natCast_nonneg _
   have bS:(j:Int)<(p.nb:Int):=by have:=am.out;omega
   have HJ:=yh hj;have bd:=yh aU;have bf:=yh (aW (j*11+5));have bu:=yh F;have HW:=yh hW;clear hW;have HK:=yh hK;clear hK;have ah:=yh b5;have HC:=yh J;have y3:yJ V1 y 3 p.B p.m p.cap2:=b5.cell rfl;clear b5 J au ak ac ax E az bC bD bE bF ay a0 av hM aA b7 b6 aX aT bA hZ hO aB ab aY aL a8 b9 ht a7 hd aU aW hF hI ar ai F hi aw aG a5 hj;go_wp2_with fail;refine af.mono ?_;rintro e w3 ⟨v3,bJ,rfl,aN,ae⟩;have aq:=HW.bel ae;have aS:=ah.bel ae;have bW:=ae.size;have aC:=yh ae;have aF:=yh (ag w3 aq.sai);have bp:=yh aq;clear aq;have aI:=yh aS;clear aS;have bl:=yh aN;clear aN;clear ae af ag y3 e0;go_wp2_with (refine wpList_load_row rfl 32 (.tmp 45) rfl y rfl 162 _ (0,0) _ aI underlying32 rfl (by kernel_rfl) ?_);refine aF.mono ?_;rintro e U ⟨Q,rfl,-,ca,aa⟩;obtain rfl:Q=j:=(ca bn).trans aH;have aQ:=bp.bel aa;have aO:=bl.bel aa;have aj:=aC.trans (aa.mono aC.size)
   have b2:U.cell? ⟨y,11,none⟩=some (.slice (some ⟨g,0,none⟩) p.nb p.cb):=by rw[←HC.out];exact(aI.bel aa).cell rfl
   have c5:yI U g (Q*11+5) b.cab:=Qh aj (bd.out 5 _ rfl)
   have f5:U.frozen? ⟨g,Q*11+5,none⟩=false:=by rw[World.frozen?_of_block (a:=⟨g,Q*11+5,none⟩) (aj.block g (by omega))];exact bf
   have bb:=yh aj;have bX:=aa.size;have bq:=yh aQ;clear aQ;have ao:=yh aO;clear aO;clear ca aj aa aF;go_wp2_with fail;go_roundg (D-(k+1))
   case measure=>omega
   case rel=>
    have bx:=bq.put HC bu (j:=5) (by omega) (u:=.int .i64 (c:Int)) (fun cs h=>Yva h (.of (by omega) (by omega)));have aK:Kept (fun q=>q=g) U (U.setCell ⟨g,Q*11+5,none⟩ (.int .i64 (c:Int))):=VX U g [(Q*11+5,.int .i64 (c:Int))];have bw:=ao.keepB Y9 (w':=U.setCell ⟨g,Q*11+5,none⟩ (.int .i64 (c:Int))) (fun q hq=>aK.block q (ao.lt q hq).2 (fun e=>by have:=(ao.lt q hq).1;omega));refine⟨k+1,Q+1,bJ,v3,by omega,by omega,by go_num,HJ,bh,rfl,?_,?_,?_⟩
    ·rw[←aJ.out];exact bw.mono QJ (by omega)
    ·rw[←aJ.out,←bi.out];exact bx
    ·exact HK.trans ((Kept.of_below bb (fun q h1 h2=>absurd h1 (by omega)):Kept (fun q=>p.C=some ⟨q,0,none⟩) V1 U).trans (aK.mono fun q _ e=>by rw[e];exact HC))
  ·obtain rfl:k=D:=by omega
   have aV:Qy x i=Qy x x.bks.length:=Z3a I hi (J5 _) (by rw[aw,al.out,Ya rfl]);rw[aV]at hW;have bL:=b5.free 12;have b3:V1.cell? ⟨y,12,none⟩=some (.bool x.closed):=b5.cell rfl;have ah:=yh b5;have HW:=yh hW;have HK:=yh hK;clear b5 hW hK hO aV;go_wp2_with fail;go_end0;have hk:=VX V1 y [(12,.bool true)];obtain⟨a1,a2,a3,a4,V,ys,a6⟩:=HW.keepZ ah (by decide) (by decide) a9 hk;refine⟨rfl,⟨a1,a2,a3,a4,⟨V.cats,V.cabs,V.leg,V.bands,V.a,V.t,V.d⟩,ys,a6⟩,?_,?_⟩
   ·rw[bc.out];exact ah.set (j:=12) _
   ·exact(Kept.of_below ba (fun q h1 h2=>absurd h1 (by omega)):Kept (fun j=>w0.heap.size≤j) w W1).trans ((HK.mono fun q _ e=>(aD q e).1).trans (hk.mono fun q _ e=>by rw[e];exact a9))
noncomputable def XB (x:Sai):Int:=if QD x≠0 then QD x else if x.closed=true then 4 else 0
theorem Uub (x:Sai)(p:SaiV)(w:World)(hS:SaiR w x p) :
  Calls prog 39 #[.agg (Qa x p)] w fun e w'=>YM w' w.heap.size (XB x) (Xm x) e∧yw w w':=by
 have af:=yh (fun X hX=>UG x p X hX);have al:=yh (fun X h ho=>UI x p X h ho);have ag:=yh (fun w0 b0 p y base X hW hY ai ho=>UKb w0 b0 x p y base X hW hY ai ho);obtain⟨r,hr⟩:=yE (QD x);obtain⟨R,hR⟩:=yE (XB x);have HR:=yh (show R=if r≠0 then r else if x.closed=true then 4 else 0 by rw[hR,hr];rfl);have az:=yh hr;rw[←hr]at af;rw[←hR];have HS:=yh hS;obtain⟨ab,ah⟩:=yE x.closed;rw[←ah]at HR;have ay:=yh ah;obtain⟨U,ar⟩:=yE (Xm x);rw[←ar]at ag ⊢;clear hr hR hS ah ar;obtain⟨A,n,cap,B,m,aC,D,nd,cd,E,ne,ce,C,nb,cb⟩:=p;go_enter func39,ntmps39;go_upto_region 0 with(fail);go_cut [1,2,3] (fun p p2 p4 Z=>∃g z,yp p g∧yp p2 z∧p4=.int .i64 0∧w.heap.size≤z∧Blk Z g (Qa x ⟨A,n,cap,B,m,aC,D,nd,cd,E,ne,ce,C,nb,cb⟩) 32∧Blk Z z M9 32∧yw w Z)
 case first=>as_aux_lemma=>
  go_wp2_with fail;go_meet;exact⟨_,_,rfl,rfl,rfl,by omega,QE _ _ _,QF _ _ _,Zo _ _ _⟩
 obtain⟨g,z,rfl,rfl,rfl,hz,hG,hZ,ad⟩:=hcut;obtain⟨I,rfl⟩:=yE wc;have HT:=yh (fun X (hX:yw I X)=>ad.trans (hX.mono ad.size));have HG:=yh (fun X (hX:yw I X)=>hG.bel hX);have HZ:=yh (fun X (hX:yw I X)=>hZ.bel hX);have am:=yh (fun X (hX:yw I X)=>HS.bel (HT X hX))
 have aj:=yh (show ∀(E':Int) V,¬E'=0→yw I V→YM (V.setRow z (Qa Qf Qg)) w.heap.size E' U (.returned (.tuple #[.agg (Qa Qf Qg),.int .i64 E']))∧yw w (V.setRow z (Qa Qf Qg))from fun E' V h0 hX=>by
  have ae:yw w (V.setRow z (Qa Qf Qg)):=((HT V hX).trans (((yk z V).setRow (.inl rfl) _).below (B:=w.heap.size) (HT V hX).size (fun k hk e=>by omega)))
  exact⟨⟨Qf,Qg,rfl,(Ul h0 _).symm,Vw _ _ ae.size⟩,ae⟩)
 have hb:yw I I:=J4 _ _;have aM:=hZ.lt;have aK:=ad.size;clear hG hZ ad;have Q:=yh (af _ (am _ hb));go_wp2_with (refine yV (.tmp 1) (HG _ hb) underlying32 ?_);refine yM Q fun w1 av=>?_;replace hb:=hb.trans (av.mono hb.size);clear av Q af
 have aD:w1.cell? ⟨g,12,none⟩=some (.bool ab):=by rw[ay.out];exact(HG _ hb).cell rfl
 obtain⟨tv,ax⟩:=yE (decide (r=0) && ab);have aa:=yh ax;clear ax;obtain⟨W2,aG⟩:=yE w1;subst aG;have W:=yh hb;clear hb;go_upto_region 2 with(fail);go_cut [13] (fun v Z=>v=.bool tv∧W2=Z)
 case first=>as_aux_lemma=>
  by_cases q0:r=0
  ·obtain rfl:tv=ab:=by rw[aa.out,J2 q0];rfl
   subst q0;go_wp2_with fail;go_meet;exact⟨rfl,rfl⟩
  ·obtain rfl:tv=false:=by rw[aa.out,J3 q0];rfl
   have q1:(r==0)=false:=by simpa using q0
   clear q0;go_wp2_with fail;go_meet;exact⟨rfl,rfl⟩
 obtain⟨rfl,rfl⟩:=hcut;have hb:=W.out;clear aD W;cases tv;rotate_left
 ·obtain⟨q0,q1⟩:r=0∧ab=true:=by
   have:=aa.symm;rw[Bool.and_eq_true]at this;exact⟨of_decide_eq_true this.1,this.2⟩
  obtain rfl:R=4:=by rw[HR.out,M2 (by rw[q0];simp),M3 q1]
  have J:=HZ _ hb;clear q0 q1;go_wp2_with (refine yX 32 (.tmp 2) (.tmp 16) z (Qa Qf Qg) J ?_);refine yq2 (.tuple #[.agg (Qa Qf Qg),.int .i64 4]) (k:=2) (u:=3) (J.row _) underlying32 ?_;exact aj _ _ (by decide) hb
 by_cases q0:r=0;rotate_left
 ·obtain rfl:R=r:=by rw[HR.out,M3 q0]
  have q1:(R !=0)=true:=by simpa using q0
  have Q0:=yh q0;have J:=HZ _ hb;clear q0;go_wp2_with (refine yX 32 (.tmp 2) (.tmp 16) z (Qa Qf Qg) J ?_);refine yq2 (.tuple #[.agg (Qa Qf Qg),.int .i64 R]) (k:=2) (u:=3) (J.row _) underlying32 ?_;exact aj _ _ Q0 hb
 have ak:=yh (Zm (az.symm.trans q0))
 obtain rfl:R=0:=by
  have:=aa.symm;rw[J2 q0,Bool.true_and]at this;rw[HR.out,M2 (by rw[q0];simp),M2 (by rw[this];simp)]
 subst q0;have Q:=yh (al _ (am _ hb) ak);have aI:=hb.size;go_wp2_with (refine yV (.tmp 1) (HG _ hb) underlying32 ?_);refine Q.mono ?_;rintro e O ⟨F,rfl,aE,aw⟩;obtain⟨w0,b0,ac⟩:=aE;replace hb:=hb.trans (aw.mono hb.size);have ap:=ac.bel (Qi O (.cells (Qa x F) 162))
 have ai:w0.heap.size≤O.heap.size:=by obtain⟨_,_,a3,_⟩:=ac;exact a3
 have aL:W2.heap.size≤w0.heap.size:=by obtain⟨a1,a2,_⟩:=ac;omega
 have Q:=yh (ag w0 b0 F O.heap.size _ _ ap (Blk.new O (Qa x F) 162) ai ak);have W:=yh (hb.trans ((Qi O (.cells (Qa x F) 162)).mono hb.size));clear ac ap aw al ag hb;go_wp2_with fail;refine Q.mono ?_;rintro e Y ⟨rfl,aq,au,an⟩;have aH:=W.size;have hb:yw I Y:=W.trans (an.below (B:=I.heap.size) aH (fun k hk e=>by omega));have J:=HZ _ hb
 have aJ:O.heap.size<(O.alloc (.cells (Qa x F) 162)).heap.size:=by simp
 have aA:=yh aq;clear aq;have aB:=yh au;clear an au Q;go_wp2_with (first|(refine wpList_load_row rfl 32 (.tmp 26) rfl O.heap.size rfl 162 _ (0,0) _ aB underlying32 rfl (by kernel_rfl) ?_)|(refine yX 32 (.tmp 2) (.tmp 27) z (Qa U F) J ?_));refine yq2 (.tuple #[.agg (Qa U F),.int .i64 0]) (k:=2) (u:=3) (J.row _) underlying32 ?_;have ao:Kept (fun k=>k=z) Y (Y.setRow z (Qa U F)):=(yk z Y).setRow (.inl rfl) _;have ae:=((HT _ hb).trans (ao.below (B:=w.heap.size) (HT _ hb).size (fun k hk e=>by omega)));have aF:SaiO Y W2.heap.size U F:=⟨w0,b0,aA⟩;exact⟨⟨U,F,rfl,(Uf _).symm,(aF.kept ao (fun k hk e=>by omega)).mono (by omega)⟩,ae⟩
theorem Vob {y z:Sai}(F:y.ship=z.ship)(I:y.bks=z.bks):QX y=QX z:=by
 obtain⟨s,f,d,l,b,c⟩:=y;obtain⟨Q,E,D,J,b',A⟩:=z;simp only at F I;subst F I;have O:Zl ⟨s,f,d,l,b,c⟩=Zl ⟨s,E,D,J,b,A⟩:=Q2a (x:=⟨s,f,d,l,b,c⟩) (y:=⟨s,E,D,J,b,A⟩) (fun _=>rfl) (QI ⟨s,f,d,l,b,c⟩) 0;unfold QX;rw[O]
 rfl
theorem Uca (x:Sai)(day:Int)(b:Bkg):(Ua x day b).state=3:=by unfold Ua;split<;>rfl
theorem Yub (x:Sai)(day:Int)(b:Bkg):(Ua x day b).id=b.id:=by unfold Ua;split<;>rfl
theorem YA {x:Sai}{day:Int}{b:Bkg}(h:Xp day b=true):VK x day b=Ua x day b:=M3 h
theorem Qga {x:Sai}{day:Int}{b:Bkg}(h:Xp day b=false):VK x day b=b:=M2 (by rw[h];simp)
theorem Qnb (x:Sai)(day:Int)(b:Bkg):(VK x day b).id=b.id:=by
 rcases Bool.eq_false_or_eq_true (Xp day b)with h|h
 ·rw[YA h,Yub]
 ·rw[Qga h]
theorem ZFb {x:Sai}{day:Int}{b:Bkg}(h:QB (VK x day b)=true):VK x day b=b:=by
 rcases Bool.eq_false_or_eq_true (Xp day b)with q|q
 ·rw[YA q]at h;unfold QB at h;rw[Uca]at h;simp at h
 ·exact Qga q
theorem VBa (x:Sai)(day:Int):∀l:List Bkg,((l.map (VK x day)).filter QB).Sublist l
 | []=>List.Sublist.slnil
 | b::l=>by
  rw[List.map_cons,List.filter_cons]
  split
  ·next h=>rw[ZFb h];exact(VBa x day l).cons_cons b
  ·exact(VBa x day l).cons b
theorem VBb {x:Sai}{day:Int}(h:QD x=0):QX (UV x day)=0:=
 (Vob (y:=UV x day) (z:=ZC x (x.bks.map (VK x day))) rfl rfl).trans ((ZNa x _).symm.trans (Qab h (VBa x day x.bks)))
theorem Ytb {x:Sai}{day:Int}{X:Shp}{b:Bkg}(A:OkBk X b):OkBk X (VK x day b):=by
 rcases Bool.eq_false_or_eq_true (Xp day b)with q|q
 ·rw[YA q];unfold Ua
  split
  ·next h=>exact Z1b A h
  ·exact⟨A.kind,by show Qc 3 1 3=true;decide,A.id,A.gst,A.span,A.kindE,by show Qc 0 0 9999=true;decide,fun h=>absurd rfl h,A.fol⟩
 ·rw[Qga q];exact A
theorem ZGb {x:Sai}{day:Int}(h:QD x=0)(F:0≤day∧day≤9999):QD (UV x day)=0:=by
 have A:=Zm h;refine X9a (y:=UV x day) (X2 h).1 A.fares (Zg F.1 F.2) A.leaves (by show(x.bks.map _).length≤16;rw[List.length_map];exact A.bs.len) (fun b D=>?_) ?_ ?_ (VBb h)
 ·obtain⟨c,E,rfl⟩:=List.mem_map.1 D;exact Ucb (Ytb (A.bs.bk c E))
 ·refine VZ.2 (List.pairwise_map.2 ((VZ.1 (QP A.bs.rise)).imp fun {a b} hab=>?_));rw[Qnb,Qnb];exact hab
 ·refine List.any_eq_false.2 fun b D=>?_;obtain⟨c,E,rfl⟩:=List.mem_map.1 D;rcases Bool.eq_false_or_eq_true (Xp day c)with q|q
  ·rw[YA q];unfold Vj QB;rw[Uca];simp
  ·rw[Qga q];exact List.any_eq_false.1 A.bs.bad c E
theorem VCb {x:Sai}{day:Int}(h:Y4 x day=0):QD x=0∧(0≤day∧day≤9999)∧x.day<day:=by
 unfold Y4 at h;by_cases h0:QD x≠0
 ·rw[M3 h0]at h;exact absurd h h0
 rw[M2 h0]at h;by_cases h1:Qc day 0 9999=false
 ·rw[M3 h1]at h;omega
 rw[M2 h1]at h;by_cases h2:day≤x.day
 ·rw[M3 h2]at h;omega
 exact⟨Decidable.not_not.1 h0,Ql.1 (Ub h1),by omega⟩
theorem QMb {x:Sai}(h:XB x=0):QD x=0∧x.closed=false:=by
 unfold XB at h;by_cases h0:QD x≠0
 ·rw[M3 h0]at h;exact absurd h h0
 rw[M2 h0]at h;refine⟨Decidable.not_not.1 h0,?_⟩;cases hc:x.closed
 ·rfl
 ·rw[M3 hc]at h;omega
def QSc (K:World→Prop) (w w':World) (X:Sai) (e:Ending):Prop:=∃p',e=.returned (.agg (Qa X p'))∧∀V,K V→NewSame w w' V→SaiR V X p'
theorem YUa (x:Sai)(b:Bkg)(j:Nat):∀d,∃r,Uk x b (j+d)=Uk x b j++r
 | 0=>⟨[],by simp⟩
 | d+1=>by
  obtain⟨r,A⟩:=YUa x b j d;exact⟨_,by rw[show j+(d+1)=(j+d)+1 by omega,X9,A,List.append_assoc]⟩
theorem Xhb {x:Sai}{b:Bkg}{c m:Nat}{P:Int→Bool}(I:m=x.ship.cabs.length)(J:c<m)(D:(Uk x b c).find? P=none)(F:(Zi x.ship b c && QN x.bks c)=true)(E:P (c:Int)=true):(Uw x b).find? P=some (c:Int):=by
 obtain⟨r,A⟩:=YUa x b (c+1) (m-(c+1));rw[show c+1+(m-(c+1))=m by omega]at A;rw[Q8a,←I,A,X9,M3 F,List.append_assoc,List.find?_append,D];simp[E]
theorem Xla {x:Sai}{b:Bkg}{c:Nat}{P:Int→Bool}(A:(Uk x b c).find? P=none)(h:(Zi x.ship b c && QN x.bks c)=true→P (c:Int)=false):(Uk x b (c+1)).find? P=none:=by
 rw[X9,List.find?_append,A]
 split
 ·next he=>simp[h he]
 ·simp
theorem Utb (K:World→Prop)(x:Sai)(p:SaiV)(L:List (List Value))(w:World)(bH:∀V V',K V→yw V V'→K V')(aQ:∀V,K V→SaiR V x p)(bF:∀V,K V→Pts ZP V L x.bks)(aS:K w)(bJ:Sl (ZY 11) 11 w All p.C p.nb p.cb L)(ho:OkSai x) :
  Calls prog 132 #[.agg (Qa x p)] w fun e w'=>QSc K w w' (Xm x) e∧yw w w':=by
 have co:=yh (fun K Y D i b A3 n3 W Lk V J h2 h3 h4 h5 h6 h7 h8=>Yy K Y D i b A3 n3 W Lk V J h2 h3 h4 h5 h6 h7 h8);have hS:=aQ w aS;have af:=yh (show x.bks.length=p.nb from hS.bks.len)
 have bw:p.nb≤16:=by have:=ho.bs.len;have:=af.out;omega
 have HO:=yh ho;have ce:=yh bH;have cg:=yh aQ;have cf:=yh bF;have ax:=yh aS;have ch:=yh bJ;clear hS bH aQ bF aS bJ ho;go_enter func132,ntmps132;go_upto_region 0 with(fail);go_cut [1,2] (fun p1 p2 U=>∃g z,yp p1 g∧yp p2 z∧w.heap.size≤g∧w.heap.size≤z∧g≠z∧Blk U g (Qa x p) 32∧Blk U z M9 32∧yw w U)
 case first=>as_aux_lemma=>
  go_wp2_with fail;go_meet;exact⟨_,_,rfl,rfl,J5 _,by omega,by omega,QE _ _ _,QF _ _ _,Zo _ _ _⟩
 obtain⟨g,z,rfl,rfl,hg,hz,cD,hG,hZ,ai⟩:=hcut;obtain⟨W1,rfl⟩:=yE wc;have cW:=ai.size;have cK:=hG.lt;have cZ:=hZ.lt;have HT:=yh (fun X (hX:Kept (fun j=>j=g) W1 X)=>ai.trans (hX.below (B:=w.heap.size) ai.size (fun k hk e=>by omega)));have ao:=yh (fun X (hX:Kept (fun j=>j=g) W1 X)=>ce w X ax (HT X hX));have cu:=yh (fun X (hX:Kept (fun j=>j=g) W1 X)=>hZ.kept hX (fun e=>cD e.symm));have b9:=yh hG;have b3:=yh ai;clear hG hZ ai;go_wp2_with fail
 go_loopg [3] p.nb (fun gk iv wr=>∃(i:Nat) (D:SaiV) (Lk:List (List Value)) (Q:Nat→Prop),i≤p.nb∧p.nb-i≤gk∧iv=.int .i64 i∧Blk wr g (Qa x D) 32∧D.nb=p.nb∧Sl (ZY 11) 11 wr All D.C D.nb D.cb Lk∧(∀j,Q j→W1.heap.size≤j∧j<wr.heap.size)∧(∀V,K V→(∀j,Q j→V.heap[j]? = wr.heap[j]?)→SaiR V (Qy x i) D∧Pts ZP V Lk (Qy x i).bks)∧Kept (fun j=>j=g) W1 wr)
 case atStart=>exact⟨0,p,L,fun _=>False,M0 _,by omega,rfl,b9,rfl,ch.bel b3,fun j h=>h.elim,fun V F _=>⟨cg V F,cf V F⟩,Kept.refl _ _⟩
 case round=>
  obtain⟨i,D,Lk,Q,hi,cJ,rfl,hG,a5,aG,hQ,hI,hK⟩:=hrel;obtain⟨V1,rfl⟩:=yE wr;have cY:=hK.size;have hc:=Vq HO i (by have:=af.out;omega)
  have ah:V1.cell? ⟨g,11,none⟩=some (.slice D.C p.nb D.cb):=by rw[←a5];exact hG.cell rfl
  by_cases hlt:i<p.nb
  ·obtain⟨b,ba⟩:∃b,x.bks[i]? = some b:=⟨_,J1 (by have:=af.out;omega)⟩;have aV:(Qy x i).bks[i]? = some b:=hc.at.trans ba;obtain⟨E,I,cs,hA,bI,cE,bP⟩:=ZMa (k:=i) aG (by omega);obtain⟨A3,n3,W,rfl,bD,bT⟩:=Qda (K:=fun V=>K V∧∀j,Q j→V.heap[j]? = V1.heap[j]?) (fun V F=>(hI V F.1 F.2).2) bI aV ⟨ao _ hK,fun _ _=>rfl⟩;rw[hA]at ah;have cN:(0:Int)≤(i:Int):=Int.natCast_nonneg _
   have cO:(i:Int)<(p.nb:Int):=by omega
   obtain⟨op,a3⟩:=yE (QH b);have HC:=yh (fun X=>U0a b (.slice A3 n3 W) X);rw[←a3]at HC;have HM:=yh (show V1.rangeAt E (I+i*11) (Qk b (.slice A3 n3 W)).toList from bP);have ay:=yh a5;have HA:=yh hA;have ad:=yh bD;have b8:=yh bT;have bh:=yh hc;have cr:=yh ba;clear ba;have ar:=yh aV;clear aV;have ag:=yh a3;clear a3;have HG:=yh hG;clear hG;have bu:=yh aG;clear aG;have HQ:=yh hQ;clear hQ;have HI:=yh hI;clear hI;have HK:=yh hK;clear hK;clear a5 hA bI cE bP bD bT hc;go_wp2_with (refine wpList_load_mid rfl 63 (.tmp 19) rfl E (I+i*11) rfl (Qk b (.slice A3 n3 W)).toList _ HM underlying63 rfl (by kernel_rfl) ?_);refine yM (HC _) fun w2 aX=>?_;have am:=yh aX;have cF:=aX.size;clear ah aX HC;cases op
   ·have HE:=yh (show Qy x (i+1)=Qy x i from Ym ar ag.symm);go_wp2_with fail;go_roundg (p.nb-(i+1))
    case measure=>omega
    case rel=>exact⟨i+1,D,Lk,Q,by omega,by omega,by go_num,HG.bel am,ay,bu.bel am,fun j Z=>⟨(HQ j Z).1,by have:=(HQ j Z).2;omega⟩,fun V F hS=>by rw[HE.out];exact HI V F (fun j Z=>(hS j Z).trans (am.block j (HQ j Z).2)),HK.trans (Kept.of_below am (fun q J h2=>absurd J (by omega)))⟩
   obtain⟨W2,cC⟩:=yE w2;subst cC;obtain⟨Y,hY⟩:=yE (Qy x i);have ct:=yh hY;have aK:=HI.out;rw[←hY]at aK;have aa:=bh.out;have aH:=ar.out;rw[←hY]at aa aH;have aL:=yh aK;have ar:=yh aH;have c2:=yh aa;obtain⟨Pf,aU⟩:∃f:Int→Bool,f=fun c=>UB ((QI Y).length-1) (shE c (Zl Y)):=⟨_,rfl⟩;have bq:=yh aU;have bX:=aa.pick cr ag.symm
   have cj:=yh (show ∃c:Nat,(Uw Y b).find? Pf=some (c:Int)from by
    obtain⟨c,J,_⟩:=bX
    exact⟨c,by rw[aU];exact J⟩)
   have aj:=(aL V1 (ao _ HK) (fun _ _=>rfl)).1
   have a4:D.m=x.ship.cabs.length:=by have h:=aj.cabs.len;rw[aa.ship]at h;exact h.symm
   have cP:D.m≤12:=by have:=HO.bs.ship.cabs12;omega
   have aN:=yh a4;have cH:=yh (fun V (F:yw V1 V)=>aj.bel F);have aJ:=yh (fun V (F:yw V1 V)=>HG.bel F);have bb:=Zna HO.bs.ship aa.bk;have cp:=yh (fun(c:Nat) V (F:yw V1 V)=>YP (some ⟨E,I,none⟩) p.nb D.cb Y.bks (c:Int) V (by have h:=(aj.bel F).bks;rw[HA.out,ay.out]at h;exact h) bb);have b7:=yh (fun c:Nat=>Xka (c:=c) bb)
   have cq:=yh (show ∀c:Nat,c<D.m→ZZ Y.bks (c:Int)=true from fun c hc=>by
    have h:=(Zja aa.room).1;unfold Um at h;have:=List.any_eq_false.1 h c (List.mem_range.2 (by rw[aa.ship,←a4];exact hc))
    simpa using this)
   have aE:=aa.bk b (J6 aH);have b5:=yh (fun(c:Nat) V (F:yw V1 V) (hc:c<D.m)=>Xi x.ship D.A D.n D.cap D.B D.m D.cap2 b (.slice A3 n3 W) c V (by have h:=(aj.bel F).cats;rw[aa.ship]at h;exact h) (by have h:=(aj.bel F).cabs;rw[aa.ship]at h;exact h) HO.bs.ship hc (Zca aE ag.symm).1 (by have h:=(Zca aE ag.symm).2;have h2:=aj.cats.len;rw[aa.ship]at h2;omega));have bg:=yh aE
   have aq:=yh (show ∀V,yw V1 V→(fun w'=>(yI w' g 0 x.ship.legs∧yI w' g 1 x.ship.souls∧yJ w' g 2 D.A D.n D.cap∧yJ w' g 3 D.B D.m D.cap2∧yJ w' g 11 (some ⟨E,I,none⟩) p.nb D.cb)∧(yI w' E (I+i*11) b.id∧yI w' E (I+i*11+1) b.kind∧yI w' E (I+i*11+2) b.state∧yI w' E (I+i*11+3) b.gst∧w'.cell? ⟨E,I+i*11+4,none⟩=some (.bool b.lev)∧yI w' E (I+i*11+5) b.cab∧yI w' E (I+i*11+6) b.cat∧yI w' E (I+i*11+7) b.frm∧yI w' E (I+i*11+8) b.upto∧yI w' E (I+i*11+9) b.til∧yJ w' E (I+i*11+10) A3 n3 W)) V from fun V F=>by
    have c:=HG.bel F
    exact⟨⟨c.cell rfl,c.cell rfl,c.cell rfl,c.cell rfl,by rw[←ay.out,←HA.out];exact c.cell rfl⟩,⟨Qh F (HM.out 0 _ rfl),Qh F (HM.out 1 _ rfl),Qh F (HM.out 2 _ rfl),Qh F (HM.out 3 _ rfl),Qh F (HM.out 4 _ rfl),Qh F (HM.out 5 _ rfl),Qh F (HM.out 6 _ rfl),Qh F (HM.out 7 _ rfl),Qh F (HM.out 8 _ rfl),Qh F (HM.out 9 _ rfl),Qh F (HM.out 10 _ rfl)⟩⟩)
   clear hY aK aa aH aU bX aj a4 bb aE HI bh;go_wp2_with fail
   go_loopg [4] D.m (fun gk iv wr=>∃(c:Nat),c≤D.m∧D.m-c≤gk∧iv=.int .i64 c∧(Uk Y b c).find? Pf=none∧yw V1 wr)
   case atStart=>exact⟨0,M0 _,by omega,rfl,rfl,am⟩
   case round=>
    obtain⟨c,hc,cI,rfl,a2,hb⟩:=hrel;obtain⟨V2,rfl⟩:=yE wr;have g3:yJ V2 g 3 D.B D.m D.cap2:=(aJ _ hb).cell rfl;by_cases hlc:c<D.m
    ·have ah:yJ V2 g 11 (some ⟨E,I,none⟩) p.nb D.cb:=(aq _ hb).1.2.2.2.2;have bt:=yh (cp c V2 hb);have aM:=yh a2;have HB:=yh hb;clear hb;clear a2;go_wp2_with fail;refine bt.mono ?_;rintro e w5 ⟨v5,c0,rfl,bL,al⟩;obtain⟨A5,n5,c5,rfl,bZ⟩:=bL.sl Qz;have bV:(Una Y.bks (c:Int)).length=n5:=bZ.len;have bj:=yh (show QN Y.bks c=decide (n5=0)by rw[←b7.out c,cq.out c hlc,bV];rfl);have hb:=HB.trans (al.mono HB.size);clear al bL bZ bV g3 ah bt;obtain⟨V3,cB⟩:=yE w5;subst cB;have bc:=yh hb;clear hb;obtain⟨f,hf⟩:=yE (Zi x.ship b (c:Int));have bi:=yh (fun V F=>b5 c V F hlc);rw[←hf]at bi;have HF:=yh hf;clear hf;obtain⟨tv,b1⟩:=yE (!decide (n5=0) || !f);have aA:=yh b1;clear b1;go_upto_region 9 with(fail);go_cut [52] (fun q U=>q=.bool tv∧yw V1 U)
     case first=>
      have ac:=bc.drew;by_cases h5:n5=0
      ·have hv:tv = !f:=by rw[aA.out,J2 h5];rfl
       have HV:=yh hv;have cx:decide ((0:Int)<(n5:Int))=false:=J3 (by omega);have cy:decide (0<n5)=false:=J3 (by omega);clear h5 hv;refine yZ (S:=(fun w'=>(yI w' g 0 x.ship.legs∧yI w' g 1 x.ship.souls∧yJ w' g 2 D.A D.n D.cap∧yJ w' g 3 D.B D.m D.cap2∧yJ w' g 11 (some ⟨E,I,none⟩) p.nb D.cb)∧(yI w' E (I+i*11) b.id∧yI w' E (I+i*11+1) b.kind∧yI w' E (I+i*11+2) b.state∧yI w' E (I+i*11+3) b.gst∧w'.cell? ⟨E,I+i*11+4,none⟩=some (.bool b.lev)∧yI w' E (I+i*11+5) b.cab∧yI w' E (I+i*11+6) b.cat∧yI w' E (I+i*11+7) b.frm∧yI w' E (I+i*11+8) b.upto∧yI w' E (I+i*11+9) b.til∧yJ w' E (I+i*11+10) A3 n3 W))) (aq _ ac) fun bC=>?_;refine yT [0,1,2,3,4,5,6,7,8,9,10,11] ?_;iterate 12 (refine yS ?_;simp only[yU])
       refine yR 12 fun K hK=>?_;go_simp
       (go_at_call 147;refine yM (bi _ ac) fun w6 ab=>?_;replace ac:=ac.trans (ab.mono ac.size);clear ab)
       go_wp2_with fail;refine hK.out _ _ (aq _ ac) fun bC=>?_;clear hK K
       try simp only[yU]
       refine yT [13,14] ?_;iterate 2 (refine yS ?_;simp only[yU])
       refine yD ?_;go_wp2_with fail;go_meet;exact⟨by rw[HV.out],ac⟩
      ·have hv:tv=true:=by rw[aA.out,J3 h5];rfl
       have HV:=yh hv;have cx:decide ((0:Int)<(n5:Int))=true:=J2 (by omega);have cy:decide (0<n5)=true:=J2 (by omega);clear h5 hv;refine yZ (S:=(fun w'=>(yI w' g 0 x.ship.legs∧yI w' g 1 x.ship.souls∧yJ w' g 2 D.A D.n D.cap∧yJ w' g 3 D.B D.m D.cap2∧yJ w' g 11 (some ⟨E,I,none⟩) p.nb D.cb)∧(yI w' E (I+i*11) b.id∧yI w' E (I+i*11+1) b.kind∧yI w' E (I+i*11+2) b.state∧yI w' E (I+i*11+3) b.gst∧w'.cell? ⟨E,I+i*11+4,none⟩=some (.bool b.lev)∧yI w' E (I+i*11+5) b.cab∧yI w' E (I+i*11+6) b.cat∧yI w' E (I+i*11+7) b.frm∧yI w' E (I+i*11+8) b.upto∧yI w' E (I+i*11+9) b.til∧yJ w' E (I+i*11+10) A3 n3 W))) (aq _ ac) fun bC=>?_;refine yT [0,1,2,3] ?_;iterate 4 (refine yS ?_;simp only[yU])
       refine wpAnyH_take (i:=4) (v:=undef) (gA rfl) (by kernel_rfl) (by kernel_rfl) (by kernel_rfl) (fun _ _ _ h=>h) (Or.inr ⟨rfl,rfl⟩) (by assumption) ?_;simp only[yU];refine wpAnyH_take (i:=5) (v:=undef) (gA rfl) (by kernel_rfl) (by kernel_rfl) (by kernel_rfl) (fun _ _ _ h=>h) (Or.inr ⟨rfl,rfl⟩) (by assumption) ?_;simp only[yU];refine wpAnyH_take (i:=6) (v:=undef) (gA rfl) (by kernel_rfl) (by kernel_rfl) (by kernel_rfl) (fun _ _ _ h=>h) (Or.inr ⟨rfl,rfl⟩) (by assumption) ?_;simp only[yU];refine wpAnyH_take (i:=7) (v:=undef) (gA rfl) (by kernel_rfl) (by kernel_rfl) (by kernel_rfl) (fun _ _ _ h=>h) (Or.inr ⟨rfl,rfl⟩) (by assumption) ?_;simp only[yU];refine wpAnyH_take (i:=8) (v:=undef) (gA rfl) (by kernel_rfl) (by kernel_rfl) (by kernel_rfl) (fun _ _ _ h=>h) (Or.inr ⟨rfl,rfl⟩) (by assumption) ?_;simp only[yU];refine wpAnyH_take (i:=9) (v:=undef) (gA rfl) (by kernel_rfl) (by kernel_rfl) (by kernel_rfl) (fun _ _ _ h=>h) (Or.inr ⟨rfl,rfl⟩) (by assumption) ?_;simp only[yU];refine wpAnyH_take (i:=10) (v:=undef) (gA rfl) (by kernel_rfl) (by kernel_rfl) (by kernel_rfl) (fun _ _ _ h=>h) (Or.inr ⟨rfl,rfl⟩) (by assumption) ?_;simp only[yU];refine wpAnyH_take (i:=11) (v:=undef) (gA rfl) (by kernel_rfl) (by kernel_rfl) (by kernel_rfl) (fun _ _ _ h=>h) (Or.inr ⟨rfl,rfl⟩) (by assumption) ?_;simp only[yU];refine wpAnyH_take (i:=12) (v:=undef) (gA rfl) (by kernel_rfl) (by kernel_rfl) (by kernel_rfl) (fun _ _ _ h=>h) (Or.inr ⟨rfl,rfl⟩) (by assumption) ?_;simp only[yU];refine wpAnyH_take (i:=13) (v:=undef) (gA rfl) (by kernel_rfl) (by kernel_rfl) (by kernel_rfl) (fun _ _ _ h=>h) (Or.inr ⟨rfl,rfl⟩) (by assumption) ?_;simp only[yU];refine yT [14] ?_;iterate 1 (refine yS ?_;simp only[yU])
       refine yD ?_;go_wp2_with fail;go_meet;exact⟨by rw[HV.out],ac⟩
     obtain⟨rfl,aY⟩:=hcut;obtain⟨V4,rfl⟩:=yE wc;have cQ:=aY.size;have an:=yh aY;clear aY bc HB;have bm:=yh (show Zi Y.ship b (c:Int)=f by rw[c2.out.ship];exact HF.symm);cases tv;rotate_left
     ·have bW:¬(Zi Y.ship b (c:Int) && QN Y.bks c)=true:=by
       rw[bm.out,bj.out];intro h;rw[Bool.and_eq_true]at h;have J:=aA.out;rw[h.1,h.2]at J;exact absurd J (by decide)
      have HN:=yh (Xla aM (fun h=>absurd h bW));clear bW;go_wp2_with fail;go_roundg (D.m-(c+1))
      case measure=>omega
      case rel=>exact⟨c+1,by omega,by omega,by go_num,HN,an⟩
     obtain⟨bU,bR⟩:f=true∧QN Y.bks c=true:=by
      rw[bj.out];have J:=Bool.or_eq_false_iff.1 aA.symm;exact⟨by simpa using J.2,by simpa using J.1⟩
     have bn:=yh bU;have bl:=yh bR;clear bU bR;have ah:yJ V4 g 11 (some ⟨E,I,none⟩) p.nb D.cb:=(aq _ an).1.2.2.2.2;have bp:=yh (show V4.rangeAt E (I+i*11) (Qk b (.slice A3 n3 W)).toList from fun j u hu=>Qh an (HM j u hu));go_upto_region 10 with(fail);go_cut [7] (fun p U=>∃h,yp p h∧V4.heap.size≤h∧Blk U h (Qk b (.slice A3 n3 W)) 63∧yw V4 U)
     case first=>
      go_wp2_with (first|(refine wpList_load_mid rfl 63 (.tmp 56) rfl E (I+i*11) rfl (Qk b (.slice A3 n3 W)).toList _ bp underlying63 rfl (by kernel_rfl) ?_)|(refine wpList_store_row rfl 63 (.tmp 7) (.tmp 57) rfl V4.heap.size (Qk b (.slice A3 n3 W)) rfl rfl 63 _ (Blk.new V4 M8 63) (by kernel_rfl) rfl (Ud _ _ _ _) ?_));go_meet;exact⟨_,rfl,J5 _,(Blk.new V4 _ _).row _,M5 (Qi V4 _) (J5 _) _⟩
     obtain⟨h,rfl,hh,hH,al⟩:=hcut;obtain⟨V5,rfl⟩:=yE wc;have cS:=al.size;have cM:=hH.lt;have h5:yI V5 h 5 b.cab:=hH.cell rfl;have f5:=hH.free 5;have HH:=yh hH;clear hH;have bd:=yh (an.trans (al.mono an.size));clear al ah bp;go_upto_region 11 with(fail);go_cut [] (fun U=>Blk U h (Qk (QK b (c:Int)) (.slice A3 n3 W)) 63∧Kept (fun k=>k=h) V5 U)
     case first=>as_aux_lemma=>
      go_wp2_with fail;go_meet;exact⟨HH.set (j:=5) _,VX V5 h [(5,.int .i64 (c:Int))]⟩
     obtain⟨bB,bE⟩:=hcut;obtain⟨V6,rfl⟩:=yE wc;have ab:yw V1 V6:=bd.trans (bE.below (B:=V1.heap.size) bd.size (fun k hk e=>by omega));have cR:=ab.size;have be:=yh ab;have aO:Kept (fun j=>j=g) W1 V6:=HK.trans (Kept.of_below ab (fun q J h2=>absurd J (by omega)));have cG:=yh aO;have bK:BkIn (QK b (c:Int)):=⟨ad.id,ad.kind,ad.state,ad.gst,show InI (c:Int)from .of (by omega) (by omega),ad.cat,ad.frm,ad.upto,ad.til⟩;have HC:=yh (co (fun V=>K V∧∀j,Q j→V.heap[j]? = V1.heap[j]?) Y D i (QK b (c:Int)) A3 n3 W Lk V6 (fun V F=>(aL V F.1 F.2).1) (fun V F=>(aL V F.1 F.2).2) (fun V F=>b8 V F) ⟨ao _ aO,fun j Z=>ab.block j (HQ j Z).2⟩ (bu.bel ab) bK (by rw[c2.out.len,af.out];exact hlt) (by rw[c2.out.len,af.out];exact bw));rw[Zka c2.out D]at HC;have aI:=yh (aJ _ ab);have cL:=aI.lt;have bo:=yh bB;clear bB bE ab aO bK h5 f5 HH;go_upto_region 12 with(fail);go_cut [8] (fun v U=>∃s q O,yp v s∧Blk U s (Qa x O) 32∧V6.heap.size≤q∧q<U.heap.size∧O.nb=D.nb∧(∀X,(K X∧∀j,Q j→X.heap[j]? = V1.heap[j]?)→X.heap[q]? = U.heap[q]?→SaiR X (QT Y i (QK b (c:Int))) O∧Pts ZP X (Lk.set i (Qk (QK b (c:Int)) (.slice A3 n3 W)).toList) (Y.bks.set i (QK b (c:Int)))∧Sl (ZY 11) 11 X All O.C O.nb O.cb (Lk.set i (Qk (QK b (c:Int)) (.slice A3 n3 W)).toList))∧yw V6 U)
     case first=>
      go_wp2_with (first|(refine yV (.tmp 1) aI underlying32 ?_)|(refine yV (.tmp 7) bo underlying63 ?_));refine HC.mono ?_;rintro e w7 ⟨q,O,he,bY,aF,ak,au,_,bO⟩;rw[show Qa (QT Y i (QK b (c:Int))) O=Qa x O from Zka c2.out O]at he;subst he;have cm:=yh ak;have bf:=yh bO;have ck:=yh au;clear HC ak bO au;go_wp2_with (refine yX 32 (.tmp 8) (.tmp 63) w7.heap.size (Qa x O) (Blk.new w7 M9 32) ?_);go_meet;have a0:yw w7 ((w7.alloc (.cells M9 32)).setRow w7.heap.size (Qa x O)):=M5 (Qi w7 _) (J5 _) _;exact⟨_,q,O,rfl,(Blk.new w7 _ _).row _,bY,Nat.lt_of_lt_of_le aF a0.size,ck,fun X hX hq=>cm X hX (hq.trans (a0.block q aF)),bf.trans (a0.mono bf.size)⟩
     obtain⟨s,q,O,rfl,bN,bY,aF,au,ak,aZ⟩:=hcut;obtain⟨V8,rfl⟩:=yE wc;have cT:=aZ.size;have aD:=be.trans (aZ.mono be.size);have aP:Kept (fun j=>j=g) W1 V8:=HK.trans (Kept.of_below aD (fun q J h2=>absurd J (by omega)));have b0:=(ak V8 ⟨ao _ aP,fun j Z=>aD.block j (HQ j Z).2⟩ rfl).1;obtain⟨rm,a7⟩:=yE (QX (QT Y i (QK b (c:Int))))
     have ap:=yh (Yg (QT Y i (QK b (c:Int))) O V8 b0 (by show OkShp Y.ship;rw[c2.out.ship];exact HO.bs.ship) (fun d hd=>by
      show OkBk Y.ship d
      rw[c2.out.ship];rcases Yr hd with J|rfl
      ·exact c2.bk d J
      ·exact Xsa bg ag.symm (by rw[←aN.out];exact hlc) (by rw[←HF.out];exact bn)) (by show(Y.bks.set i (QK b (c:Int))).length≤16;rw[List.length_set,c2.out.len,af.out];exact bw))
     rw[show Qa (QT Y i (QK b (c:Int))) O=Qa x O from Zka c2.out O,←a7]at ap
     have a8:rm=if Pf (c:Int)=true then 0 else 9:=by
      rw[a7,Ugb (by rw[c2.out.ship];exact HO.out.bs.ship) (by rw[c2.out.ship];exact bg.out) c2.out.room ar.out c2.out.none ag.out.symm bl.out,bq.out]
     obtain⟨pv,a6⟩:=yE (Pf (c:Int));rw[←a6]at a8;have br:=yh a6;have az:=yh bN;have av:=yh aD;have bv:=yh ak;have cl:=yh au;have cc:=yh aP
     have bx:(Zi Y.ship b (c:Int) && QN Y.bks c)=true:=by rw[bm.out,bn.out,bl.out];rfl
     have b6:=yh bx;clear bN aD ak au aP b0 a7 aZ a6 aI bo HC bx;cases pv
     ·obtain rfl:rm=9:=a8;have HN:=yh (Xla aM (fun _=>br.symm));go_wp2_with (refine yV (.tmp 8) az underlying32 ?_);refine yM ap fun w9 ae=>?_;have aw:=yh (av.trans (ae.mono av.size));clear ae ap;go_wp2_with fail;go_roundg (D.m-(c+1))
      case measure=>omega
      case rel=>exact⟨c+1,by omega,by omega,by go_num,HN,aw⟩
     obtain rfl:rm=0:=a8;have a1:=Xhb (show D.m=Y.ship.cabs.length by rw[c2.out.ship];exact aN) hlc aM b6 br.symm
     have ci:=yh (show Qy x (i+1)=QT Y i (QK b (c:Int))from by
      show XA (Qy x i) i=_
      rw[←ct.out]
      exact Yl ar ag.symm (by unfold Xza;rw[bq.out]at a1;exact a1))
     clear a1;go_wp2_with (refine yV (.tmp 8) az underlying32 ?_);refine yM ap fun w9 ae=>?_;have cU:=ae.size;have cn:=yh (az.bel ae);have aW:=av.trans (ae.mono av.size);have bA:=aJ _ aW;have aw:=yh ae;have b4:=yh aW;clear ae aW ap az;go_wp2_with (first|(refine yV (.tmp 8) cn underlying32 ?_)|(refine yX 32 (.tmp 1) (.tmp 67) g (Qa x O) bA ?_));go_roundg (p.nb-(i+1))
     case measure=>omega
     case rel=>
      obtain⟨wE,a9⟩:=yE (w9.setRow g (Qa x O))
      have aC:Kept (fun j=>j=g) w9 wE:=by rw[a9];exact(yk g w9).setRow (.inl rfl) _
      have cz:Blk wE g (Qa x O) 32:=by rw[a9];exact bA.row _
      rw[←a9];have cV:=aC.size;have bG:Kept (fun j=>j=g) W1 wE:=cc.trans ((Kept.of_below aw (fun q J h2=>absurd J (by omega))).trans aC)
      have bM:∀V:World,(∀j,Q j∨j=q→V.heap[j]? = wE.heap[j]?)→(∀j,Q j→V.heap[j]? = V1.heap[j]?)∧V.heap[q]? = V8.heap[q]?:=fun V hS=>⟨fun j Z=>by
        have J:=HQ j Z
        exact(hS j (.inl Z)).trans ((aC.block j (by omega) (by omega)).trans (b4.block j J.2)),(hS q (.inr rfl)).trans ((aC.block q (by omega) (by omega)).trans (aw.block q aF))⟩
      have hE:=bM wE (fun _ _=>rfl);have cA:=bv wE ⟨ao _ bG,hE.1⟩ hE.2;refine⟨i+1,O,_,fun j=>Q j∨j=q,by omega,by omega,by go_num,cz,cl.trans ay,cA.2.2,fun j Z=>?_,fun V F hS=>?_,bG⟩
      ·rcases Z with J|rfl
       ·have:=HQ j J;exact⟨this.1,by omega⟩
       ·exact⟨by omega,by omega⟩
      ·have h9:=bM V hS;rw[ci.out];have:=bv V ⟨F,h9.1⟩ h9.2;exact⟨this.1,this.2.1⟩
    ·obtain rfl:c=D.m:=by omega
     obtain⟨c,bQ⟩:=cj.out;rw[Q8a,show Y.ship.cabs.length=D.m by rw[c2.out.ship];exact aN.out.symm,a2]at bQ;cases bQ
  ·obtain rfl:i=p.nb:=by omega
   have bS:Qy x p.nb=Qy x x.bks.length:=by rw[af.out]
   rw[bS]at hI;have ai:=hK;have cv:=hG.free 12;have cw:V1.cell? ⟨g,12,none⟩=some (.bool x.closed):=hG.cell rfl;have HG:=yh hG;have HI:=yh hI;have HQ:=yh hQ;have HK:=yh hK;clear hG hI hQ hK ai aG hc bS;go_upto_region 15 with(fail);go_cut [] (fun U=>Blk U g (Qa { x with closed:=true } D) 32∧Kept (fun j=>j=g) V1 U)
   case first=>as_aux_lemma=>
    go_wp2_with fail;go_meet;exact⟨HG.set (j:=12) _,VX V1 g [(12,.bool true)]⟩
   obtain⟨bz,aB⟩:=hcut;obtain⟨V2,rfl⟩:=yE wc;have cF:=aB.size;have aR:=HK.trans aB;have b2:=cu _ aR;have ca:=yh bz;have cd:=yh aB;have ax:=yh aR;clear bz aB aR ah cw cv;go_wp2_with (first|(refine yV (.tmp 1) ca underlying32 ?_)|(refine yX 32 (.tmp 2) (.tmp 69) z (Qa { x with closed:=true } D) b2 ?_));refine yq (.agg (Qa { x with closed:=true } D)) (k:=2) (b2.row _) underlying32 ?_;have aT:Kept (fun j=>j=z) V2 (V2.setRow z (Qa { x with closed:=true } D)):=(yk z V2).setRow (.inl rfl) _;have cX:=aT.size;refine⟨⟨D,by rw[Vna HO.out],fun V F hN=>?_⟩,?_⟩
   ·have h:=(HI V F (fun j Z=>by
     have J:=HQ j Z
     exact(hN j (by omega) (by omega)).trans ((aT.block j (by omega) (by omega)).trans (cd.block j J.2 (by omega))))).1
    exact⟨h.cats,h.cabs,h.fares,h.bks⟩
   ·exact(HT _ ax).trans (aT.below (B:=w.heap.size) (HT _ ax).size (fun k hk e=>by omega))
end Go.Proofs.YtjdcokpmgionjaaGreat
