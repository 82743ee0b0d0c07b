/-
  Laws and contracts.
-/
import Derived.Test.YtjdcokpmgionjaaGreatBun20
import Derived.Test.YtjdcokpmgionjaaGreatBun23
import Derived.BigQuiet
set_option linter.unusedSimpArgs false
set_option linter.unusedVariables false
set_option maxRecDepth 100000
set_option maxHeartbeats 20000000
namespace Go.Proofs.YtjdcokpmgionjaaGreat
open Proofs.Tryz Go.RowKit Go.Shelf
theorem XHa {y:Sai}(E:Z0 y.ship=0)(F:ZC y.fares y.ship.cats.length y.ship.legs=0)(I:Qd y.day 0 9999=true)(J:Qd y.leaves 0 9999=true)(h5:y.bks.length≤16)(O:∀b∈y.bks,ofE y.ship b=0)(Q:VR y.bks)
  (U:y.bks.any (U1 y.closed)=false) (V:QV y=0):QG y=0:=by
 have W:Xh y=0:=by
  unfold Xh
  rw[M2 (by omega),show Qn (UW y) y.bks.length=0 from Xl fun i A=>by
   have D:y.bks[i]? = some y.bks[i]:=J1 A;rw[XW D,O _ (List.getElem_mem A),M2 (by simp),M2];rintro⟨Z,X⟩
   have Y:y.bks.getD (i - 1) default=y.bks[i - 1]'(by omega):=by rw[J7,J1 (by omega)];rfl
   rw[Y]at X;have:=Q (i - 1) i _ _ (by omega) (J1 (by omega)) D
   omega,M2 (by simp),M2 (by rw[U];simp)]
 unfold QG;rw[E,M2 (by simp),F,M2 (by simp),M2 (by rw[I,J];simp),W,M2 (by simp),V]
 rfl
def Uz (b:Bkg):Bkg:={ b with state:=if Qx b=true then 1 else 3,til:=0,fol:=[] }
theorem Ura (b:Bkg):Qx (Uz b)=Qx b:=by
 unfold Uz;cases h:Qx b<;>simp[Qx]
theorem Zrb (c:Int)(b:Bkg):UK c (Uz b)=UK c b:=by unfold UK;rw[Ura];rfl
theorem VPb (b:Bkg):QE (Uz b)=QE b:=by unfold QE;rw[Ura];rfl
theorem YXb (l:List Bkg)(c:Int):spL (l.map Uz) c=spL l c:=by
 induction l with
 | nil=>rfl
 | cons b l ih=>
  unfold spL at ih ⊢;rw[List.map_cons,List.filter_cons,List.filter_cons,Zrb]
  split
  ·rw[List.map_cons,List.map_cons,ih];rfl
  ·exact ih
theorem UPb (l:List Bkg)(k:Nat):Ui (l.map Uz) k=Ui l k:=by
 unfold Ui;rw[List.map_map]
 congr 1
 refine List.map_congr_left fun b _=>?_
 show(if Qx (Uz b)=true∧b.frm≤k∧(k:Int) < b.upto then b.gst else 0)=_
 rw[Ura]
theorem Qob (l:List Bkg)(c:Nat):QL (l.map Uz) c=QL l c:=by
 unfold QL;rw[List.any_map]
 congr 2
 funext b
 exact Zrb c b
theorem VVb (x:Sai)(l:List Bkg)(b:Bkg):Um (Zw x (l.map Uz)) (Uz b)=Um (Zw x l) b:=by
 unfold Um
 show((List.range x.ship.cabs.length).filter (fun c:Nat=>Zd x.ship (Uz b) (c:Int) && QL (l.map Uz) c)).map Int.ofNat=((List.range x.ship.cabs.length).filter (fun c:Nat=>Zd x.ship b (c:Int) && QL l c)).map Int.ofNat
 congr 2
 funext c
 rw[Qob];rfl
theorem VYa (x:Sai)(l:List Bkg):QF (Zw x (l.map Uz))=(QF (Zw x l)).map Uz:=by
 unfold QF
 show(l.map Uz).filter QE=(l.filter QE).map Uz
 rw[List.filter_map]
 congr 2
 funext b
 exact VPb b
theorem Yfa (x:Sai)(l:List Bkg):∀(m:List Bkg) (i:Nat),Zx (Zw x (l.map Uz)) (m.map Uz) i=Zx (Zw x l) m i
 | [],_=>rfl
 | b::m,i=>by rw[List.map_cons,Zx,Zx,VVb,Yfa x l m (i+1)]
theorem XJb (l:List Bkg)(c:Int):ZN (l.map Uz) c=ZN l c:=by unfold ZN;rw[YXb]
theorem YHa (x:Sai)(l:List Bkg):QV (Zw x (l.map Uz))=QV (Zw x l):=by
 have A:Ue (Zw x (l.map Uz))=Ue (Zw x l):=by
  unfold Ue
  show((List.range x.ship.cabs.length).any fun c=>!ZN (l.map Uz) (c:Int))=((List.range x.ship.cabs.length).any fun c=>!ZN l (c:Int))
  congr 1
  funext c
  rw[XJb]
 have D:QS (l.map Uz) x.ship.legs.toNat=QS l x.ship.legs.toNat:=by
  unfold QS;exact List.map_congr_left fun k _=>UPb l k
 have E:Ur (Zw x (l.map Uz))=Ur (Zw x l):=by
  unfold Ur;rw[VYa,List.map_map]
  rfl
 have F:Zh (Zw x (l.map Uz))=Zh (Zw x l):=by
  unfold Zh;rw[VYa,Yfa]
 unfold QV;rw[A,E,F]
 show(if _ then _ else if x.ship.souls < mx (QS (l.map Uz) x.ship.legs.toNat)then _ else _)=(if _ then _ else if x.ship.souls < mx (QS l x.ship.legs.toNat)then _ else _)
 rw[D]
theorem VJb (c:Int)(b:Bkg):(UK c b && Qx b)=UK c b:=by unfold UK;cases Qx b<;>simp
theorem XDb (l:List Bkg)(c:Int):spL (l.filter Qx) c=spL l c:=by
 unfold spL;rw[List.filter_filter]
 congr 2
 funext b
 exact VJb c b
theorem QUb (l:List Bkg)(k:Nat):Ui (l.filter Qx) k=Ui l k:=by
 unfold Ui
 induction l with
 | nil=>rfl
 | cons b l ih=>
  rw[List.filter_cons]
  split
  ·rw[List.map_cons,List.map_cons,List.sum_cons,List.sum_cons,ih]
  ·next h=>rw[List.map_cons,List.sum_cons,ih,M2 (fun A=>h A.1)];omega
theorem Yga (l:List Bkg)(c:Nat):QL (l.filter Qx) c=QL l c:=by
 unfold QL;rw[List.any_filter]
 congr 2
 funext b
 unfold UK;cases Qx b<;>simp
theorem Uya (x:Sai)(l:List Bkg):QF (Zw x (l.filter Qx))=QF (Zw x l):=by
 unfold QF
 show(l.filter Qx).filter QE=l.filter QE
 rw[List.filter_filter]
 congr 1
 funext b
 unfold QE;cases Qx b<;>simp
theorem Uqb (x:Sai)(l:List Bkg)(b:Bkg):Um (Zw x (l.filter Qx)) b=Um (Zw x l) b:=by
 unfold Um
 show((List.range x.ship.cabs.length).filter (fun c:Nat=>Zd x.ship b (c:Int) && QL (l.filter Qx) c)).map Int.ofNat=((List.range x.ship.cabs.length).filter (fun c:Nat=>Zd x.ship b (c:Int) && QL l c)).map Int.ofNat
 congr 2
 funext c
 rw[Yga]
theorem QBa {x y:Sai}(A:∀b,Um x b=Um y b):∀(l:List Bkg) (i:Nat),Zx x l i=Zx y l i
 | [],_=>rfl
 | b::l,i=>by rw[Zx,Zx,A,QBa A l (i+1)]
theorem Zna (x:Sai)(l:List Bkg):QV (Zw x (l.filter Qx))=QV (Zw x l):=by
 have A:Ue (Zw x (l.filter Qx))=Ue (Zw x l):=by
  unfold Ue
  show((List.range x.ship.cabs.length).any fun c=>!ZN (l.filter Qx) (c:Int))=((List.range x.ship.cabs.length).any fun c=>!ZN l (c:Int))
  congr 1
  funext c
  unfold ZN;rw[XDb]
 have D:QS (l.filter Qx) x.ship.legs.toNat=QS l x.ship.legs.toNat:=by
  unfold QS;exact List.map_congr_left fun k _=>QUb l k
 have E:Ur (Zw x (l.filter Qx))=Ur (Zw x l):=by
  unfold Ur;rw[Uya]
 have F:Zh (Zw x (l.filter Qx))=Zh (Zw x l):=by
  unfold Zh;rw[Uya,QBa (Uqb x l)]
 unfold QV;rw[A,E,F]
 show(if _ then _ else if x.ship.souls < mx (QS (l.filter Qx) x.ship.legs.toNat)then _ else _)=(if _ then _ else if x.ship.souls < mx (QS l x.ship.legs.toNat)then _ else _)
 rw[D]
theorem YJa {x:Sai}{l:List Bkg}(h:QG x=0)(A:l.Sublist x.bks):QV (Zw x l)=0:=(Zj (Xsb h A (X7b A (QVa (Zj h).room).2.2))).room
theorem ZBb {X:Shp}{b:Bkg}(h:OkBk X b):ofE X b=0:=by
 unfold ofE;rw[M2 (by rw[h.kind,h.state];simp),M2 (by rw[h.id,Qm.2 h.gst];simp),M2 (by rw[h.span];simp),M2 (by rw[h.kindE];simp),M2 (by rw[h.til];simp),M2 (fun A=>A.2 (h.opt A.1))];exact h.fol
theorem X5 {l:List Bkg}{k:Nat}{b c:Bkg}(h:c∈l.set k b):c∈l∨c=b:=List.mem_or_eq_of_mem_set h
theorem XJa {x:Sai}{k:Nat}{b b':Bkg}(h:QG x=0)(F:x.bks[k]? = some b)(J:b'.id=b.id)(O:OkBk x.ship b')(I:U1 x.closed b'=false)(Q:QV (QR x k b')=0):QG (QR x k b')=0:=by
 have D:=Zj h;refine XHa (XH h).1 D.fares D.day D.leaves (by show(x.bks.set k b').length≤16;rw[List.length_set];exact D.bs.len) (fun c E=>?_) (Xpb (QN D.bs.rise) F J) ?_ Q
 ·rcases X5 E with A | A
  ·exact ZBb (D.bs.bk c A)
  ·rw[A];exact ZBb O
 ·refine List.any_eq_false.2 fun c E=>?_;rcases X5 E with A | A
  ·exact List.any_eq_false.1 D.bs.bad c A
  ·rw[A];show ¬U1 x.closed b'=true;rw[I];simp
theorem YRb {l:List Bkg}{k:Nat}{b b':Bkg}(A:l[k]? = some b)(h:Uz b'=Uz b):(l.set k b').map Uz=l.map Uz:=by
 rw[List.map_set,h];refine List.ext_getElem? fun i=>?_;by_cases hi:i=k
 ·subst hi;have D:=(J0.1 A).1;rw[List.getElem?_set_self (by rw[List.length_map];exact D),List.getElem?_map,A];rfl
 ·rw[List.getElem?_set_ne (fun e=>hi e.symm)]
theorem YIa {x:Sai}{k:Nat}{b b':Bkg}(h:QG x=0)(D:x.bks[k]? = some b)(E:Uz b'=Uz b):QV (QR x k b')=0:=by
 have A:=YHa x (x.bks.set k b');rw[YRb D E,YHa]at A;exact A.symm.trans (Zj h).room
theorem Yla {l:List Bkg}{k:Nat}{b b':Bkg}(A:l[k]? = some b)(h:Qx b'=false):(l.set k b').filter Qx=(Ztb l k).filter Qx:=by
 have D:=(J0.1 A).1;rw[List.set_eq_take_append_cons_drop,M3 D,List.filter_append,List.filter_cons,M2 (by rw[h];simp)];unfold Ztb;rw[List.filter_append]
theorem UIb {x:Sai}{k:Nat}{b b':Bkg}(h:QG x=0)(D:x.bks[k]? = some b)(E:Qx b'=false):QV (QR x k b')=0:=by
 have A:=Zna x (x.bks.set k b');rw[Yla D E,Zna]at A;exact A.symm.trans (YJa h (VSb x.bks k))
theorem Zfb {c:Bool}{b b':Bkg}(A:b'.kind=b.kind)(D:Qx b'=Qx b)(E:b'.cab=b.cab):U1 c b'=U1 c b:=by unfold U1;rw[A,D,E]
section
variable {x:Sai} {t:Int}
theorem Q2b (h:Zta x t=0):QG (Y6 x t)=0∧∃(k:Nat) (b b':Bkg),x.bks[k]? = some b∧b.id=t∧b'.id=t∧Y6 x t=QR x k b'∧QG x=0:=by
 unfold Zta chE Yu at h;by_cases A:QG x≠0
 ·rw[M3 A]at h;exact absurd h A
 rw[M2 A]at h;by_cases hl:ZB x t=true;rotate_left
 ·rw[M2 hl]at h;omega
 rw[M3 hl]at h;have A:=Decidable.not_not.1 A;have F:=Zj A;obtain⟨b,E,I,V,W,X,O⟩:=Us (QN F.bs.rise) hl;unfold Y6;rw[O]at h ⊢;unfold Q2a at h
 have U:b.state=1:=by
  by_cases hs:b.state=1
  ·exact hs
  ·rw[M2 hs]at h;omega
 have D:=F.bs.bk b (J6 E)
 have J:Qx (Yf b)=Qx b:=by unfold Qx Yf;simp[U]
 refine⟨XJa A E rfl ⟨D.kind,show Qd (2:Int) 1 3=true by decide,D.id,D.gst,D.span,D.kindE,show Qd (0:Int) 0 9999=true by decide,fun Q=>absurd rfl Q,D.fol⟩ ?_ (YIa A E ?_),_,b,Yf b,E,I,I,rfl,A⟩
 ·exact(Zfb (c:=x.closed) (b:=b) (b':=Yf b) rfl J rfl).trans (by simpa using List.any_eq_false.1 F.bs.bad b (J6 E))
 ·unfold Uz;rw[J]
  rfl
theorem QMb {a:Int}(h:Zka x t a=0):QG (Y4 x t a)=0∧∃(k:Nat) (b b':Bkg),x.bks[k]? = some b∧b.id=t∧b'.id=t∧Y4 x t a=QR x k b'∧QG x=0:=by
 unfold Zka chE Yu at h;by_cases A:QG x≠0
 ·rw[M3 A]at h;exact absurd h A
 rw[M2 A]at h;by_cases hl:ZB x t=true;rotate_left
 ·rw[M2 hl]at h;omega
 rw[M3 hl]at h;have A:=Decidable.not_not.1 A;have F:=Zj A;obtain⟨b,E,I,Q,U,V,J⟩:=Us (QN F.bs.rise) hl;unfold Y4;rw[J]at h ⊢
 have O:Qe (ZGa x b a).fol=0:=by
  unfold QPa at h;by_cases q1:Qd a 1 100000000=false
  ·rw[M3 q1]at h;omega
  rw[M2 q1]at h;by_cases q2:Zt b.fol < a
  ·rw[M3 q2]at h;omega
  rw[M2 q2]at h;exact h
 have D:=F.bs.bk b (J6 E);refine⟨XJa A E rfl ⟨D.kind,D.state,D.id,D.gst,D.span,D.kindE,D.til,D.opt,O⟩ ?_ (YIa A E rfl),_,b,ZGa x b a,E,I,I,rfl,A⟩;exact(Zfb (c:=x.closed) (b:=b) (b':=ZGa x b a) rfl rfl rfl).trans (by simpa using List.any_eq_false.1 F.bs.bad b (J6 E))
theorem Zpb {X:Shp}{b:Bkg}{day:Int}(A:OkBk X b)(h:ZL x b day=0):OkBk X (Vz x b day):=by
 have D:Qe (Vz x b day).fol=0:=by
  unfold ZL at h;by_cases q:b.state=2∧100000000 < QT b.fol
  ·rw[M3 q]at h;omega
  ·rw[M2 q]at h;exact h
 exact⟨A.kind,show Qd (3:Int) 1 3=true by decide,A.id,A.gst,A.span,A.kindE,show Qd (0:Int) 0 9999=true by decide,fun E=>absurd rfl E,D⟩
theorem Qsb (h:Zea x t=0):QG (Y2 x t)=0∧∃(k:Nat) (b b':Bkg),x.bks[k]? = some b∧b.id=t∧b'.id=t∧Y2 x t=QR x k b'∧QG x=0:=by
 unfold Zea chE Yu at h;by_cases A:QG x≠0
 ·rw[M3 A]at h;exact absurd h A
 rw[M2 A]at h;by_cases hl:ZB x t=true;rotate_left
 ·rw[M2 hl]at h;omega
 rw[M3 hl]at h;have A:=Decidable.not_not.1 A;have I:=Zj A;obtain⟨b,D,E,Q,U,V,J⟩:=Us (QN I.bs.rise) hl;unfold Y2;rw[J]at h ⊢;have O:=I.bs.bk b (J6 D)
 have F:Qx (Vz x b x.day)=false:=by unfold Qx Vz;simp
 exact⟨XJa A D rfl (Zpb O h) (by unfold U1;rw[F];simp) (UIb A D F),_,b,Vz x b x.day,D,E,E,rfl,A⟩
theorem QBb {c:Int}(h:Zia x t c=0):QG (Y3 x t c)=0∧∃(k:Nat) (b b':Bkg),x.bks[k]? = some b∧b.id=t∧b'.id=t∧Y3 x t c=QR x k b'∧QG x=0:=by
 unfold Zia chE Yu at h;by_cases A:QG x≠0
 ·rw[M3 A]at h;exact absurd h A
 rw[M2 A]at h;by_cases hl:ZB x t=true;rotate_left
 ·rw[M2 hl]at h;omega
 rw[M3 hl]at h;have A:=Decidable.not_not.1 A;have F:=Zj A;obtain⟨b,D,E,O,Q,U,I⟩:=Us (QN F.bs.rise) hl;unfold Y3;rw[I]at h ⊢;unfold QJa at h;by_cases q1:b.cab < 0
 ·rw[M3 q1]at h;omega
 rw[M2 q1]at h;by_cases q2:c < 0∨(x.ship.cabs.length:Int)≤c
 ·rw[M3 q2]at h;omega
 rw[M2 q2]at h;by_cases q3:c=b.cab
 ·rw[M3 q3]at h;omega
 rw[M2 q3]at h;by_cases q4:ofE x.ship (QI b c)≠0
 ·rw[M3 q4]at h;exact absurd h q4
 rw[M2 q4]at h;refine⟨XJa A D rfl (Zya (Decidable.not_not.1 q4)) ?_ h,_,b,QI b c,D,E,E,rfl,A⟩
 have J:U1 x.closed b=false:=by simpa using List.any_eq_false.1 F.bs.bad b (J6 D)
 refine Eq.trans ?_ J;unfold U1 QI
 show(decide (b.kind=2) && (Qx b && (decide (c < 0) == x.closed)))=_
 rw[J3 q1,J3 (show ¬c < 0 by omega)]
end
end Go.Proofs.YtjdcokpmgionjaaGreat
