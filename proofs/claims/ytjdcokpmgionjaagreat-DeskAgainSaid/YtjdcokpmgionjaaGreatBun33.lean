/-
  Words, laws and contracts: ChgJ.
-/
import Derived.Test.YtjdcokpmgionjaaGreatBun24
import Derived.Test.YtjdcokpmgionjaaGreatBun26
import Derived.Test.YtjdcokpmgionjaaGreatBun30
import Derived.BigQuiet
set_option linter.unusedSimpArgs false
set_option linter.unusedVariables false
set_option maxRecDepth 100000
set_option maxHeartbeats 20000000
namespace Go.Proofs.YtjdcokpmgionjaaGreat
open Go.RowKit Go.Shelf
theorem XUa {y:Sai}(E:ZJ y.ship=0)(F:Zq y.fares y.ship.cats.length y.ship.legs=0)(I:Qc y.day 0 9999=true)(J:Qc y.leaves 0 9999=true)(h5:y.bks.length≤16)(O:∀b∈y.bks,ofE y.ship b=0)(Q:Xe y.bks)
  (U:y.bks.any (UG y.closed)=false) (V:QQ y=0):Qp y=0:=by
 have W:Vc y=0:=by
  unfold Vc
  rw[if_neg (by omega),show Qh (Ua y) y.bks.length=0 from VQ fun i A=>by
   have D:y.bks[i]? = some y.bks[i]:=List.getElem?_eq_getElem A;rw[XD D,O _ (List.getElem_mem A),if_neg (by simp),if_neg];rintro⟨Z,X⟩
   have Y:y.bks.getD (i - 1) default=y.bks[i - 1]'(by omega):=by rw[List.getD_eq_getElem?_getD,List.getElem?_eq_getElem (by omega)];rfl
   rw[Y]at X;have:=Q (i - 1) i _ _ (by omega) (List.getElem?_eq_getElem (by omega)) D;omega,if_neg (by simp),if_neg (by rw[U];simp)]
 unfold Qp;rw[E,if_neg (by simp),F,if_neg (by simp),if_neg (by rw[I,J];simp),W,if_neg (by simp),V]
 rfl
def Ui (b:Bkg):Bkg:={ b with state:=if Qy b=true then 1 else 3,til:=0,fol:=[] }
theorem UQa (b:Bkg):Qy (Ui b)=Qy b:=by
 unfold Ui
 cases h:Qy b<;>simp[Qy]
theorem ZXb (c:Int)(b:Bkg):Uv c (Ui b)=Uv c b:=by unfold Uv;rw[UQa];rfl
theorem XPb (b:Bkg):QI (Ui b)=QI b:=by unfold QI;rw[UQa];rfl
theorem QYc (l:List Bkg)(c:Int):spL (l.map Ui) c=spL l c:=by
 induction l with
 | nil=>rfl
 | cons b l ih=>
  unfold spL at ih ⊢;rw[List.map_cons,List.filter_cons,List.filter_cons,ZXb]
  split
  ·rw[List.map_cons,List.map_cons,ih];rfl
  ·exact ih
theorem VJb (l:List Bkg)(k:Nat):Z4 (l.map Ui) k=Z4 l k:=by
 unfold Z4;rw[List.map_map]
 congr 1
 refine List.map_congr_left fun b _=>?_
 show(if Qy (Ui b)=true∧b.frm≤k∧(k:Int) < b.upto then b.gst else 0)=_
 rw[UQa]
theorem QRb (l:List Bkg)(c:Nat):QR (l.map Ui) c=QR l c:=by
 unfold QR;rw[List.any_map]
 congr 2
 funext b
 exact ZXb c b
theorem XUb (x:Sai)(l:List Bkg)(b:Bkg):Uj (Zr x (l.map Ui)) (Ui b)=Uj (Zr x l) b:=by
 unfold Uj
 show((List.range x.ship.cabs.length).filter (fun c:Nat=>Zp x.ship (Ui b) (c:Int) && QR (l.map Ui) c)).map Int.ofNat=((List.range x.ship.cabs.length).filter (fun c:Nat=>Zp x.ship b (c:Int) && QR l c)).map Int.ofNat
 congr 2
 funext c
 rw[QRb];rfl
theorem Xaa (x:Sai)(l:List Bkg):QJ (Zr x (l.map Ui))=(QJ (Zr x l)).map Ui:=by
 unfold QJ
 show(l.map Ui).filter QI=(l.filter QI).map Ui
 rw[List.filter_map]
 congr 2
 funext b
 exact XPb b
theorem Yva (x:Sai)(l:List Bkg):∀(m:List Bkg) (i:Nat),Zs (Zr x (l.map Ui)) (m.map Ui) i=Zs (Zr x l) m i
 | [],_=>rfl
 | b::m,i=>by rw[List.map_cons,Zs,Zs,XUb,Yva x l m (i+1)]
theorem YMb (l:List Bkg)(c:Int):ZK (l.map Ui) c=ZK l c:=by unfold ZK;rw[QYc]
theorem Y3a (x:Sai)(l:List Bkg):QQ (Zr x (l.map Ui))=QQ (Zr x l):=by
 have A:ZV (Zr x (l.map Ui))=ZV (Zr x l):=by
  unfold ZV
  show((List.range x.ship.cabs.length).any fun c=>!ZK (l.map Ui) (c:Int))=((List.range x.ship.cabs.length).any fun c=>!ZK l (c:Int))
  congr 1
  funext c
  rw[YMb]
 have D:QM (l.map Ui) x.ship.legs.toNat=QM l x.ship.legs.toNat:=by
  unfold QM
  exact List.map_congr_left fun k _=>VJb l k
 have E:Z5 (Zr x (l.map Ui))=Z5 (Zr x l):=by
  unfold Z5;rw[Xaa,List.map_map]
  rfl
 have F:Zd (Zr x (l.map Ui))=Zd (Zr x l):=by
  unfold Zd;rw[Xaa,Yva]
 unfold QQ;rw[A,E,F]
 show(if _ then _ else if x.ship.souls < mx (QM (l.map Ui) x.ship.legs.toNat)then _ else _)=(if _ then _ else if x.ship.souls < mx (QM l x.ship.legs.toNat)then _ else _)
 rw[D]
theorem XIb (c:Int)(b:Bkg):(Uv c b && Qy b)=Uv c b:=by unfold Uv;cases Qy b<;>simp
theorem YFb (l:List Bkg)(c:Int):spL (l.filter Qy) c=spL l c:=by
 unfold spL;rw[List.filter_filter]
 congr 2
 funext b
 exact XIb c b
theorem Zqb (l:List Bkg)(k:Nat):Z4 (l.filter Qy) k=Z4 l k:=by
 unfold Z4
 induction l with
 | nil=>rfl
 | cons b l ih=>
  rw[List.filter_cons]
  split
  ·rw[List.map_cons,List.map_cons,List.sum_cons,List.sum_cons,ih]
  ·next h=>rw[List.map_cons,List.sum_cons,ih,if_neg (fun A=>h A.1)];omega
theorem Ywa (l:List Bkg)(c:Nat):QR (l.filter Qy) c=QR l c:=by
 unfold QR;rw[List.any_filter]
 congr 2
 funext b
 unfold Uv
 cases Qy b<;>simp
theorem UWa (x:Sai)(l:List Bkg):QJ (Zr x (l.filter Qy))=QJ (Zr x l):=by
 unfold QJ
 show(l.filter Qy).filter QI=l.filter QI
 rw[List.filter_filter]
 congr 1
 funext b
 unfold QI
 cases Qy b<;>simp
theorem Vgb (x:Sai)(l:List Bkg)(b:Bkg):Uj (Zr x (l.filter Qy)) b=Uj (Zr x l) b:=by
 unfold Uj
 show((List.range x.ship.cabs.length).filter (fun c:Nat=>Zp x.ship b (c:Int) && QR (l.filter Qy) c)).map Int.ofNat=((List.range x.ship.cabs.length).filter (fun c:Nat=>Zp x.ship b (c:Int) && QR l c)).map Int.ofNat
 congr 2
 funext c
 rw[Ywa]
theorem QEa {x y:Sai}(A:∀b,Uj x b=Uj y b):∀(l:List Bkg) (i:Nat),Zs x l i=Zs y l i
 | [],_=>rfl
 | b::l,i=>by rw[Zs,Zs,A,QEa A l (i+1)]
theorem Zqa (x:Sai)(l:List Bkg):QQ (Zr x (l.filter Qy))=QQ (Zr x l):=by
 have A:ZV (Zr x (l.filter Qy))=ZV (Zr x l):=by
  unfold ZV
  show((List.range x.ship.cabs.length).any fun c=>!ZK (l.filter Qy) (c:Int))=((List.range x.ship.cabs.length).any fun c=>!ZK l (c:Int))
  congr 1
  funext c
  unfold ZK;rw[YFb]
 have D:QM (l.filter Qy) x.ship.legs.toNat=QM l x.ship.legs.toNat:=by
  unfold QM
  exact List.map_congr_left fun k _=>Zqb l k
 have E:Z5 (Zr x (l.filter Qy))=Z5 (Zr x l):=by
  unfold Z5;rw[UWa]
 have F:Zd (Zr x (l.filter Qy))=Zd (Zr x l):=by
  unfold Zd;rw[UWa,QEa (Vgb x l)]
 unfold QQ;rw[A,E,F]
 show(if _ then _ else if x.ship.souls < mx (QM (l.filter Qy) x.ship.legs.toNat)then _ else _)=(if _ then _ else if x.ship.souls < mx (QM l x.ship.legs.toNat)then _ else _)
 rw[D]
theorem Y5a {x:Sai}{l:List Bkg}(h:Qp x=0)(A:l.Sublist x.bks):QQ (Zr x l)=0:=(Ze (Yub h A (Y8b A (Z4a (Ze h).room).2.2))).room
theorem Ugb {X:Shp}{b:Bkg}(h:OkBk X b):ofE X b=0:=by
 unfold ofE;rw[if_neg (by rw[h.kind,h.state];simp),if_neg (by rw[h.id,Qj.2 h.gst];simp),if_neg (by rw[h.span];simp),if_neg (by rw[h.kindE];simp),if_neg (by rw[h.til];simp),if_neg (fun A=>A.2 (h.opt A.1))];exact h.fol
theorem Y8 {l:List Bkg}{k:Nat}{b c:Bkg}(h:c∈l.set k b):c∈l∨c=b:=List.mem_or_eq_of_mem_set h
theorem XWa {x:Sai}{k:Nat}{b b':Bkg}(h:Qp x=0)(F:x.bks[k]? = some b)(J:b'.id=b.id)(O:OkBk x.ship b')(I:UG x.closed b'=false)(Q:QQ (Zx x k b')=0):Qp (Zx x k b')=0:=by
 have D:=Ze h;refine XUa (Xi h).1 D.fares D.day D.leaves (by show(x.bks.set k b').length≤16;rw[List.length_set];exact D.bs.len) (fun c E=>?_) (Yqb (Zc D.bs.rise) F J) ?_ Q
 ·rcases Y8 E with A | A
  ·exact Ugb (D.bs.bk c A)
  ·rw[A];exact Ugb O
 ·refine List.any_eq_false.2 fun c E=>?_
  rcases Y8 E with A | A
  ·exact List.any_eq_false.1 D.bs.bad c A
  ·rw[A];show ¬UG x.closed b'=true;rw[I];simp
theorem QUc {l:List Bkg}{k:Nat}{b b':Bkg}(A:l[k]? = some b)(h:Ui b'=Ui b):(l.set k b').map Ui=l.map Ui:=by
 rw[List.map_set,h]
 refine List.ext_getElem? fun i=>?_
 by_cases hi:i=k
 ·subst hi
  have D:=(List.getElem?_eq_some_iff.1 A).1;rw[List.getElem?_set_self (by rw[List.length_map];exact D),List.getElem?_map,A];rfl
 ·rw[List.getElem?_set_ne (fun e=>hi e.symm)]
theorem Y4a {x:Sai}{k:Nat}{b b':Bkg}(h:Qp x=0)(D:x.bks[k]? = some b)(E:Ui b'=Ui b):QQ (Zx x k b')=0:=by
 have A:=Y3a x (x.bks.set k b');rw[QUc D E,Y3a]at A;exact A.symm.trans (Ze h).room
theorem YCa {l:List Bkg}{k:Nat}{b b':Bkg}(A:l[k]? = some b)(h:Qy b'=false):(l.set k b').filter Qy=(Z0b l k).filter Qy:=by
 have D:=(List.getElem?_eq_some_iff.1 A).1;rw[List.set_eq_take_append_cons_drop,if_pos D,List.filter_append,List.filter_cons,if_neg (by rw[h];simp)];unfold Z0b;rw[List.filter_append]
theorem VAb {x:Sai}{k:Nat}{b b':Bkg}(h:Qp x=0)(D:x.bks[k]? = some b)(E:Qy b'=false):QQ (Zx x k b')=0:=by
 have A:=Zqa x (x.bks.set k b');rw[YCa D E,Zqa]at A;exact A.symm.trans (Y5a h (XTb x.bks k))
theorem ZIb {c:Bool}{b b':Bkg}(A:b'.kind=b.kind)(D:Qy b'=Qy b)(E:b'.cab=b.cab):UG c b'=UG c b:=by unfold UG;rw[A,D,E]
section
variable {x:Sai} {t:Int}
theorem Zvb (h:Yz x t=0):Qp (YA x t)=0∧∃(k:Nat) (b b':Bkg),x.bks[k]? = some b∧b.id=t∧b'.id=t∧YA x t=Zx x k b'∧Qp x=0:=by
 unfold Yz chE Xza at h
 by_cases A:Qp x≠0
 ·rw[if_pos A]at h;exact absurd h A
 rw[if_neg A]at h
 by_cases hl:Vd x t=true
 rotate_left
 ·rw[if_neg hl]at h;omega
 rw[if_pos hl]at h;have A:=Decidable.not_not.1 A;have F:=Ze A;obtain⟨b,E,I,V,W,X,O⟩:=Vn (Zc F.bs.rise) hl;unfold YA;rw[O]at h ⊢;unfold Qjb at h
 have U:b.state=1:=by
  by_cases hs:b.state=1
  ·exact hs
  ·rw[if_neg hs]at h;omega
 have D:=F.bs.bk b (List.mem_of_getElem? E)
 have J:Qy (Xma b)=Qy b:=by unfold Qy Xma;simp[U]
 refine⟨XWa A E rfl ⟨D.kind,show Qc (2:Int) 1 3=true by decide,D.id,D.gst,D.span,D.kindE,show Qc (0:Int) 0 9999=true by decide,fun Q=>absurd rfl Q,D.fol⟩ ?_ (Y4a A E ?_),_,b,Xma b,E,I,I,rfl,A⟩
 ·exact(ZIb (c:=x.closed) (b:=b) (b':=Xma b) rfl J rfl).trans (by simpa using List.any_eq_false.1 F.bs.bad b (List.mem_of_getElem? E))
 ·unfold Ui
  rw[J]
  rfl
theorem Zfb {a:Int}(h:Yr x t a=0):Qp (Ys x t a)=0∧∃(k:Nat) (b b':Bkg),x.bks[k]? = some b∧b.id=t∧b'.id=t∧Ys x t a=Zx x k b'∧Qp x=0:=by
 unfold Yr chE Xza at h
 by_cases A:Qp x≠0
 ·rw[if_pos A]at h;exact absurd h A
 rw[if_neg A]at h
 by_cases hl:Vd x t=true
 rotate_left
 ·rw[if_neg hl]at h;omega
 rw[if_pos hl]at h;have A:=Decidable.not_not.1 A;have F:=Ze A;obtain⟨b,E,I,Q,U,V,J⟩:=Vn (Zc F.bs.rise) hl;unfold Ys;rw[J]at h ⊢
 have O:Qe (UYa x b a).fol=0:=by
  unfold YVa at h
  by_cases q1:Qc a 1 100000000=false
  ·rw[if_pos q1]at h;omega
  rw[if_neg q1]at h
  by_cases q2:ZR b.fol < a
  ·rw[if_pos q2]at h;omega
  rw[if_neg q2]at h;exact h
 have D:=F.bs.bk b (List.mem_of_getElem? E);refine⟨XWa A E rfl ⟨D.kind,D.state,D.id,D.gst,D.span,D.kindE,D.til,D.opt,O⟩ ?_ (Y4a A E rfl),_,b,UYa x b a,E,I,I,rfl,A⟩;exact(ZIb (c:=x.closed) (b:=b) (b':=UYa x b a) rfl rfl rfl).trans (by simpa using List.any_eq_false.1 F.bs.bad b (List.mem_of_getElem? E))
theorem ZUb {X:Shp}{b:Bkg}{day:Int}(A:OkBk X b)(h:Vf x b day=0):OkBk X (Yk x b day):=by
 have D:Qe (Yk x b day).fol=0:=by
  unfold Vf at h
  by_cases q:b.state=2∧100000000 < Zz b.fol
  ·rw[if_pos q]at h;omega
  ·rw[if_neg q]at h;exact h
 exact⟨A.kind,show Qc (3:Int) 1 3=true by decide,A.id,A.gst,A.span,A.kindE,show Qc (0:Int) 0 9999=true by decide,fun E=>absurd rfl E,D⟩
theorem QWb (h:Yl x t=0):Qp (Ym x t)=0∧∃(k:Nat) (b b':Bkg),x.bks[k]? = some b∧b.id=t∧b'.id=t∧Ym x t=Zx x k b'∧Qp x=0:=by
 unfold Yl chE Xza at h
 by_cases A:Qp x≠0
 ·rw[if_pos A]at h;exact absurd h A
 rw[if_neg A]at h
 by_cases hl:Vd x t=true
 rotate_left
 ·rw[if_neg hl]at h;omega
 rw[if_pos hl]at h;have A:=Decidable.not_not.1 A;have I:=Ze A;obtain⟨b,D,E,Q,U,V,J⟩:=Vn (Zc I.bs.rise) hl;unfold Ym;rw[J]at h ⊢;have O:=I.bs.bk b (List.mem_of_getElem? D)
 have F:Qy (Yk x b x.day)=false:=by unfold Qy Yk;simp
 exact⟨XWa A D rfl (ZUb O h) (by unfold UG;rw[F];simp) (VAb A D F),_,b,Yk x b x.day,D,E,E,rfl,A⟩
theorem Q6b {c:Int}(h:Yo x t c=0):Qp (Yp x t c)=0∧∃(k:Nat) (b b':Bkg),x.bks[k]? = some b∧b.id=t∧b'.id=t∧Yp x t c=Zx x k b'∧Qp x=0:=by
 unfold Yo chE Xza at h
 by_cases A:Qp x≠0
 ·rw[if_pos A]at h;exact absurd h A
 rw[if_neg A]at h
 by_cases hl:Vd x t=true
 rotate_left
 ·rw[if_neg hl]at h;omega
 rw[if_pos hl]at h;have A:=Decidable.not_not.1 A;have F:=Ze A;obtain⟨b,D,E,O,Q,U,I⟩:=Vn (Zc F.bs.rise) hl;unfold Yp;rw[I]at h ⊢;unfold YMa at h
 by_cases q1:b.cab < 0
 ·rw[if_pos q1]at h;omega
 rw[if_neg q1]at h
 by_cases q2:c < 0∨(x.ship.cabs.length:Int)≤c
 ·rw[if_pos q2]at h;omega
 rw[if_neg q2]at h
 by_cases q3:c=b.cab
 ·rw[if_pos q3]at h;omega
 rw[if_neg q3]at h
 by_cases q4:ofE x.ship (Q3 b c)≠0
 ·rw[if_pos q4]at h;exact absurd h q4
 rw[if_neg q4]at h;refine⟨XWa A D rfl (UAa (Decidable.not_not.1 q4)) ?_ h,_,b,Q3 b c,D,E,E,rfl,A⟩
 have J:UG x.closed b=false:=by simpa using List.any_eq_false.1 F.bs.bad b (List.mem_of_getElem? D)
 refine Eq.trans ?_ J;unfold UG Q3
 show(decide (b.kind=2) && (Qy b && (decide (c < 0) == x.closed)))=_
 rw[decide_eq_false q1,decide_eq_false (show ¬c < 0 by omega)]
end
end Go.Proofs.YtjdcokpmgionjaaGreat
