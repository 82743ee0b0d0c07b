/-
  Words, laws and contracts: SellK.
-/
import Derived.Test.YtjdcokpmgionjaaGreatBun23
import Derived.BigQuiet
set_option linter.unusedSimpArgs false
set_option linter.unusedVariables false
set_option maxRecDepth 100000
set_option maxHeartbeats 20000000
namespace Go.Proofs.YtjdcokpmgionjaaGreat
open Go.RowKit Go.Shelf
theorem Quc (l:List Bkg)(t:Int):Zya l t (ZG l t):=fun q b F A=>by
 have I:=(List.getElem?_eq_some_iff.1 A).1;have h:=List.not_of_lt_findIdx (p:=fun b:Bkg=>decide (t≤b.id)) (xs:=l) F;have E:=(List.getElem?_eq_some_iff.1 A).2;rw[E]at h
 have D:b.id < t:=by simpa using h
 exact D
theorem XJb {l:List Bkg}(I:Xe l)(t:Int):Vy l t (ZG l t):=fun q c Q A=>by
 have O:=(List.getElem?_eq_some_iff.1 A).1
 have D:ZG l t < l.length:=by omega
 have h:=List.findIdx_getElem (p:=fun b:Bkg=>decide (t≤b.id)) (xs:=l) (w:=D);have E:=of_decide_eq_true h
 rcases Nat.lt_or_ge (ZG l t) q with F | F
 ·have:=I _ _ _ _ F (List.getElem?_eq_getElem D) A
  have J:t≤(l[ZG l t]'D).id:=E;omega
 ·obtain rfl:q=ZG l t:=by omega
  rw[List.getElem?_eq_getElem D]at A
  injection A with A
  rw[←A];exact E
theorem ZVb {l:List Bkg}(I:Xe l){t:Int}(E:ZI l t=false):∀(q:Nat) (c:Bkg),ZG l t≤q→l[q]? = some c→t < c.id:=fun q c F A=>by
 have J:=XJb I t q c F A;have D:=List.any_eq_false.1 E c (List.mem_of_getElem? A);simp only[decide_eq_true_eq]at D;omega
theorem XNb {l:List Bkg}{b:Bkg}(F:Xe l)(J:ZI l b.id=false):Xe (XM l b):=by
 rw[Vp];have O:=Vp.1 F;unfold XM;rw[List.pairwise_append,List.pairwise_cons];refine⟨O.sublist (List.take_sublist _ _),⟨fun c A=>?_,O.sublist (List.drop_sublist _ _)⟩,fun a U c A=>?_⟩
 ·obtain⟨q,E⟩:=List.getElem?_of_mem A
  rw[List.getElem?_drop]at E;exact ZVb F J _ c (by omega) E
 ·obtain⟨i,D⟩:=List.getElem?_of_mem U
  rw[List.getElem?_take]at D
  have I:i < ZG l b.id:=by
   by_cases h:i < ZG l b.id
   ·exact h
   ·rw[if_neg h]at D;cases D
  rw[if_pos I]at D;have Q:=Quc l b.id i a I D
  rcases List.mem_cons.1 A with rfl | A
  ·exact Q
  ·obtain⟨q,E⟩:=List.getElem?_of_mem A
   rw[List.getElem?_drop]at E;have:=ZVb F J _ c (by omega) E;omega
theorem Q8c {x:Sai}{b:Bkg}(F:Qp x=0)(U:ofE x.ship b=0)(Z:ZI x.bks b.id=false)(hl:x.bks.length < 16)(V:UG x.closed b=false)(hr:QQ (QN x b)=0):Qp (QN x b)=0:=by
 have E:=Ze F;have aa:=Yeb (Xi F).2;have ab:=XNb (Zc E.bs.rise) Z;have ac:=ZZb x.bks b
 have W:Vc (QN x b)=0:=by
  unfold Vc
  have X:Qh (Ua (QN x b)) (QN x b).bks.length=0:=VQ fun i Y=>by
   have J:i < (XM x.bks b).length:=Y;have A:=List.getElem?_eq_getElem J;rw[XD (x:=QN x b) A]
   have O:ofE (QN x b).ship ((XM x.bks b)[i])=0:=by
    show ofE x.ship _=0
    rcases XIa (List.getElem_mem J)with h | h
    ·rw[h];exact U
    ·obtain⟨q,hq⟩:=List.getElem?_of_mem h
     exact aa q _ hq
   rw[O,if_neg (by simp),if_neg];rintro⟨h1,D⟩
   have I:i - 1 < (XM x.bks b).length:=by omega
   have h4:=ab (i - 1) i _ _ (by omega) (List.getElem?_eq_getElem I) A
   have Q:((QN x b).bks.getD (i - 1) default)=(XM x.bks b)[i - 1]:=by
    show(XM x.bks b).getD (i - 1) default=_
    rw[List.getD_eq_getElem?_getD,List.getElem?_eq_getElem I];rfl
   rw[Q]at D;omega
  rw[if_neg (by show ¬16 < (XM x.bks b).length;omega),X,if_neg (by simp),if_neg];intro h;obtain⟨c,A,D⟩:=List.any_eq_true.1 h
  rcases XIa A with rfl | A
  ·rw[show(QN x c).closed=x.closed from rfl,V]at D;cases D
  ·have:=List.any_eq_false.1 E.bs.bad c A
   exact this D
 have hs:ZJ x.ship=0:=(Xi F).1;unfold Qp;rw[show(QN x b).ship=x.ship from rfl,hs,if_neg (by simp),show(QN x b).fares=x.fares from rfl,E.fares,if_neg (by simp),show(QN x b).day=x.day from rfl,show(QN x b).leaves=x.leaves from rfl,E.day,E.leaves,if_neg (by simp),W,if_neg (by simp),hr]
 rfl
theorem U8a {x:Sai}{b:Bkg}{k:Int}(h:Us x b k=0):Qp x=0∧b.fol=[]∧ZI x.bks b.id=false∧Qp (U5 x b)=0:=by
 unfold Us at h
 by_cases h0:Qp x=0
 ·rw[if_neg (by simp[h0])]at h
  unfold XVa at h
  by_cases h1:b.kind≠k∨b.state=3
  ·rw[if_pos h1]at h;omega
  rw[if_neg h1]at h
  by_cases h2:0 < b.fol.length∨k=2∧b.cab≠-1
  ·rw[if_pos h2]at h;omega
  rw[if_neg h2]at h
  by_cases h3:ofE x.ship b=0
  ·rw[if_neg (by simp[h3])]at h
   unfold XPa at h
   by_cases h4:QNc x b=true
   ·rw[if_pos h4]at h;omega
   rw[if_neg h4]at h
   by_cases h5:ZI x.bks b.id=true
   ·rw[if_pos h5]at h;omega
   rw[if_neg h5]at h
   by_cases h6:x.bks.length=16
   ·rw[if_pos h6]at h;omega
   rw[if_neg h6]at h
   have A:ZI x.bks b.id=false:=by cases q:ZI x.bks b.id;rfl;exact absurd q h5
   have D:=Ze h0;have I:b.fol=[]:=List.eq_nil_of_length_eq_zero (by omega);have O:=Unb D (UAa h3);refine⟨h0,I,A,Q8c h0 ?_ A (by have:=D.bs.len;omega) ?_ h⟩
   ·have:=QGc (x:=x.ship) (b:=b) (f:=(U6 x b).fol) (UAa h3).fol O.fol
    rw[h3]at this;exact this
   ·simp only[not_or,not_and]at h1 h2
    unfold QNc at h4;unfold UG
    by_cases hk:b.kind=2
    ·have J:k=2:=by omega
     have E:b.cab=-1:=by have:=h2.2 J;omega
     have F:x.closed=false:=by
      cases q:x.closed
      ·rfl
      ·rw[q,decide_eq_true hk]at h4;simp at h4
     show(decide (b.kind=2) && (Qy (U6 x b) && (decide (b.cab < 0) == x.closed)))=false
     rw[F,E]
     simp
    ·show(decide (b.kind=2) && _)=false
     rw[decide_eq_false hk];rfl
  ·rw[if_pos h3]at h;exact absurd h h3
 ·rw[if_pos h0]at h;exact absurd h h0
end Go.Proofs.YtjdcokpmgionjaaGreat
