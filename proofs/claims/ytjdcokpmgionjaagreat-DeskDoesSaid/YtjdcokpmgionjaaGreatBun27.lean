/-
  Laws and contracts.
-/
import Derived.Test.YtjdcokpmgionjaaGreatBun25
import Derived.Test.YtjdcokpmgionjaaGreatBun26
import Derived.BigQuiet
set_option linter.unusedSimpArgs false
set_option linter.unusedVariables false
set_option maxRecDepth 100000
set_option maxHeartbeats 20000000
namespace Go.Proofs.YtjdcokpmgionjaaGreat
open Proofs.Tryz Go.RowKit Go.Shelf
def shE (c:Int) (l:List Edg):List Edg:=(l.filter (fun e=>decide (0 < e.lft) && !decide (e.rgt=c))).map (fun e=>⟨e.lft - 1,e.rgt⟩)
theorem Z4a (c:Int)(l m:List Edg):shE c (l++m)=shE c l++shE c m:=by unfold shE;rw[List.filter_append,List.map_append]
theorem Xyb (c:Int)(l:List Int):shE c (toE 0 l)=[]:=by
 unfold shE toE
 rw[List.filter_eq_nil_iff.2 (fun e A=>by
  obtain⟨d,_,rfl⟩:=List.mem_map.1 A
  simp)]
 rfl
theorem ZGb (c:Int)(i:Nat):∀l:List Int,shE c (toE (i+1) l)=toE i (l.filter (fun d=>!decide (d=c)))
 | []=>rfl
 | d::l=>by
  have E:=ZGb c i l;have D:toE (i+1) (d::l)=[⟨((i+1:Nat):Int),d⟩]++toE (i+1) l:=rfl;rw[D,Z4a,E,List.filter_cons]
  have F:(0:Int) < ((i+1:Nat):Int):=by omega
  by_cases hd:d=c
  ·have A:shE c [⟨((i+1:Nat):Int),d⟩]=[]:=by unfold shE;rw[List.filter_cons,M2 (by simp[hd])];rfl
   rw[A,M2 (by simp[hd])];rfl
  ·have A:shE c [⟨((i+1:Nat):Int),d⟩]=[⟨(i:Int),d⟩]:=by
    unfold shE;rw[List.filter_cons,M3 (by simp[hd])]
    show[(⟨((i+1:Nat):Int) - 1,d⟩:Edg)]=_
    rw[show((i+1:Nat):Int) - 1=i by omega]
   rw[A,M3 (by simp[hd])];rfl
theorem YM (x:Sai)(b:Bkg)(A:List Bkg)(i:Nat):Zx x (b::A) i=toE i (Um x b)++Zx x A (i+1):=rfl
theorem Zmb {x y:Sai}{c:Int}(D:∀q,Um y q=(Um x q).filter (fun d=>!decide (d=c))):∀(A:List Bkg) (i:Nat),Zx y A i=shE c (Zx x A (i+1))
 | [],_=>rfl
 | b::A,i=>by rw[YM,YM,Z4a,ZGb,D,Zmb D A (i+1)]
section
variable {x:Sai} {i:Nat} {b:Bkg}
theorem XG (A:x.bks[i]? = some b):x.bks=x.bks.take i++b::x.bks.drop (i+1):=Qzb A
theorem VM {l:List Bkg}(A:l[i]? = some b)(b':Bkg):l.set i b'=l.take i++b'::l.drop (i+1):=by
 rw[List.set_eq_take_append_cons_drop,M3 (J0.1 A).1]
theorem Uza (A:QE b=true):b.kind=2∧Qx b=true∧b.cab < 0:=by
 unfold QE at A;rw[Bool.and_eq_true,Bool.and_eq_true]at A;exact⟨of_decide_eq_true A.1,A.2.1,of_decide_eq_true A.2.2⟩
theorem ZEa (b:Bkg)(c:Nat):QE (QI b c)=false:=by
 unfold QE QI
 have:¬((c:Int) < 0):=by omega
 simp[this]
theorem Z2a (A:x.bks[i]? = some b)(D:QY x i=[])(E:QE b=true):QF x=b::(x.bks.drop (i+1)).filter QE:=by
 unfold QF
 conv=>lhs;rw[XG A]
 rw[List.filter_append,show(x.bks.take i).filter QE=[]from D,List.filter_cons,M3 E];rfl
theorem Z3a (A:x.bks[i]? = some b)(D:QY x i=[])(c:Nat):QF (QR x i (QI b c))=(x.bks.drop (i+1)).filter QE:=by
 unfold QF
 show(x.bks.set i (QI b c)).filter QE=_
 rw[VM A,List.filter_append,show(x.bks.take i).filter QE=[]from D,List.filter_cons,M2 (by rw[ZEa];simp)];rfl
theorem Xeb (A:x.bks[i]? = some b)(E:QY x i=[])(c:Nat):QY (QR x i (QI b c)) (i+1)=[]:=by
 have D:=(J0.1 A).1;unfold QY
 show((x.bks.set i (QI b c)).take (i+1)).filter QE=[]
 rw[Qo (x:=QI b c) (List.getElem?_set_self D),List.take_set_of_le (J5 i),List.filter_append,show(x.bks.take i).filter QE=[]from E,List.filter_cons,M2 (by rw[ZEa];simp)];rfl
theorem Qub (E:QE b=true)(c A:Nat):UK (A:Int) (QI b c)=decide (A=c)∧UK (A:Int) b=false:=by
 obtain⟨_,D,F⟩:=Uza E
 constructor
 ·unfold UK;rw[show Qx (QI b c)=true from D,Bool.true_and,decide_eq_decide]
  show(c:Int)=A↔_
  omega
 ·unfold UK;rw[J3 (by omega),Bool.and_false]
theorem Ucb (D:x.bks[i]? = some b)(I:QE b=true)(c A:Nat):QL (x.bks.set i (QI b c)) A=(QL x.bks A && !decide (A=c)):=by
 obtain⟨E,F⟩:=Qub I c A;unfold QL
 conv=>rhs;rw[XG D]
 rw[VM D,List.any_append,List.any_cons,List.any_append,List.any_cons,E,F];cases(x.bks.take i).any (UK (A:Int))<;>cases(x.bks.drop (i+1)).any (UK (A:Int))<;>cases decide (A=c)<;>rfl
theorem Zvb (A:x.bks[i]? = some b)(D:QE b=true)(c:Nat)(q:Bkg):Um (QR x i (QI b c)) q=(Um x q).filter (fun d=>!decide (d=(c:Int))):=by
 unfold Um
 show((List.range x.ship.cabs.length).filter (fun d:Nat=>Zd x.ship q (d:Int) && QL (x.bks.set i (QI b c)) d)).map Int.ofNat=_
 rw[List.filter_map,List.filter_filter]
 congr 2
 funext d
 rw[Ucb A D]
 show _=(!decide ((d:Int)=(c:Int)) && (Zd x.ship q (d:Int) && QL x.bks d))
 rw[show decide ((d:Int)=(c:Int))=decide (d=c)from decide_eq_decide.2 (by omega)];cases Zd x.ship q (d:Int)<;>cases QL x.bks d<;>cases decide (d=c)<;>rfl
theorem Xua (A:x.bks[i]? = some b)(D:QY x i=[])(E:QE b=true)(c:Nat):Zh (QR x i (QI b c))=shE c (Zh x):=by
 unfold Zh;rw[Z2a A D E,Z3a A D,YM,Z4a,Xyb,Zmb (Zvb A E c)];rfl
theorem Ytb {q:Bkg}{c:Int}(h:c∈Um x q):∃d:Nat,c=d∧d < x.ship.cabs.length∧Zd x.ship q d=true∧QL x.bks d=true:=by
 unfold Um at h;obtain⟨d,E,rfl⟩:=List.mem_map.1 h;obtain⟨D,A⟩:=List.mem_filter.1 E;have A:(Zd x.ship q (d:Int) && QL x.bks d)=true:=A;rw[Bool.and_eq_true]at A;exact⟨d,rfl,List.mem_range.1 D,A.1,A.2⟩
theorem QUc (E:x.bks[i]? = some b)(I:QE b=true){c A:Nat}(h:¬A=c):spL (x.bks.set i (QI b c)) (A:Int)=spL x.bks (A:Int):=by
 obtain⟨D,F⟩:=Qub I c A;rw[J3 h]at D;unfold spL
 conv=>rhs;rw[XG E]
 rw[VM E,List.filter_append,List.filter_cons,M2 (by rw[D];simp),List.filter_append,List.filter_cons,M2 (by rw[F];simp)]
theorem ZIb (F:x.bks[i]? = some b)(I:QE b=true){c:Nat}(h:QL x.bks c=true):spL (x.bks.set i (QI b c)) (c:Int)=[⟨b.frm,b.upto⟩]:=by
 obtain⟨E,_⟩:=Qub I c c
 have D:∀q∈x.bks,¬UK (c:Int) q=true:=by
  unfold QL at h;rw[Bool.not_eq_true']at h;exact List.any_eq_false.1 h
 unfold spL;rw[VM F,List.filter_append,List.filter_cons,M3 (by rw[E];simp),List.filter_eq_nil_iff.2 (fun q A=>D q (List.take_subset _ _ A)),List.filter_eq_nil_iff.2 (fun q A=>D q (List.drop_subset _ _ A))]
 rfl
theorem XXb (A:OkShp x.ship)(Q:OkBk x.ship b)(F:Ue x=false)(D:x.bks[i]? = some b)(E:QE b=true){c:Nat}(h:QL x.bks c=true):Ue (QR x i (QI b c))=false:=by
 unfold Ue at F ⊢;refine List.any_eq_false.2 fun d J=>?_
 have I:ZN x.bks (d:Int)=true:=by simpa using List.any_eq_false.1 F d J
 show ¬(!ZN (x.bks.set i (QI b c)) (d:Int))=true
 by_cases q:d=c
 ·subst q;have O:b.frm < b.upto:=(Qwa A Q).2.1
  obtain⟨o,U⟩:=Zra (ls:=spL (x.bks.set i (QI b d)) (d:Int)) (fun s A=>by
   rw[ZIb D E h,List.mem_singleton]at A
   rw[A];exact O) (by rw[ZIb D E h];exact List.pairwise_singleton _ _)
  rw[(XA U).1];simp
 ·have:ZN (x.bks.set i (QI b c)) (d:Int)=true:=by unfold ZN at I ⊢;rw[QUc D E q];exact I
  rw[this];simp
theorem YVb (A:x.bks[i]? = some b)(c:Int)(n:Nat):QS (x.bks.set i (QI b c)) n=QS x.bks n:=by
 unfold QS;refine List.map_congr_left fun k _=>?_;unfold Ui
 conv=>rhs;rw[XG A]
 rw[VM A,List.map_append,List.map_cons,List.map_append,List.map_cons]
 rfl
theorem QHa (x:Sai):(Ur x).length=(QF x).length:=List.length_map _
theorem ZEb (J:OkShp x.ship)(F:OkBk x.ship b)(I:QV x=0)(A:x.bks[i]? = some b)(D:QY x i=[])(E:QE b=true){c:Nat}(h:QL x.bks c=true) :
  QV (QR x i (QI b c))=if Uq ((QF x).length - 1) (shE c (Zh x))=true then 0 else 9:=by
 obtain⟨O,Q,_⟩:=QVa I;unfold QV;rw[M2 (by rw[XXb J F O A E h];simp),show(QR x i (QI b c)).bks=x.bks.set i (QI b c)from rfl,show(QR x i (QI b c)).ship=x.ship from rfl,YVb A,M2 Q,Xua A D E,QHa,Z3a A D,Z2a A D E]
 rfl
theorem YJb (A:x.bks[i]? = some b)(E:QY x i=[])(I:QE b=true)(V:Uq (QF x).length (Zh x)=true):∃c:Nat,(c:Int)∈Um x b∧Uq ((QF x).length - 1) (shE c (Zh x))=true:=by
 have O:=Z2a A E I;obtain⟨J,D,F,Q⟩:=Xvb (Qua.1 V);rw[O]at D;rcases J with _ | ⟨⟨b',c⟩,J⟩
 ·cases D
 rw[List.map_cons]at D F;injection D with e1 e2;obtain rfl:b'=b:=e1;refine⟨c,Q _ (List.mem_cons_self ..),?_⟩;rw[←Xua A E I c,show(QF x).length - 1=(QF (QR x i (QI b' c))).length by rw[O,Z3a A E];rfl];refine YJ (Xwb ⟨J,by rw[Z3a A E];exact e2,(List.nodup_cons.1 F).2,fun p U=>?_⟩);rw[Zvb A I];refine List.mem_filter.2 ⟨Q p (List.mem_cons_of_mem _ U),?_⟩;have W:¬p.2=c:=fun e=>(List.nodup_cons.1 F).1 (by rw[←e];exact List.mem_map.2 ⟨p,U,rfl⟩)
 have:¬(p.2:Int)=c:=by omega
 simp[this]
end
noncomputable def V4a (x:Sai) (b:Bkg):Option Int:=(Um x b).find? (fun c=>Uq ((QF x).length - 1) (shE c (Zh x)))
noncomputable def Xj (x:Sai) (i:Nat):Sai:=match x.bks[i]? with
 | some b=>if QE b=true then (match V4a x b with | some c=>QR x i (QI b c) | none=>x)else x
 | none=>x
noncomputable def Qu (x:Sai):Nat→Sai
 | 0=>x
 | k+1=>Xj (Qu x k) k
noncomputable def VU (x:Sai):Sai:={ Qu x x.bks.length with closed:=true }
theorem XZ {x:Sai}{i:Nat}{b:Bkg}(A:x.bks[i]? = some b)(D:QE b=false):Xj x i=x:=by
 unfold Xj;rw[A]
 show(if QE b=true then _ else _)=_
 rw[D];rfl
theorem XY {x:Sai}{i:Nat}{b:Bkg}{c:Int}(A:x.bks[i]? = some b)(D:QE b=true)(E:V4a x b=some c):Xj x i=QR x i (QI b c):=by
 unfold Xj;rw[A]
 show(if QE b=true then _ else _)=_
 rw[M3 D,E]
structure CloK (x y:Sai) (i:Nat):Prop where
 ship:y.ship=x.ship
 fares:y.fares=x.fares
 day:y.day=x.day
 leaves:y.leaves=x.leaves
 closed:y.closed=x.closed
 ids:y.bks.map (·.id)=x.bks.map (·.id)
 bk:∀b∈y.bks,OkBk x.ship b
 tail:y.bks.drop i=x.bks.drop i
 none:QY y i=[]
 room:QV y=0
theorem CloK.len {x y:Sai}{i:Nat}(h:CloK x y i):y.bks.length=x.bks.length:=by
 have:=congrArg List.length h.ids
 rwa [List.length_map,List.length_map]at this
theorem CloK.at {x y:Sai}{i:Nat}(h:CloK x y i):y.bks[i]? = x.bks[i]?:=by
 have:=congrArg (fun l:List Bkg=>l[0]?) h.tail
 simpa [List.getElem?_drop] using this
theorem VVa {X:Shp}{b:Bkg}{c:Nat}(h:OkBk X b)(F:QE b=true)(J:c < X.cabs.length)(E:Zd X b c=true):OkBk X (QI b c):=by
 obtain⟨D,_,I⟩:=Uza F;refine⟨h.kind,h.state,h.id,h.gst,h.span,?_,h.til,h.opt,h.fol⟩;have A:=h.kindE;unfold kindE at A ⊢;rw[M3 D]at A;rw[show(QI b c).kind=b.kind from rfl,M3 D];unfold QSa at A ⊢
 show(if Qd b.cat 0 ((X.cats.length:Int) - 1)=false then (3:Int)else if b.frm≠0∨b.upto≠X.legs then 4 else if Qd (c:Int) (-1) ((X.cabs.length:Int) - 1)=false then 3 else if 0≤(c:Int)∧Zd X (QI b c) c=false then 4 else 0)=0
 by_cases q1:Qd b.cat 0 ((X.cats.length:Int) - 1)=false
 ·rw[M3 q1]at A;omega
 rw[M2 q1]at A ⊢;by_cases q2:b.frm≠0∨b.upto≠X.legs
 ·rw[M3 q2]at A;omega
 rw[M2 q2,M2 (by rw[Zc (by omega) (by omega)];simp),M2];rintro⟨_,q⟩;rw[show Zd X (QI b c) c=Zd X b c from rfl,E]at q;cases q
theorem CloK.start {x:Sai}(A:OkSai x):CloK x x 0:=⟨rfl,rfl,rfl,rfl,rfl,rfl,A.bs.bk,rfl,rfl,A.room⟩
section
variable {x y:Sai} {i:Nat} {b:Bkg}
theorem CloK.pick (h:CloK x y i)(I:x.bks[i]? = some b)(U:QE b=true):∃c:Nat,V4a y b=some (c:Int)∧c < x.ship.cabs.length∧Zd x.ship b c=true∧QL y.bks c=true∧Uq ((QF y).length - 1) (shE c (Zh y))=true:=by
 have J:y.bks[i]? = some b:=h.at.trans I;have D:=(QVa h.room).2.2;rw[QHa]at D;obtain⟨c,E,F⟩:=YJb J h.none U D
 have V:(V4a y b).isSome=true:=by unfold V4a;exact List.find?_isSome.2 ⟨(c:Int),E,F⟩
 obtain⟨e,A⟩:=Option.isSome_iff_exists.1 V;have O:e∈Um y b:=List.mem_of_find?_eq_some A;have Q:=List.find?_some A;obtain⟨d,rfl,W,X,Y⟩:=Ytb O;exact⟨d,A,by rw[←h.ship];exact W,by rw[←h.ship];exact X,Y,Q⟩
theorem CloK.step (W:OkShp x.ship)(h:CloK x y i)(E:x.bks[i]? = some b):CloK x (Xj y i) (i+1):=by
 have A:y.bks[i]? = some b:=h.at.trans E;have Y:=(J0.1 A).1;have F:=h.bk b (J6 A);rcases Bool.eq_false_or_eq_true (QE b)with D | D
 ·obtain⟨c,I,J,O,Q,U⟩:=h.pick E D;rw[XY A D I];refine⟨h.ship,h.fares,h.day,h.leaves,h.closed,?_,fun q V=>?_,?_,Xeb A h.none c,?_⟩
  ·rw[←h.ids]
   show(y.bks.set i (QI b c)).map (·.id)=_
   conv=>rhs;rw[XG A]
   rw[VM A,List.map_append,List.map_cons,List.map_append,List.map_cons];rfl
  ·rcases X5 V with X | rfl
   ·exact h.bk q X
   ·exact VVa F D J O
  ·show(y.bks.set i (QI b c)).drop (i+1)=_
   rw[List.drop_set_of_lt (by omega)];have:=congrArg (List.drop 1) h.tail
   rwa [List.drop_drop,List.drop_drop]at this
  ·rw[ZEb (by rw[h.ship];exact W) (by rw[h.ship];exact F) h.room A h.none D Q,M3 U]
 ·rw[XZ A D];refine⟨h.ship,h.fares,h.day,h.leaves,h.closed,h.ids,h.bk,?_,?_,h.room⟩
  ·have:=congrArg (List.drop 1) h.tail
   rwa [List.drop_drop,List.drop_drop]at this
  ·rw[Vc A,h.none,M2 (by rw[D];simp)];rfl
end
theorem Va {x:Sai}(A:OkSai x):∀k,k≤x.bks.length→CloK x (Qu x k) k
 | 0,_=>CloK.start A
 | k+1,h=>(Va A k (by omega)).step A.bs.ship (J1 (by omega))
theorem Yv {x:Sai}(E:OkSai x){i:Nat} : ∀d,i+d≤x.bks.length→(QY x (i+d)).length=(QY x i).length→Qu x (i+d)=Qu x i
 | 0,_,_=>rfl
 | d+1,h,he=>by
  have A:x.bks[i+d]? = some (x.bks[i+d]'(by omega)):=J1 (by omega);have F:=Vc A
  have I:∀d,i+d≤x.bks.length→(QY x i).length≤(QY x (i+d)).length:=fun d _=>by
   unfold QY;refine List.Sublist.length_le (List.Sublist.filter _ ?_);exact(List.take_prefix_take_left (by omega)).sublist
  have O:=I d (by omega);rw[show i+(d+1)=i+d+1 by omega,F,J9]at he
  have D:QE (x.bks[i+d]'(by omega))=false:=by
   rcases Bool.eq_false_or_eq_true (QE (x.bks[i+d]'(by omega)))with q | q
   ·rw[q]at he;simp at he;omega
   ·exact q
  rw[D]at he;have J:=Va E (i+d) (by omega)
  show Xj (Qu x (i+d)) (i+d)=_
  rw[XZ (J.at.trans A) D,Yv E d (by omega) (by simp at he;omega)]
theorem ZBa {x:Sai}(A:OkSai x){i j:Nat}(D:i≤x.bks.length)(E:j≤x.bks.length)(h:(QY x i).length=(QY x j).length):Qu x i=Qu x j:=by
 rcases Nat.le_total i j with q | q
 ·have:=Yv A (i:=i) (j - i) (by omega) (by rw[show i+(j - i)=j by omega];exact h.symm);rw[show i+(j - i)=j by omega]at this;exact this.symm
 ·have:=Yv A (i:=j) (i - j) (by omega) (by rw[show j+(i - j)=i by omega];exact h)
  rwa [show j+(i - j)=i by omega]at this
theorem Qga {x:Sai} : ∀{n k:Nat} {b:Bkg},(QY x n)[k]? = some b→∃j,j < n∧x.bks[j]? = some b∧QE b=true∧(QY x j).length=k
 | 0,_,_,h=>by simp[QY]at h
 | n+1,k,b,h=>by
  rcases hq:x.bks[n]? with _ | q
  ·have:QY x (n+1)=QY x n:=by
    unfold QY;have F:=List.getElem?_eq_none_iff.1 hq;rw[M1 (by omega),M1 F]
   rw[this]at h;obtain⟨j,E,D⟩:=Qga h;exact⟨j,by omega,D⟩
  ·rw[Vc hq]at h;by_cases hk:k < (QY x n).length
   ·rw[List.getElem?_append_left hk]at h;obtain⟨j,E,D⟩:=Qga h;exact⟨j,by omega,D⟩
   ·rw[List.getElem?_append_right (by omega)]at h;rcases Bool.eq_false_or_eq_true (QE q)with A | A
    ·rw[M3 A]at h
     have I:k - (QY x n).length=0:=by
      have:=(J0.1 h).1;simp at this;omega
     rw[I]at h
     obtain rfl:q=b:=by simpa using h
     exact⟨n,by omega,hq,A,by omega⟩
    ·rw[M2 (by rw[A];simp)]at h;simp at h
theorem UBb {x y:Sai}{i:Nat}(h:CloK x y i):QF y=(x.bks.drop i).filter QE:=by
 unfold QF
 conv=>lhs;rw[←List.take_append_drop i y.bks]
 rw[List.filter_append,show(y.bks.take i).filter QE=[]from h.none,h.tail];rfl
theorem Xgb {x:Sai}(i:Nat):(QY x i).length+((x.bks.drop i).filter QE).length=(QF x).length:=by
 unfold QF QY
 conv=>rhs;rw[←List.take_append_drop i x.bks]
 rw[List.filter_append,J9]
theorem YGa (y:Sai)(c:Bool):QV { y with closed:=c } = QV y:=by
 have A:Zh { y with closed:=c } = Zh y:=QBa (x:={ y with closed:=c }) (y:=y) (fun _=>rfl) (QF y) 0;unfold QV;rw[A]
 rfl
theorem Yba {x:Sai}(h:QG x=0):QG (VU x)=0:=by
 have D:=Zj h;have A:=Va D x.bks.length (J5 _);have J:=A.len
 refine XHa (y:=VU x) (by show Z0 (Qu x _).ship=0;rw[A.ship];exact(XH h).1) (by show ZC (Qu x _).fares (Qu x _).ship.cats.length (Qu x _).ship.legs=0;rw[A.ship,A.fares];exact D.fares) (by show Qd (Qu x _).day 0 9999=true;rw[A.day];exact D.day)
  (by show Qd (Qu x _).leaves 0 9999=true;rw[A.leaves];exact D.leaves) (by show(Qu x _).bks.length≤16;rw[J];exact D.bs.len) (fun b F=>by show ofE (Qu x _).ship b=0;rw[A.ship];exact ZBb (A.bk b F)) ?_ ?_ ((YGa _ true).trans A.room)
 ·show VR (Qu x _).bks
  have U:=VG.1 (QN D.bs.rise);refine VG.2 ?_;have I:(x.bks.map (·.id)).Pairwise (· < ·):=List.pairwise_map.2 U;rw[←A.ids]at I;exact List.pairwise_map.1 I
 ·refine List.any_eq_false.2 fun b F=>?_
  have Q:QF (Qu x x.bks.length)=[]:=by
   rw[←XP J];exact A.none
  have O:¬QE b=true:=fun q=>by
   have:b∈QF (Qu x x.bks.length):=List.mem_filter.2 ⟨F,q⟩;rw[Q]at this;cases this
  intro E;refine O ?_;unfold U1 at E;unfold QE;rw[Bool.and_eq_true,Bool.and_eq_true]at E ⊢;refine⟨E.1,E.2.1,?_⟩;have:=E.2.2
  simpa [VU] using this
noncomputable def Xc (n:Nat) (l:List Edg):List Edg→Option Int
 | []=>none
 | e::m=>if 0 < e.lft then none else if Uq n (shE e.rgt l)=true then some e.rgt else Xc n l m
noncomputable def V6a (n:Nat) (l:List Edg):Int:=(Xc n l l).getD (-1)
noncomputable def VMa (n:Nat) (l:List Edg):List Edg:=((Xc n l l).map (fun c=>shE c l)).getD []
theorem V5a (n:Nat)(l r:List Edg)(A:∀e∈r,0 < e.lft):∀m:List Int,Xc n l (toE 0 m++r)=m.find? (fun c=>Uq n (shE c l))
 | []=>by
  rcases r with _ | ⟨e,r⟩
  ·rfl
  ·show(if 0 < e.lft then none else _)=none
   rw[M3 (A e (List.mem_cons_self ..))]
 | c::m=>by
  show(if (0:Int) < ((0:Nat):Int)then none else if Uq n (shE c l)=true then some c else Xc n l (toE 0 m++r))=_
  rw[M2 (by omega),V5a n l r A m,List.find?_cons];cases Uq n (shE c l)<;>rfl
theorem UEb {x:Sai}{b:Bkg}{A:List Bkg}(h:QF x=b::A)(n:Nat):Xc n (Zh x) (Zh x)=(Um x b).find? (fun c=>Uq n (shE c (Zh x))):=by
 have D:Zh x=toE 0 (Um x b)++Zx x A 1:=by unfold Zh;rw[h,YM]
 conv=>lhs;rw[show Xc n (Zh x) (Zh x)=Xc n (Zh x) (toE 0 (Um x b)++Zx x A 1)by rw[←D]]
 exact V5a n _ _ (fun e E=>by have:=VHa x A 1 e E;omega) _
theorem Xxb {l:List Edg}{k:Nat}{e:Edg}(h:l[k]? = some e)(c:Int):shE c (l.take (k+1))=shE c (l.take k)++(if (decide (0 < e.lft) && !decide (e.rgt=c))=true then [⟨e.lft - 1,e.rgt⟩]else []):=by
 rw[Qo h,Z4a]
 congr 1
 unfold shE;rw[List.filter_cons]
 split<;>rfl
theorem ZFb (c:Int)(l:List Edg):(shE c l).length≤l.length:=by
 unfold shE;rw[List.length_map];exact List.length_filter_le _ _
theorem QRc {n m:Nat}{l:List Edg}(c:Int)(h:ZMa (n+1) m l):ZMa n m (shE c l):=fun e D=>by
 unfold shE at D;obtain⟨q,I,rfl⟩:=List.mem_map.1 D;obtain⟨E,A⟩:=List.mem_filter.1 I;have F:=h q E;rw[Bool.and_eq_true]at A;have J:0 < q.lft:=of_decide_eq_true A.1;refine⟨?_,?_,F.2.2⟩
 ·show 0≤q.lft - 1;omega
 ·show q.lft - 1 < n;omega
theorem QPb {n:Nat}{l m:List Edg}{e:Edg}(h:0 < e.lft):Xc n l (e::m)=none:=M3 h
theorem QQb {n:Nat}{l m:List Edg}{e:Edg}(h:¬0 < e.lft)(A:Uq n (shE e.rgt l)=true):Xc n l (e::m)=some e.rgt:=(M2 h).trans (M3 A)
theorem QOb {n:Nat}{l m:List Edg}{e:Edg}(h:¬0 < e.lft)(A:¬Uq n (shE e.rgt l)=true):Xc n l (e::m)=Xc n l m:=(M2 h).trans (M2 A)
theorem Ufb (a8 ad:Nat)(A:Option Addr)(n cap:Nat)(l:List Edg)(w:World)(h:Sl VW 2 w All A n cap l)(hm:a8+1≤16)(hr:ad≤16)(hg:ZMa (a8+1) ad l)(hn:n≤1000) :
  Calls prog 188 #[.int .i64 ((a8+1:Nat):Int),.int .i64 (ad:Int),.slice A n cap] w fun e w'=>∃v xs,e=.returned (.tuple #[.int .i64 (V6a a8 l),v])∧Own VW 2 94 w' w.heap.size v (VMa a8 l) xs∧yw w w':=by
 have aA:=yh (fun A' n' aJ c W hS=>Q7b a8 ad A' n' aJ (shE c l) W hS (by omega) hr (QRc c hg));have HS:=yh h;have an:=yh h.len;have aD:=yh (show ∀c,(shE c l).length≤1000 from fun c=>by have:=ZFb c l;have:=h.len;omega);have aB:=yh hg;have aE:=yh hm
 have aP:IntKind.i64.wrap (((a8+1:Nat):Int) - 1)=(a8:Int):=by rw[IntWalk.i64_in _ (by omega)];omega
 obtain⟨M,hM⟩:=yE ((a8+1:Nat):Int);rw[←hM]at aP ⊢;clear h hg hM hr hm;go_enter func188,ntmps188;go_wp2_with fail
 go_loopg [15] n (fun gk i wr=>∃(k:Nat),k≤n∧n - k≤gk∧i=.int .i64 k∧Xc a8 l l=Xc a8 l (l.drop k)∧yw w wr)
 case atStart=>exact⟨0,M0 _,by omega,rfl,rfl,J4 _ _⟩
 case round=>
  obtain⟨k,hk,aY,rfl,U,J⟩:=hrel;by_cases hlt:k < n
  ·obtain⟨bb,aU,x,c0,c1,rfl,hx,⟨Z,aM,aN⟩,e0,e1⟩:=(HS.bel J).at2 hlt
   obtain⟨rfl,rfl⟩:c0=.int .i64 x.lft∧c1=.int .i64 x.rgt:=by simpa using Z
   have ar:l.drop k=x::l.drop (k+1):=by rw[List.drop_eq_getElem_cons (J0.1 hx).1];rw[(J0.1 hx).2]
   rw[ar]at U;obtain⟨W1,rfl⟩:=yE wr;have ag:=yh U;clear U;have HX:=yh aN;clear Z ar aM hx;go_upto_region 3 with(fail);go_cut [9] (fun p Q=>∃g,yp p g∧W1.heap.size≤g∧Blk Q g #[.int .i64 x.lft,.int .i64 x.rgt] 94∧yw W1 Q)
   case first=>as_aux_lemma=>
    go_wp2_with fail;go_meet;exact⟨_,rfl,J5 _,Zg _ _,Qi _ _⟩
   obtain⟨g,rfl,a1,hG,ai⟩:=hcut;obtain⟨W2,rfl⟩:=yE wc;replace J:=J.trans (ai.mono J.size);have a2:=ai.size;have aZ:=hG.lt;have g0:yI W2 g 0 x.lft:=hG.cell rfl;have HG:=yh (fun X (hX:yw W2 X)=>hG.bel hX);clear ai hG e0 e1;by_cases q0:0 < x.lft
   ·have q1:decide (0 < x.lft)=true:=J2 q0;have D:=yh (ag.trans (QPb q0));clear q0;go_wp2_with fail;go_ret2;exact⟨.slice none 0 0,[],by unfold V6a;rw[D.out];rfl,by unfold VMa;rw[D.out];exact Own.nil _ _ _ _ _,J⟩
   have q1:decide (0 < x.lft)=false:=J3 q0;have Q0:=yh q0;have V:=yh J;clear J;clear q0;go_wp2_with fail
   go_loopg [10,24] n (fun gk v i wr=>∃(j:Nat) (xs:List Value) (vo:Value),j≤n∧n - j≤gk∧i=.int .i64 j∧vo=v∧Own VW 2 94 wr W2.heap.size vo (shE x.rgt (l.take j)) xs∧yw W2 wr)
   case atStart=>exact⟨0,[],_,M0 _,by omega,rfl,rfl,by rw[List.take_zero];exact Own.nil _ _ _ _ _,J4 _ _⟩
   case round=>
    obtain⟨j,xs,vo,hj,aX,rfl,rfl,F,E⟩:=hrel;by_cases hlt2:j < n
    ·obtain⟨b2,aV,y,d0,d1,aq,hy,⟨Z,aQ,aR⟩,e0,e1⟩:=(HS.bel (V.trans (E.mono V.size))).at2 hlt2
     obtain⟨rfl,rfl⟩:d0=.int .i64 y.lft∧d1=.int .i64 y.rgt:=by simpa using Z
     obtain⟨rfl,rfl⟩:b2=bb∧aV=aU:=by injection aq with h;injection h with h1 h2;exact⟨h1.symm,h2.symm⟩
     obtain⟨V1,rfl⟩:=yE wr;have af:=yh (Xxb hy x.rgt);have ac:=yh (aB y (J6 hy));have ay:=F.lt;have aI:=yh (show(shE x.rgt (l.take j)).length≤1000 from by have:=ZFb x.rgt (l.take j);rw[J8]at this;omega);have O:=yh F;clear F;clear Z aq hy aQ;go_upto_region 8 with(fail);go_cut [12] (fun p Q=>∃z,yp p z∧V1.heap.size≤z∧Blk Q z #[.int .i64 y.lft,.int .i64 y.rgt] 94∧yw V1 Q)
     case first=>as_aux_lemma=>
      go_wp2_with fail;go_meet;exact⟨_,rfl,J5 _,Zg _ _,Qi _ _⟩
     obtain⟨z,rfl,a6,hZ,aj⟩:=hcut;obtain⟨I,rfl⟩:=yE wc;have F:=O.bel aj
     have a5:vo.ownBlock≠some z:=fun e=>by have:=(ay z e).2;omega
     replace E:=E.trans (aj.mono E.size);have z0:yI I z 0 y.lft:=hZ.cell rfl;have z1:yI I z 1 y.rgt:=hZ.cell rfl;have g1:yI I g 1 x.rgt:=(HG _ E).cell rfl;have a4:=hZ.lt;have a0:=(HG _ E).lt;clear hZ aj e0 e1 O ay;obtain⟨tv,al⟩:=yE (decide (0 < y.lft) && !decide (y.rgt=x.rgt));rw[←al]at af;have ba:=yh al;clear al;have O:=yh F;clear F;have aa:=yh E;clear E;go_upto_region 9 with(fail);go_cut [37] (fun q Q=>q=.bool tv∧I=Q)
     case first=>as_aux_lemma=>
      by_cases q2:0 < y.lft
      ·have q3:decide (0 < y.lft)=true:=J2 q2;by_cases q4:y.rgt=x.rgt
       ·obtain rfl:tv=false:=by rw[ba.out,J2 q2,J2 q4];rfl
        have q5:(y.rgt != x.rgt)=false:=by simpa using q4
        clear q2 q4;go_wp2_with fail;go_meet;exact⟨rfl,rfl⟩
       ·obtain rfl:tv=true:=by rw[ba.out,J2 q2,J3 q4];rfl
        have q5:(y.rgt != x.rgt)=true:=by simpa using q4
        clear q2 q4;go_wp2_with fail;go_meet;exact⟨rfl,rfl⟩
      ·have q3:decide (0 < y.lft)=false:=J3 q2
       obtain rfl:tv=false:=by rw[ba.out,J3 q2];rfl
       clear q2;go_wp2_with fail;go_meet;exact⟨rfl,rfl⟩
     obtain⟨rfl,rfl⟩:=hcut;cases tv
     ·have D:=yh (af.trans (by simp:_=shE x.rgt (l.take j)));go_wp2_with fail;go_roundg (n - (j+1))
      case measure=>omega
      case rel=>exact⟨j+1,xs,vo,by omega,by omega,by go_num,rfl,by rw[D.out];exact O,aa⟩
     ·have D:=yh (af.trans (show _=shE x.rgt (l.take j)++[⟨y.lft - 1,y.rgt⟩]from rfl))
      have aS:0 < y.lft:=by have h:=ba.symm;rw[Bool.and_eq_true]at h;exact of_decide_eq_true h.1
      have aT:y.lft≤16:=by have:=ac.out;have:=aE.out;omega
      have a3:IntKind.i64.wrap (y.lft - 1)=y.lft - 1:=IntWalk.i64_in _ (by have:=ac.out;omega);have aw:InI (y.lft - 1):=.of (by have:=ac.out;omega) (by have:=ac.out;omega)
      have aL:((shE x.rgt (l.take j)).length+1)*16≤140737488355328:=by have:=aI.out;omega
      have ao:=yh (O.bel (Qi I (.cells #[.int .i64 (y.lft - 1),.int .i64 y.rgt] 94)))
      have aO:W2.heap.size≤(I.alloc (.cells #[.int .i64 (y.lft - 1),.int .i64 y.rgt] 94)).heap.size:=by have:=aa.size;simp;omega
      have aH:=yh (QTb I All (y.lft - 1) y.rgt 94 aw aR trivial);have a9:=yh (aa.trans ((Qi I (.cells #[.int .i64 (y.lft - 1),.int .i64 y.rgt] 94)).mono aa.size));clear aw aS aT;go_wp2_with (at_builtin;refine Qz (t:=74) (e:=94) (bytes:=16) rfl (.tmp 38) (.tmp 45) rfl Uka QH rfl ao rfl aH (fun _ _ hc=>hc) aL (by omega) aO ?_;intro v' w' aW az au aK;have aG:=yh az;have aC:=yh au;clear az au aK);go_roundg (n - (j+1))
      case measure=>omega
      case rel=>exact⟨j+1,aW,v',by omega,by omega,by go_num,rfl,by rw[D.out];exact aG,QA a9 ao aC a9.size⟩
    ·obtain rfl:j=n:=by omega
     rw[M1 (by have:=an.out;omega)]at F;obtain⟨V1,rfl⟩:=yE wr;have Y:=V.trans (E.mono V.size);have av:=HG _ E;obtain⟨A1,n1,c1,rfl,ak⟩:=F.sl QH
     have ax:n1≤1000:=by have:=ak.len;have:=aD x.rgt;omega
     obtain⟨ab,ah⟩:=yE (Uq a8 (shE x.rgt l));have HC:=yh (aA A1 n1 c1 x.rgt V1 (ak.all QH (by omega)) ax);rw[←ah]at HC;have am:=yh ah;clear ah;have O:=yh F;clear F;clear ak ax E g0;go_wp2_with fail;refine yM HC fun w3 ae=>?_;have ap:=O.bel ae;have g1:yI w3 g 1 x.rgt:=(av.bel ae).cell rfl;replace Y:=Y.trans (ae.mono Y.size);have aF:=yh ap;clear ap;have a9:=yh Y;clear Y;clear av HC ae;cases ab
     ·have D:=yh (ag.trans (QOb (Int.not_lt.2 Q0) (by rw[←am.out];simp)));go_wp2_with fail;go_roundg (j - (k+1))
      case measure=>omega
      case rel=>exact⟨k+1,by omega,by omega,by go_num,D,a9⟩
     ·have D:=yh (ag.trans (QQb (Int.not_lt.2 Q0) am.symm));go_wp2_with fail;go_ret2;exact⟨_,xs,by unfold V6a;rw[D.out];rfl,by unfold VMa;rw[D.out];exact aF.mono QH (V.size),a9⟩
  ·obtain rfl:k=n:=by omega
   rw[List.drop_of_length_le (by have:=an.out;omega)]at U;go_wp2_with fail;go_ret2;exact⟨.slice none 0 0,[],by unfold V6a;rw[U];rfl,by unfold VMa;rw[U];exact Own.nil _ _ _ _ _,J⟩
section
variable {w0:World} {b0:Nat} {w:World} {base:Nat} {x:Sai} {p:SaiV} {g:Nat}
theorem SaiW.geB (h:SaiW w0 b0 w base x p)(D:p.C=some ⟨g,0,none⟩):w0.heap.size≤g∧g < w.heap.size:=by
 obtain⟨E,F,I,J,O,xs,A⟩:=h;rw[D]at A;exact A.lt g rfl
end
theorem QWa {x y:Sai}{i:Nat}(h:CloK x y i)(p:SaiV):Qa y p=Qa x p:=by unfold Qa;rw[h.ship,h.fares,h.day,h.leaves,h.closed]
theorem UIa {x:Sai}(A:OkSai x)(p:SaiV):Qa (VU x) p=Qa { x with closed:=true } p:=by
 have h:=Va A x.bks.length (J5 _)
 show Qa { Qu x x.bks.length with closed:=true } p=_
 unfold Qa;simp only;rw[h.ship,h.fares,h.day,h.leaves]
theorem QLc {l:List Bkg}{k:Nat}{b:Bkg}(F:VR l)(D:l[k]? = some b):Za l b.id=k:=by
 have I:=(J0.1 D).1;refine XDa (by omega) (fun q c E A=>F q k c b E A D) (fun q c E A=>?_);rcases Nat.lt_or_ge k q with h | h
 ·exact Int.le_of_lt (F k q b c h D A)
 ·obtain rfl:q=k:=by omega
  rw[D]at A;injection A with A;rw[A];exact Int.le_refl _
theorem Yaa {x y:Sai}{i:Nat}(h:CloK x y i)(D:VR x.bks):VR y.bks:=by
 refine VG.2 ?_;have A:(x.bks.map (·.id)).Pairwise (· < ·):=List.pairwise_map.2 (VG.1 D);rw[←h.ids]at A;exact List.pairwise_map.1 A
theorem Z8b (w0:World)(b0:Nat)(x:Sai)(p:SaiV)(y:Nat)(base:Nat)(w:World)(hW:SaiW w0 b0 w base x p)(hY:Blk w y (Qa x p) 162)(a9:w0.heap.size≤y)(O:OkSai x) :
  Calls prog 106 #[.pointer (some ⟨y,0,none⟩)] w fun e w'=>e=.returned (.tuple #[])∧SaiW w0 b0 w' base (VU x) p∧Blk w' y (Qa (VU x) p) 162∧Kept (fun j=>w0.heap.size≤j) w w':=by
 have HM:=hW.sai.cabs.len;have bv:=O.bs.ship.cabs12;have aE:=yh (XSa x p w hW.sai O.bs.ship O.bs.bk O.bs.len);have be:=yh (fun bG A n cap l W hS hm hg hn=>Ufb bG p.m A n cap l W hS hm (by omega) hg hn);have aG:=yh (fun Y t X hl hr ab hn ht=>XD Y p t X hl hr ab hn ht);have bt:=yh (fun Y i (h:CloK x Y i)=>QWa h p);have bc:=yh (UIa O p);have am:=yh (show x.bks.length=p.nb from hW.sai.bks.len)
 have bU:p.nb≤16:=by have:=am.out;have:=O.bs.len;omega
 have aD:=yh (fun g (J:p.C=some ⟨g,0,none⟩)=>hW.geB J);have bg:=yh (fun g (J:p.C=some ⟨g,0,none⟩) (e:y=g)=>hW.neB J hY (by decide) e.symm);have bK:=yh (fun g (J:p.C=some ⟨g,0,none⟩)=>hW.blkB J);have I:=yh O;have HW:=yh hW;have HY:=yh hY;have bm:=yh HM;have cc:=hY.lt;clear O hW hY HM bv;go_enter func106,ntmps106;go_wp2_with (refine wpList_load_row rfl 32 (.tmp 13) rfl y rfl 162 _ (0,0) _ HY underlying32 rfl (by kernel_rfl) ?_);refine aE.mono ?_;rintro e w1 ⟨v1,v2,bH,bI,rfl,ap,aM,ad⟩;obtain⟨A1,D,c1,rfl,b8⟩:=ap.sl Qc;have aZ:D=(Ur x).length:=b8.len.symm
 have bT:D≤16:=by have:=ZYa x;have:=am.out;omega
 have bV:=ad.size;have aP:=HW.bel ad;have aR:=HY.bel ad;have ba:=yh ad;have al:=yh (show D=(QF x).length by rw[aZ,QHa]);have bo:=yh aP;clear aP;have br:=yh aR;clear aR;have an:=yh ap;clear ap;have bj:=yh aM;clear aM;obtain⟨W1,bz⟩:=yE w1;subst bz;clear b8 aZ ad HW HY aE;go_wp2_with fail
 go_loopg [3,20] D (fun gk v iv wr=>∃(k i:Nat) (xs:List Value) (vo:Value),k≤D∧D - k≤gk∧iv=.int .i64 k∧i≤x.bks.length∧(QY x i).length=k∧vo=v∧Own VW 2 94 wr w.heap.size vo (Zh (Qu x i)) xs∧SaiW w0 b0 wr base (Qu x i) p∧Kept (fun j=>p.C=some ⟨j,0,none⟩) W1 wr)
 case atStart=>exact⟨0,0,bI,_,M0 _,by omega,rfl,M0 _,rfl,rfl,bj,bo,Kept.refl _ _⟩
 case round=>
  obtain⟨k,i,xs,vo,hk,bP,rfl,hi,aw,rfl,hO,hW,hK⟩:=hrel;obtain⟨V1,rfl⟩:=yE wr;have bZ:=hK.size;have b5:=br.kept hK (fun e=>bg y e rfl);by_cases hlt:k < D
  ·obtain⟨b,au⟩:∃b,(QF x)[k]? = some b:=⟨_,J1 (by have:=al.out;omega)⟩;obtain⟨j,hj,ak,ac,ax⟩:=Qga (x:=x) (n:=x.bks.length) (k:=k) (b:=b) (by rw[XP rfl];exact au);rw[ZBa I.out hi (Nat.le_of_lt hj) (aw.trans ax.symm)]at hO hW;have E:=Va I j (Nat.le_of_lt hj);obtain⟨c,az,bC,bD,bE,bF⟩:=E.pick ak ac;have F:(Qu x j).bks[j]? = some b:=E.at.trans ak;have ay:Qu x (j+1)=QR (Qu x j) j (QI b c):=XY F ac az;have a0:=Z2a F E.none ac
   have av:(QF (Qu x j)).length=D - k:=by rw[UBb E,al.out];have:=Xgb (x:=x) j;omega
   obtain⟨M,hM⟩:∃M,D - k=M+1:=⟨D - k - 1,by omega⟩
   have aA:Xc M (Zh (Qu x j)) (Zh (Qu x j))=some (c:Int):=by
    rw[UEb a0,show M=(QF (Qu x j)).length - 1 by omega];exact az
   have b7:V6a M (Zh (Qu x j))=(c:Int):=by unfold V6a;rw[aA];rfl
   have b6:VMa M (Zh (Qu x j))=Zh (Qu x (j+1)):=by
    unfold VMa;rw[aA,ay,Xua F E.none ac];rfl
   have aX:ZMa (M+1) p.m (Zh (Qu x j)):=by
    have h:=Xva (Qu x j);rw[QHa,av,hM,E.ship,bm.out]at h;exact h
   have aT:=E.bk b (J6 F);have bA:=Qm.1 aT.id;obtain⟨Z,hZ⟩:=yE ((M+1:Nat):Int)
   have bY:IntKind.i64.wrap ((D:Int) - (k:Int))=Z:=by rw[IntWalk.i64_in _ (by omega),hZ];omega
   obtain⟨A2,n2,c2,rfl,aB⟩:=hO.sl QH
   have bB:n2≤1000:=by
    have h1:=aB.len;have h2:=Yw (Qu x j) (QF (Qu x j)) 0;have h3:(Zh (Qu x j)).length≤(QF (Qu x j)).length*(Qu x j).ship.cabs.length:=h2;rw[av,E.ship]at h3;have h4:=I.bs.ship.cabs12;have h5:(D - k)*x.ship.cabs.length≤16*12:=Nat.mul_le_mul (by omega) h4;omega
   have af:=yh (be M A2 n2 c2 (Zh (Qu x j)) V1 (aB.all QH (by omega)) (by omega) aX bB);rw[←hZ,b7,b6]at af;obtain⟨id,ab⟩:=yE b.id
   have aY:(Ur x)[k]? = some id:=by unfold Ur;rw[List.getElem?_map,au,ab];rfl
   have aL:Own QM 1 3 V1 w.heap.size (.slice A1 D c1) (Ur x) bH:=an.keepB Zv (fun q hq=>hK.block q (an.lt q hq).2 (fun e=>by
    have h1:=(an.lt q hq).1;have h2:=(aD q e).2
    omega))
   obtain⟨A3,n3,c3,a8,b9⟩:=aL.sl Qc
   obtain⟨rfl,rfl,rfl⟩:A1=A3∧D=n3∧c1=c3:=by injection a8 with h1 h2 h3;exact⟨h1,h2,h3⟩
   obtain⟨a1,b1,t,c0,rfl,ht,⟨hd,a7⟩,e0⟩:=b9.at1 hlt
   obtain rfl:t=id:=by rw[aY]at ht;injection ht with ht;exact ht.symm
   obtain rfl:c0=.int .i64 t:=by simpa using hd
   obtain⟨g,A4,n4,c4,J,bO,bQ,aU,aW,hF,hI,_⟩:=hW.at F;have ag:=yh (fun X (hX:SaiR X (Qu x j) p)=>aG (Qu x j) t X hX.bks (Yaa E (QN I.bs.rise)) (fun q hq=>by have:=Qm.1 (E.bk q hq).id;omega) (by rw[E.len];exact I.bs.len) a7);have aH:=yh (show Za (Qu x j).bks t=j by rw[ab];exact QLc (Yaa E (QN I.bs.rise)) F);have a5:=bt _ _ E;rw[a5]at ag;have bn:=yh (show U4 t by rw[ab];unfold U4;omega);obtain⟨Y,ar⟩:=yE (Qu x j);obtain⟨Y',ai⟩:∃q,q=Qu x (j+1):=⟨_,rfl⟩;rw[←ar]at ag aH hW F;have bi:=yh (show QR Y j (QI b c)=Y' by rw[ar,ai];exact ay.symm);have bh:=yh (show(QY x (j+1)).length=k+1 by rw[Vc ak,J9,M3 ac,ax];rfl);rw[←ai]at af;have aJ:=yh ai;have bM:(0:Int)≤(c:Int):=Int.natCast_nonneg _
   have bN:(c:Int)≤12:=by have:=I.bs.ship.cabs12;omega
   have bR:(0:Int)≤(j:Int):=Int.natCast_nonneg _
   have bS:(j:Int) < (p.nb:Int):=by have:=am.out;omega
   have HJ:=yh hj;have bd:=yh aU;have bf:=yh (aW (j*11+5));have bu:=yh F;have HW:=yh hW;clear hW;have HK:=yh hK;clear hK;have ah:=yh b5;have HC:=yh J;have y3:yJ V1 y 3 p.B p.m p.cap2:=b5.cell rfl;clear b5 J au ak ac ax E az bC bD bE bF ay a0 av hM aA b7 b6 aX aT bA hZ hO aB ab aY aL a8 b9 ht a7 hd aU aW hF hI ar ai F hi aw aG a5 hj;go_wp2_with fail;refine af.mono ?_;rintro e w3 ⟨v3,bJ,rfl,aN,ae⟩;have aq:=HW.bel ae;have aS:=ah.bel ae;have bW:=ae.size;have aC:=yh ae;have aF:=yh (ag w3 aq.sai);have bp:=yh aq;clear aq;have aI:=yh aS;clear aS;have bl:=yh aN;clear aN;clear ae af ag y3 e0;go_wp2_with (refine wpList_load_row rfl 32 (.tmp 45) rfl y rfl 162 _ (0,0) _ aI underlying32 rfl (by kernel_rfl) ?_);refine aF.mono ?_;rintro e U ⟨Q,rfl,-,ca,aa⟩;obtain rfl:Q=j:=(ca bn).trans aH;have aQ:=bp.bel aa;have aO:=bl.bel aa;have aj:=aC.trans (aa.mono aC.size)
   have b2:U.cell? ⟨y,11,none⟩=some (.slice (some ⟨g,0,none⟩) p.nb p.cb):=by rw[←HC.out];exact(aI.bel aa).cell rfl
   have c5:yI U g (Q*11+5) b.cab:=Qg aj (bd.out 5 _ rfl)
   have f5:U.frozen? ⟨g,Q*11+5,none⟩=false:=by rw[World.frozen?_of_block (a:=⟨g,Q*11+5,none⟩) (aj.block g (by omega))];exact bf
   have bb:=yh aj;have bX:=aa.size;have bq:=yh aQ;clear aQ;have ao:=yh aO;clear aO;clear ca aj aa aF;go_wp2_with fail;go_roundg (D - (k+1))
   case measure=>omega
   case rel=>
    have bx:=bq.put HC bu (j:=5) (by omega) (u:=.int .i64 (c:Int)) (fun cs h=>X6a h (.of (by omega) (by omega)));have aK:Kept (fun q=>q=g) U (U.setCell ⟨g,Q*11+5,none⟩ (.int .i64 (c:Int))):=VY U g [(Q*11+5,.int .i64 (c:Int))];have bw:=ao.keepB YL (w':=U.setCell ⟨g,Q*11+5,none⟩ (.int .i64 (c:Int))) (fun q hq=>aK.block q (ao.lt q hq).2 (fun e=>by have:=(ao.lt q hq).1;omega));refine⟨k+1,Q+1,bJ,v3,by omega,by omega,by go_num,HJ,bh,rfl,?_,?_,?_⟩
    ·rw[←aJ.out];exact bw.mono QH (by omega)
    ·rw[←aJ.out,←bi.out];exact bx
    ·exact HK.trans ((Kept.of_below bb (fun q h1 h2=>absurd h1 (by omega)):Kept (fun q=>p.C=some ⟨q,0,none⟩) V1 U).trans (aK.mono fun q _ e=>by rw[e];exact HC))
  ·obtain rfl:k=D:=by omega
   have aV:Qu x i=Qu x x.bks.length:=ZBa I hi (J5 _) (by rw[aw,al.out,XP rfl]);rw[aV]at hW;have bL:=b5.free 12;have b3:V1.cell? ⟨y,12,none⟩=some (.bool x.closed):=b5.cell rfl;have ah:=yh b5;have HW:=yh hW;have HK:=yh hK;clear b5 hW hK hO aV;go_wp2_with fail;go_end0;have hk:=VY V1 y [(12,.bool true)];obtain⟨a1,a2,a3,a4,V,ys,a6⟩:=HW.keepZ ah (by decide) (by decide) a9 hk;refine⟨rfl,⟨a1,a2,a3,a4,⟨V.cats,V.cabs,V.leg,V.bands,V.a,V.t,V.d⟩,ys,a6⟩,?_,?_⟩
   ·rw[bc.out];exact ah.set (j:=12) _
   ·exact(Kept.of_below ba (fun q h1 h2=>absurd h1 (by omega)):Kept (fun j=>w0.heap.size≤j) w W1).trans ((HK.mono fun q _ e=>(aD q e).1).trans (hk.mono fun q _ e=>by rw[e];exact a9))
noncomputable def X0 (x:Sai):Int:=if QG x≠0 then QG x else if x.closed=true then 4 else 0
theorem ZQb (x:Sai)(p:SaiV)(w:World)(hS:SaiR w x p) :
  Calls prog 39 #[.agg (Qa x p)] w fun e w'=>Yn w' w.heap.size (X0 x) (VU x) e∧yw w w':=by
 have af:=yh (fun X hX=>Ut x p X hX);have al:=yh (fun X h ho=>Uv x p X h ho);have ag:=yh (fun w0 b0 p y base X hW hY ai ho=>Z8b w0 b0 x p y base X hW hY ai ho);obtain⟨r,hr⟩:=yE (QG x);obtain⟨R,hR⟩:=yE (X0 x);have HR:=yh (show R=if r≠0 then r else if x.closed=true then 4 else 0 by rw[hR,hr];rfl);have az:=yh hr;rw[←hr]at af;rw[←hR];have HS:=yh hS;obtain⟨ab,ah⟩:=yE x.closed;rw[←ah]at HR;have ay:=yh ah;obtain⟨U,ar⟩:=yE (VU x);rw[←ar]at ag ⊢;clear hr hR hS ah ar;obtain⟨A,n,cap,B,m,aC,D,nd,cd,E,ne,ce,C,nb,cb⟩:=p;go_enter func39,ntmps39;go_upto_region 0 with(fail);go_cut [1,2,3] (fun p p2 p4 Z=>∃g z,yp p g∧yp p2 z∧p4=.int .i64 0∧w.heap.size≤z∧Blk Z g (Qa x ⟨A,n,cap,B,m,aC,D,nd,cd,E,ne,ce,C,nb,cb⟩) 32∧Blk Z z M9 32∧yw w Z)
 case first=>as_aux_lemma=>
  go_wp2_with fail;go_meet;exact⟨_,_,rfl,rfl,rfl,by omega,QB _ _ _,QC _ _ _,Zl _ _ _⟩
 obtain⟨g,z,rfl,rfl,rfl,hz,hG,hZ,ad⟩:=hcut;obtain⟨I,rfl⟩:=yE wc;have HT:=yh (fun X (hX:yw I X)=>ad.trans (hX.mono ad.size));have HG:=yh (fun X (hX:yw I X)=>hG.bel hX);have HZ:=yh (fun X (hX:yw I X)=>hZ.bel hX);have am:=yh (fun X (hX:yw I X)=>HS.bel (HT X hX))
 have aj:=yh (show ∀(E':Int) V,¬E'=0→yw I V→Yn (V.setRow z (Qa Qf Qh)) w.heap.size E' U (.returned (.tuple #[.agg (Qa Qf Qh),.int .i64 E']))∧yw w (V.setRow z (Qa Qf Qh))from fun E' V h0 hX=>by
  have ae:yw w (V.setRow z (Qa Qf Qh)):=((HT V hX).trans (((Kept.refl (fun k=>k=z) V).setRow (.inl rfl) _).below (B:=w.heap.size) (HT V hX).size (fun k hk e=>by omega)))
  exact⟨⟨Qf,Qh,rfl,(UN h0 _).symm,Vd _ _ ae.size⟩,ae⟩)
 have hb:yw I I:=J4 _ _;have aM:=hZ.lt;have aK:=ad.size;clear hG hZ ad;have Q:=yh (af _ (am _ hb));go_wp2_with (refine yV (.tmp 1) (HG _ hb) underlying32 ?_);refine yM Q fun w1 av=>?_;replace hb:=hb.trans (av.mono hb.size);clear av Q af
 have aD:w1.cell? ⟨g,12,none⟩=some (.bool ab):=by rw[ay.out];exact(HG _ hb).cell rfl
 obtain⟨tv,ax⟩:=yE (decide (r=0) && ab);have aa:=yh ax;clear ax;obtain⟨W2,aG⟩:=yE w1;subst aG;have W:=yh hb;clear hb;go_upto_region 2 with(fail);go_cut [13] (fun v Z=>v=.bool tv∧W2=Z)
 case first=>as_aux_lemma=>
  by_cases q0:r=0
  ·obtain rfl:tv=ab:=by rw[aa.out,J2 q0];rfl
   subst q0;go_wp2_with fail;go_meet;exact⟨rfl,rfl⟩
  ·obtain rfl:tv=false:=by rw[aa.out,J3 q0];rfl
   have q1:(r == 0)=false:=by simpa using q0
   clear q0;go_wp2_with fail;go_meet;exact⟨rfl,rfl⟩
 obtain⟨rfl,rfl⟩:=hcut;have hb:=W.out;clear aD W;cases tv;rotate_left
 ·obtain⟨q0,q1⟩:r=0∧ab=true:=by
   have:=aa.symm;rw[Bool.and_eq_true]at this;exact⟨of_decide_eq_true this.1,this.2⟩
  obtain rfl:R=4:=by rw[HR.out,M2 (by rw[q0];simp),M3 q1]
  have J:=HZ _ hb;clear q0 q1;go_wp2_with (refine yX 32 (.tmp 2) (.tmp 16) z (Qa Qf Qh) J ?_);refine yq2 (.tuple #[.agg (Qa Qf Qh),.int .i64 4]) (k:=2) (u:=3) (J.row _) underlying32 ?_;exact aj _ _ (by decide) hb
 by_cases q0:r=0;rotate_left
 ·obtain rfl:R=r:=by rw[HR.out,M3 q0]
  have q1:(R != 0)=true:=by simpa using q0
  have Q0:=yh q0;have J:=HZ _ hb;clear q0;go_wp2_with (refine yX 32 (.tmp 2) (.tmp 16) z (Qa Qf Qh) J ?_);refine yq2 (.tuple #[.agg (Qa Qf Qh),.int .i64 R]) (k:=2) (u:=3) (J.row _) underlying32 ?_;exact aj _ _ Q0 hb
 have ak:=yh (Zj (az.symm.trans q0))
 obtain rfl:R=0:=by
  have:=aa.symm;rw[J2 q0,Bool.true_and]at this;rw[HR.out,M2 (by rw[q0];simp),M2 (by rw[this];simp)]
 subst q0;have Q:=yh (al _ (am _ hb) ak);have aI:=hb.size;go_wp2_with (refine yV (.tmp 1) (HG _ hb) underlying32 ?_);refine Q.mono ?_;rintro e O ⟨F,rfl,aE,aw⟩;obtain⟨w0,b0,ac⟩:=aE;replace hb:=hb.trans (aw.mono hb.size);have ap:=ac.bel (Qi O (.cells (Qa x F) 162))
 have ai:w0.heap.size≤O.heap.size:=by obtain⟨_,_,a3,_⟩:=ac;exact a3
 have aL:W2.heap.size≤w0.heap.size:=by obtain⟨a1,a2,_⟩:=ac;omega
 have Q:=yh (ag w0 b0 F O.heap.size _ _ ap (Blk.new O (Qa x F) 162) ai ak);have W:=yh (hb.trans ((Qi O (.cells (Qa x F) 162)).mono hb.size));clear ac ap aw al ag hb;go_wp2_with fail;refine Q.mono ?_;rintro e Y ⟨rfl,aq,au,an⟩;have aH:=W.size;have hb:yw I Y:=W.trans (an.below (B:=I.heap.size) aH (fun k hk e=>by omega));have J:=HZ _ hb
 have aJ:O.heap.size < (O.alloc (.cells (Qa x F) 162)).heap.size:=by simp
 have aA:=yh aq;clear aq;have aB:=yh au;clear an au Q;go_wp2_with (first | (refine wpList_load_row rfl 32 (.tmp 26) rfl O.heap.size rfl 162 _ (0,0) _ aB underlying32 rfl (by kernel_rfl) ?_) | (refine yX 32 (.tmp 2) (.tmp 27) z (Qa U F) J ?_));refine yq2 (.tuple #[.agg (Qa U F),.int .i64 0]) (k:=2) (u:=3) (J.row _) underlying32 ?_;have ao:Kept (fun k=>k=z) Y (Y.setRow z (Qa U F)):=(Kept.refl (fun k=>k=z) Y).setRow (.inl rfl) _;have ae:=((HT _ hb).trans (ao.below (B:=w.heap.size) (HT _ hb).size (fun k hk e=>by omega)));have aF:SaiO Y W2.heap.size U F:=⟨w0,b0,aA⟩;exact⟨⟨U,F,rfl,(Z5 _).symm,(aF.kept ao (fun k hk e=>by omega)).mono (by omega)⟩,ae⟩
theorem UJb {y z:Sai}(F:y.ship=z.ship)(I:y.bks=z.bks):QV y=QV z:=by
 obtain⟨s,f,d,l,b,c⟩:=y;obtain⟨Q,E,D,J,b',A⟩:=z;simp only at F I;subst F I;have O:Zh ⟨s,f,d,l,b,c⟩=Zh ⟨s,E,D,J,b,A⟩:=QBa (x:=⟨s,f,d,l,b,c⟩) (y:=⟨s,E,D,J,b,A⟩) (fun _=>rfl) (QF ⟨s,f,d,l,b,c⟩) 0;unfold QV;rw[O]
 rfl
theorem ZIa (x:Sai)(day:Int)(b:Bkg):(Z1 x day b).state=3:=by unfold Z1;split<;>rfl
theorem XQb (x:Sai)(day:Int)(b:Bkg):(Z1 x day b).id=b.id:=by unfold Z1;split<;>rfl
theorem Ya {x:Sai}{day:Int}{b:Bkg}(h:VZ day b=true):Vs x day b=Z1 x day b:=M3 h
theorem YT {x:Sai}{day:Int}{b:Bkg}(h:VZ day b=false):Vs x day b=b:=M2 (by rw[h];simp)
theorem YVa (x:Sai)(day:Int)(b:Bkg):(Vs x day b).id=b.id:=by
 rcases Bool.eq_false_or_eq_true (VZ day b)with h | h
 ·rw[Ya h,XQb]
 ·rw[YT h]
theorem Q5b {x:Sai}{day:Int}{b:Bkg}(h:Qx (Vs x day b)=true):Vs x day b=b:=by
 rcases Bool.eq_false_or_eq_true (VZ day b)with q | q
 ·rw[Ya q]at h;unfold Qx at h;rw[ZIa]at h;simp at h
 ·exact YT q
theorem UWa (x:Sai)(day:Int):∀l:List Bkg,((l.map (Vs x day)).filter Qx).Sublist l
 | []=>List.Sublist.slnil
 | b::l=>by
  rw[List.map_cons,List.filter_cons]
  split
  ·next h=>rw[Q5b h];exact(UWa x day l).cons_cons b
  ·exact(UWa x day l).cons b
theorem UWb {x:Sai}{day:Int}(h:QG x=0):QV (UG x day)=0:=
 (UJb (y:=UG x day) (z:=Zw x (x.bks.map (Vs x day))) rfl rfl).trans ((Zna x _).symm.trans (YJa h (UWa x day x.bks)))
theorem XPb {x:Sai}{day:Int}{X:Shp}{b:Bkg}(A:OkBk X b):OkBk X (Vs x day b):=by
 rcases Bool.eq_false_or_eq_true (VZ day b)with q | q
 ·rw[Ya q];unfold Z1
  split
  ·next h=>exact Zpb A h
  ·exact⟨A.kind,by show Qd 3 1 3=true;decide,A.id,A.gst,A.span,A.kindE,by show Qd 0 0 9999=true;decide,fun h=>absurd rfl h,A.fol⟩
 ·rw[YT q];exact A
theorem Q6b {x:Sai}{day:Int}(h:QG x=0)(F:0≤day∧day≤9999):QG (UG x day)=0:=by
 have A:=Zj h;refine XHa (y:=UG x day) (XH h).1 A.fares (Zc F.1 F.2) A.leaves (by show(x.bks.map _).length≤16;rw[List.length_map];exact A.bs.len) (fun b D=>?_) ?_ ?_ (UWb h)
 ·obtain⟨c,E,rfl⟩:=List.mem_map.1 D;exact ZBb (XPb (A.bs.bk c E))
 ·refine VG.2 (List.pairwise_map.2 ((VG.1 (QN A.bs.rise)).imp fun {a b} hab=>?_));rw[YVa,YVa];exact hab
 ·refine List.any_eq_false.2 fun b D=>?_;obtain⟨c,E,rfl⟩:=List.mem_map.1 D;rcases Bool.eq_false_or_eq_true (VZ day c)with q | q
  ·rw[Ya q];unfold U1 Qx;rw[ZIa];simp
  ·rw[YT q];exact List.any_eq_false.1 A.bs.bad c E
theorem UXb {x:Sai}{day:Int}(h:Qna x day=0):QG x=0∧(0≤day∧day≤9999)∧x.day < day:=by
 unfold Qna at h;by_cases h0:QG x≠0
 ·rw[M3 h0]at h;exact absurd h h0
 rw[M2 h0]at h;by_cases h1:Qd day 0 9999=false
 ·rw[M3 h1]at h;omega
 rw[M2 h1]at h;by_cases h2:day≤x.day
 ·rw[M3 h2]at h;omega
 exact⟨Decidable.not_not.1 h0,Qm.1 (Z2 h1),by omega⟩
theorem Qjb {x:Sai}(h:X0 x=0):QG x=0∧x.closed=false:=by
 unfold X0 at h;by_cases h0:QG x≠0
 ·rw[M3 h0]at h;exact absurd h h0
 rw[M2 h0]at h;refine⟨Decidable.not_not.1 h0,?_⟩;cases hc:x.closed
 ·rfl
 ·rw[M3 hc]at h;omega
def Qbc (K:World→Prop) (w w':World) (X:Sai) (e:Ending):Prop:=∃p',e=.returned (.agg (Qa X p'))∧∀V,K V→NewSame w w' V→SaiR V X p'
theorem Yua (x:Sai)(b:Bkg)(j:Nat):∀d,∃r,Ub x b (j+d)=Ub x b j++r
 | 0=>⟨[],by simp⟩
 | d+1=>by
  obtain⟨r,A⟩:=Yua x b j d;exact⟨_,by rw[show j+(d+1)=(j+d)+1 by omega,XO,A,List.append_assoc]⟩
theorem VBb {x:Sai}{b:Bkg}{c m:Nat}{P:Int→Bool}(I:m=x.ship.cabs.length)(J:c < m)(D:(Ub x b c).find? P=none)(F:(Zd x.ship b c && QL x.bks c)=true)(E:P (c:Int)=true):(Um x b).find? P=some (c:Int):=by
 obtain⟨r,A⟩:=Yua x b (c+1) (m - (c+1));rw[show c+1+(m - (c+1))=m by omega]at A;rw[QIa,←I,A,XO,M3 F,List.append_assoc,List.find?_append,D];simp[E]
theorem VJa {x:Sai}{b:Bkg}{c:Nat}{P:Int→Bool}(A:(Ub x b c).find? P=none)(h:(Zd x.ship b c && QL x.bks c)=true→P (c:Int)=false):(Ub x b (c+1)).find? P=none:=by
 rw[XO,List.find?_append,A]
 split
 ·next he=>simp[h he]
 ·simp
theorem ZPb (K:World→Prop)(x:Sai)(p:SaiV)(L:List (List Value))(w:World)(bH:∀V V',K V→yw V V'→K V')(aQ:∀V,K V→SaiR V x p)(bF:∀V,K V→Pts ZJ V L x.bks)(aS:K w)(bJ:Sl (ZS 11) 11 w All p.C p.nb p.cb L)(ho:OkSai x) :
  Calls prog 132 #[.agg (Qa x p)] w fun e w'=>Qbc K w w' (VU x) e∧yw w w':=by
 have co:=yh (fun K Y D i b A3 n3 W Lk V J h2 h3 h4 h5 h6 h7 h8=>X8 K Y D i b A3 n3 W Lk V J h2 h3 h4 h5 h6 h7 h8);have hS:=aQ w aS;have af:=yh (show x.bks.length=p.nb from hS.bks.len)
 have bw:p.nb≤16:=by have:=ho.bs.len;have:=af.out;omega
 have HO:=yh ho;have ce:=yh bH;have cg:=yh aQ;have cf:=yh bF;have ax:=yh aS;have ch:=yh bJ;clear hS bH aQ bF aS bJ ho;go_enter func132,ntmps132;go_upto_region 0 with(fail);go_cut [1,2] (fun p1 p2 U=>∃g z,yp p1 g∧yp p2 z∧w.heap.size≤g∧w.heap.size≤z∧g≠z∧Blk U g (Qa x p) 32∧Blk U z M9 32∧yw w U)
 case first=>as_aux_lemma=>
  go_wp2_with fail;go_meet;exact⟨_,_,rfl,rfl,J5 _,by omega,by omega,QB _ _ _,QC _ _ _,Zl _ _ _⟩
 obtain⟨g,z,rfl,rfl,hg,hz,cD,hG,hZ,ai⟩:=hcut;obtain⟨W1,rfl⟩:=yE wc;have cW:=ai.size;have cK:=hG.lt;have cZ:=hZ.lt;have HT:=yh (fun X (hX:Kept (fun j=>j=g) W1 X)=>ai.trans (hX.below (B:=w.heap.size) ai.size (fun k hk e=>by omega)));have ao:=yh (fun X (hX:Kept (fun j=>j=g) W1 X)=>ce w X ax (HT X hX));have cu:=yh (fun X (hX:Kept (fun j=>j=g) W1 X)=>hZ.kept hX (fun e=>cD e.symm));have b9:=yh hG;have b3:=yh ai;clear hG hZ ai;go_wp2_with fail
 go_loopg [3] p.nb (fun gk iv wr=>∃(i:Nat) (D:SaiV) (Lk:List (List Value)) (Q:Nat→Prop),i≤p.nb∧p.nb - i≤gk∧iv=.int .i64 i∧Blk wr g (Qa x D) 32∧D.nb=p.nb∧Sl (ZS 11) 11 wr All D.C D.nb D.cb Lk∧(∀j,Q j→W1.heap.size≤j∧j < wr.heap.size)∧(∀V,K V→(∀j,Q j→V.heap[j]? = wr.heap[j]?)→SaiR V (Qu x i) D∧Pts ZJ V Lk (Qu x i).bks)∧Kept (fun j=>j=g) W1 wr)
 case atStart=>exact⟨0,p,L,fun _=>False,M0 _,by omega,rfl,b9,rfl,ch.bel b3,fun j h=>h.elim,fun V F _=>⟨cg V F,cf V F⟩,Kept.refl _ _⟩
 case round=>
  obtain⟨i,D,Lk,Q,hi,cJ,rfl,hG,a5,aG,hQ,hI,hK⟩:=hrel;obtain⟨V1,rfl⟩:=yE wr;have cY:=hK.size;have hc:=Va HO i (by have:=af.out;omega)
  have ah:V1.cell? ⟨g,11,none⟩=some (.slice D.C p.nb D.cb):=by rw[←a5];exact hG.cell rfl
  by_cases hlt:i < p.nb
  ·obtain⟨b,ba⟩:∃b,x.bks[i]? = some b:=⟨_,J1 (by have:=af.out;omega)⟩;have aV:(Qu x i).bks[i]? = some b:=hc.at.trans ba;obtain⟨E,I,cs,hA,bI,cE,bP⟩:=Zma (k:=i) aG (by omega);obtain⟨A3,n3,W,rfl,bD,bT⟩:=YP (K:=fun V=>K V∧∀j,Q j→V.heap[j]? = V1.heap[j]?) (fun V F=>(hI V F.1 F.2).2) bI aV ⟨ao _ hK,fun _ _=>rfl⟩;rw[hA]at ah;have cN:(0:Int)≤(i:Int):=Int.natCast_nonneg _
   have cO:(i:Int) < (p.nb:Int):=by omega
   obtain⟨op,a3⟩:=yE (QE b);have HC:=yh (fun X=>Uqa b (.slice A3 n3 W) X);rw[←a3]at HC;have HM:=yh (show V1.rangeAt E (I+i*11) (Qj b (.slice A3 n3 W)).toList from bP);have ay:=yh a5;have HA:=yh hA;have ad:=yh bD;have b8:=yh bT;have bh:=yh hc;have cr:=yh ba;clear ba;have ar:=yh aV;clear aV;have ag:=yh a3;clear a3;have HG:=yh hG;clear hG;have bu:=yh aG;clear aG;have HQ:=yh hQ;clear hQ;have HI:=yh hI;clear hI;have HK:=yh hK;clear hK;clear a5 hA bI cE bP bD bT hc;go_wp2_with (refine wpList_load_mid rfl 63 (.tmp 19) rfl E (I+i*11) rfl (Qj b (.slice A3 n3 W)).toList _ HM underlying63 rfl (by kernel_rfl) ?_);refine yM (HC _) fun w2 aX=>?_;have am:=yh aX;have cF:=aX.size;clear ah aX HC;cases op
   ·have HE:=yh (show Qu x (i+1)=Qu x i from XZ ar ag.symm);go_wp2_with fail;go_roundg (p.nb - (i+1))
    case measure=>omega
    case rel=>exact⟨i+1,D,Lk,Q,by omega,by omega,by go_num,HG.bel am,ay,bu.bel am,fun j Z=>⟨(HQ j Z).1,by have:=(HQ j Z).2;omega⟩,fun V F hS=>by rw[HE.out];exact HI V F (fun j Z=>(hS j Z).trans (am.block j (HQ j Z).2)),HK.trans (Kept.of_below am (fun q J h2=>absurd J (by omega)))⟩
   obtain⟨W2,cC⟩:=yE w2;subst cC;obtain⟨Y,hY⟩:=yE (Qu x i);have ct:=yh hY;have aK:=HI.out;rw[←hY]at aK;have aa:=bh.out;have aH:=ar.out;rw[←hY]at aa aH;have aL:=yh aK;have ar:=yh aH;have c2:=yh aa;obtain⟨Pf,aU⟩:∃f:Int→Bool,f=fun c=>Uq ((QF Y).length - 1) (shE c (Zh Y)):=⟨_,rfl⟩;have bq:=yh aU;have bX:=aa.pick cr ag.symm
   have cj:=yh (show ∃c:Nat,(Um Y b).find? Pf=some (c:Int)from by
    obtain⟨c,J,_⟩:=bX
    exact⟨c,by rw[aU];exact J⟩)
   have aj:=(aL V1 (ao _ HK) (fun _ _=>rfl)).1
   have a4:D.m=x.ship.cabs.length:=by have h:=aj.cabs.len;rw[aa.ship]at h;exact h.symm
   have cP:D.m≤12:=by have:=HO.bs.ship.cabs12;omega
   have aN:=yh a4;have cH:=yh (fun V (F:yw V1 V)=>aj.bel F);have aJ:=yh (fun V (F:yw V1 V)=>HG.bel F);have bb:=Q0a HO.bs.ship aa.bk;have cp:=yh (fun(c:Nat) V (F:yw V1 V)=>Yq (some ⟨E,I,none⟩) p.nb D.cb Y.bks (c:Int) V (by have h:=(aj.bel F).bks;rw[HA.out,ay.out]at h;exact h) bb);have b7:=yh (fun c:Nat=>VIa (c:=c) bb)
   have cq:=yh (show ∀c:Nat,c < D.m→ZN Y.bks (c:Int)=true from fun c hc=>by
    have h:=(QVa aa.room).1;unfold Ue at h;have:=List.any_eq_false.1 h c (List.mem_range.2 (by rw[aa.ship,←a4];exact hc))
    simpa using this)
   have aE:=aa.bk b (J6 aH);have b5:=yh (fun(c:Nat) V (F:yw V1 V) (hc:c < D.m)=>VQ x.ship D.A D.n D.cap D.B D.m D.cap2 b (.slice A3 n3 W) c V (by have h:=(aj.bel F).cats;rw[aa.ship]at h;exact h) (by have h:=(aj.bel F).cabs;rw[aa.ship]at h;exact h) HO.bs.ship hc (QNa aE ag.symm).1 (by have h:=(QNa aE ag.symm).2;have h2:=aj.cats.len;rw[aa.ship]at h2;omega));have bg:=yh aE
   have aq:=yh (show ∀V,yw V1 V→(fun w'=>(yI w' g 0 x.ship.legs∧yI w' g 1 x.ship.souls∧yJ w' g 2 D.A D.n D.cap∧yJ w' g 3 D.B D.m D.cap2∧yJ w' g 11 (some ⟨E,I,none⟩) p.nb D.cb)∧(yI w' E (I+i*11) b.id∧yI w' E (I+i*11+1) b.kind∧yI w' E (I+i*11+2) b.state∧yI w' E (I+i*11+3) b.gst∧w'.cell? ⟨E,I+i*11+4,none⟩=some (.bool b.lev)∧yI w' E (I+i*11+5) b.cab∧yI w' E (I+i*11+6) b.cat∧yI w' E (I+i*11+7) b.frm∧yI w' E (I+i*11+8) b.upto∧yI w' E (I+i*11+9) b.til∧yJ w' E (I+i*11+10) A3 n3 W)) V from fun V F=>by
    have c:=HG.bel F
    exact⟨⟨c.cell rfl,c.cell rfl,c.cell rfl,c.cell rfl,by rw[←ay.out,←HA.out];exact c.cell rfl⟩,⟨Qg F (HM.out 0 _ rfl),Qg F (HM.out 1 _ rfl),Qg F (HM.out 2 _ rfl),Qg F (HM.out 3 _ rfl),Qg F (HM.out 4 _ rfl),Qg F (HM.out 5 _ rfl),Qg F (HM.out 6 _ rfl),Qg F (HM.out 7 _ rfl),Qg F (HM.out 8 _ rfl),Qg F (HM.out 9 _ rfl),Qg F (HM.out 10 _ rfl)⟩⟩)
   clear hY aK aa aH aU bX aj a4 bb aE HI bh;go_wp2_with fail
   go_loopg [4] D.m (fun gk iv wr=>∃(c:Nat),c≤D.m∧D.m - c≤gk∧iv=.int .i64 c∧(Ub Y b c).find? Pf=none∧yw V1 wr)
   case atStart=>exact⟨0,M0 _,by omega,rfl,rfl,am⟩
   case round=>
    obtain⟨c,hc,cI,rfl,a2,hb⟩:=hrel;obtain⟨V2,rfl⟩:=yE wr;have g3:yJ V2 g 3 D.B D.m D.cap2:=(aJ _ hb).cell rfl;by_cases hlc:c < D.m
    ·have ah:yJ V2 g 11 (some ⟨E,I,none⟩) p.nb D.cb:=(aq _ hb).1.2.2.2.2;have bt:=yh (cp c V2 hb);have aM:=yh a2;have HB:=yh hb;clear hb;clear a2;go_wp2_with fail;refine bt.mono ?_;rintro e w5 ⟨v5,c0,rfl,bL,al⟩;obtain⟨A5,n5,c5,rfl,bZ⟩:=bL.sl Qv;have bV:(ZTa Y.bks (c:Int)).length=n5:=bZ.len;have bj:=yh (show QL Y.bks c=decide (n5=0)by rw[←b7.out c,cq.out c hlc,bV];rfl);have hb:=HB.trans (al.mono HB.size);clear al bL bZ bV g3 ah bt;obtain⟨V3,cB⟩:=yE w5;subst cB;have bc:=yh hb;clear hb;obtain⟨f,hf⟩:=yE (Zd x.ship b (c:Int));have bi:=yh (fun V F=>b5 c V F hlc);rw[←hf]at bi;have HF:=yh hf;clear hf;obtain⟨tv,b1⟩:=yE (!decide (n5=0) || !f);have aA:=yh b1;clear b1;go_upto_region 9 with(fail);go_cut [52] (fun q U=>q=.bool tv∧yw V1 U)
     case first=>
      have ac:=bc.drew;by_cases h5:n5=0
      ·have hv:tv = !f:=by rw[aA.out,J2 h5];rfl
       have HV:=yh hv;have cx:decide ((0:Int) < (n5:Int))=false:=J3 (by omega);have cy:decide (0 < n5)=false:=J3 (by omega);clear h5 hv;refine yZ (S:=(fun w'=>(yI w' g 0 x.ship.legs∧yI w' g 1 x.ship.souls∧yJ w' g 2 D.A D.n D.cap∧yJ w' g 3 D.B D.m D.cap2∧yJ w' g 11 (some ⟨E,I,none⟩) p.nb D.cb)∧(yI w' E (I+i*11) b.id∧yI w' E (I+i*11+1) b.kind∧yI w' E (I+i*11+2) b.state∧yI w' E (I+i*11+3) b.gst∧w'.cell? ⟨E,I+i*11+4,none⟩=some (.bool b.lev)∧yI w' E (I+i*11+5) b.cab∧yI w' E (I+i*11+6) b.cat∧yI w' E (I+i*11+7) b.frm∧yI w' E (I+i*11+8) b.upto∧yI w' E (I+i*11+9) b.til∧yJ w' E (I+i*11+10) A3 n3 W))) (aq _ ac) fun bC=>?_;refine yT [0,1,2,3,4,5,6,7,8,9,10,11] ?_;iterate 12 (refine yS ?_;simp only[yU])
       refine yR 12 fun K hK=>?_;go_simp
       (go_at_call 147;refine yM (bi _ ac) fun w6 ab=>?_;replace ac:=ac.trans (ab.mono ac.size);clear ab)
       go_wp2_with fail;refine hK.out _ _ (aq _ ac) fun bC=>?_;clear hK K
       try simp only[yU]
       refine yT [13,14] ?_;iterate 2 (refine yS ?_;simp only[yU])
       refine yD ?_;go_wp2_with fail;go_meet;exact⟨by rw[HV.out],ac⟩
      ·have hv:tv=true:=by rw[aA.out,J3 h5];rfl
       have HV:=yh hv;have cx:decide ((0:Int) < (n5:Int))=true:=J2 (by omega);have cy:decide (0 < n5)=true:=J2 (by omega);clear h5 hv;refine yZ (S:=(fun w'=>(yI w' g 0 x.ship.legs∧yI w' g 1 x.ship.souls∧yJ w' g 2 D.A D.n D.cap∧yJ w' g 3 D.B D.m D.cap2∧yJ w' g 11 (some ⟨E,I,none⟩) p.nb D.cb)∧(yI w' E (I+i*11) b.id∧yI w' E (I+i*11+1) b.kind∧yI w' E (I+i*11+2) b.state∧yI w' E (I+i*11+3) b.gst∧w'.cell? ⟨E,I+i*11+4,none⟩=some (.bool b.lev)∧yI w' E (I+i*11+5) b.cab∧yI w' E (I+i*11+6) b.cat∧yI w' E (I+i*11+7) b.frm∧yI w' E (I+i*11+8) b.upto∧yI w' E (I+i*11+9) b.til∧yJ w' E (I+i*11+10) A3 n3 W))) (aq _ ac) fun bC=>?_;refine yT [0,1,2,3] ?_;iterate 4 (refine yS ?_;simp only[yU])
       refine wpAnyH_take (i:=4) (v:=undef) (gA rfl) (by kernel_rfl) (by kernel_rfl) (by kernel_rfl) (fun _ _ _ h=>h) (Or.inr ⟨rfl,rfl⟩) (by assumption) ?_;simp only[yU];refine wpAnyH_take (i:=5) (v:=undef) (gA rfl) (by kernel_rfl) (by kernel_rfl) (by kernel_rfl) (fun _ _ _ h=>h) (Or.inr ⟨rfl,rfl⟩) (by assumption) ?_;simp only[yU];refine wpAnyH_take (i:=6) (v:=undef) (gA rfl) (by kernel_rfl) (by kernel_rfl) (by kernel_rfl) (fun _ _ _ h=>h) (Or.inr ⟨rfl,rfl⟩) (by assumption) ?_;simp only[yU];refine wpAnyH_take (i:=7) (v:=undef) (gA rfl) (by kernel_rfl) (by kernel_rfl) (by kernel_rfl) (fun _ _ _ h=>h) (Or.inr ⟨rfl,rfl⟩) (by assumption) ?_;simp only[yU];refine wpAnyH_take (i:=8) (v:=undef) (gA rfl) (by kernel_rfl) (by kernel_rfl) (by kernel_rfl) (fun _ _ _ h=>h) (Or.inr ⟨rfl,rfl⟩) (by assumption) ?_;simp only[yU];refine wpAnyH_take (i:=9) (v:=undef) (gA rfl) (by kernel_rfl) (by kernel_rfl) (by kernel_rfl) (fun _ _ _ h=>h) (Or.inr ⟨rfl,rfl⟩) (by assumption) ?_;simp only[yU];refine wpAnyH_take (i:=10) (v:=undef) (gA rfl) (by kernel_rfl) (by kernel_rfl) (by kernel_rfl) (fun _ _ _ h=>h) (Or.inr ⟨rfl,rfl⟩) (by assumption) ?_;simp only[yU];refine wpAnyH_take (i:=11) (v:=undef) (gA rfl) (by kernel_rfl) (by kernel_rfl) (by kernel_rfl) (fun _ _ _ h=>h) (Or.inr ⟨rfl,rfl⟩) (by assumption) ?_;simp only[yU];refine wpAnyH_take (i:=12) (v:=undef) (gA rfl) (by kernel_rfl) (by kernel_rfl) (by kernel_rfl) (fun _ _ _ h=>h) (Or.inr ⟨rfl,rfl⟩) (by assumption) ?_;simp only[yU];refine wpAnyH_take (i:=13) (v:=undef) (gA rfl) (by kernel_rfl) (by kernel_rfl) (by kernel_rfl) (fun _ _ _ h=>h) (Or.inr ⟨rfl,rfl⟩) (by assumption) ?_;simp only[yU];refine yT [14] ?_;iterate 1 (refine yS ?_;simp only[yU])
       refine yD ?_;go_wp2_with fail;go_meet;exact⟨by rw[HV.out],ac⟩
     obtain⟨rfl,aY⟩:=hcut;obtain⟨V4,rfl⟩:=yE wc;have cQ:=aY.size;have an:=yh aY;clear aY bc HB;have bm:=yh (show Zd Y.ship b (c:Int)=f by rw[c2.out.ship];exact HF.symm);cases tv;rotate_left
     ·have bW:¬(Zd Y.ship b (c:Int) && QL Y.bks c)=true:=by
       rw[bm.out,bj.out];intro h;rw[Bool.and_eq_true]at h;have J:=aA.out;rw[h.1,h.2]at J;exact absurd J (by decide)
      have HN:=yh (VJa aM (fun h=>absurd h bW));clear bW;go_wp2_with fail;go_roundg (D.m - (c+1))
      case measure=>omega
      case rel=>exact⟨c+1,by omega,by omega,by go_num,HN,an⟩
     obtain⟨bU,bR⟩:f=true∧QL Y.bks c=true:=by
      rw[bj.out];have J:=Bool.or_eq_false_iff.1 aA.symm;exact⟨by simpa using J.2,by simpa using J.1⟩
     have bn:=yh bU;have bl:=yh bR;clear bU bR;have ah:yJ V4 g 11 (some ⟨E,I,none⟩) p.nb D.cb:=(aq _ an).1.2.2.2.2;have bp:=yh (show V4.rangeAt E (I+i*11) (Qj b (.slice A3 n3 W)).toList from fun j u hu=>Qg an (HM j u hu));go_upto_region 10 with(fail);go_cut [7] (fun p U=>∃h,yp p h∧V4.heap.size≤h∧Blk U h (Qj b (.slice A3 n3 W)) 63∧yw V4 U)
     case first=>
      go_wp2_with (first | (refine wpList_load_mid rfl 63 (.tmp 56) rfl E (I+i*11) rfl (Qj b (.slice A3 n3 W)).toList _ bp underlying63 rfl (by kernel_rfl) ?_) | (refine wpList_store_row rfl 63 (.tmp 7) (.tmp 57) rfl V4.heap.size (Qj b (.slice A3 n3 W)) rfl rfl 63 _ (Blk.new V4 M8 63) (by kernel_rfl) rfl (Z4 _ _ _ _) ?_));go_meet;exact⟨_,rfl,J5 _,(Blk.new V4 _ _).row _,M5 (Qi V4 _) (J5 _) _⟩
     obtain⟨h,rfl,hh,hH,al⟩:=hcut;obtain⟨V5,rfl⟩:=yE wc;have cS:=al.size;have cM:=hH.lt;have h5:yI V5 h 5 b.cab:=hH.cell rfl;have f5:=hH.free 5;have HH:=yh hH;clear hH;have bd:=yh (an.trans (al.mono an.size));clear al ah bp;go_upto_region 11 with(fail);go_cut [] (fun U=>Blk U h (Qj (QI b (c:Int)) (.slice A3 n3 W)) 63∧Kept (fun k=>k=h) V5 U)
     case first=>as_aux_lemma=>
      go_wp2_with fail;go_meet;exact⟨HH.set (j:=5) _,VY V5 h [(5,.int .i64 (c:Int))]⟩
     obtain⟨bB,bE⟩:=hcut;obtain⟨V6,rfl⟩:=yE wc;have ab:yw V1 V6:=bd.trans (bE.below (B:=V1.heap.size) bd.size (fun k hk e=>by omega));have cR:=ab.size;have be:=yh ab;have aO:Kept (fun j=>j=g) W1 V6:=HK.trans (Kept.of_below ab (fun q J h2=>absurd J (by omega)));have cG:=yh aO;have bK:BkIn (QI b (c:Int)):=⟨ad.id,ad.kind,ad.state,ad.gst,show InI (c:Int)from .of (by omega) (by omega),ad.cat,ad.frm,ad.upto,ad.til⟩;have HC:=yh (co (fun V=>K V∧∀j,Q j→V.heap[j]? = V1.heap[j]?) Y D i (QI b (c:Int)) A3 n3 W Lk V6 (fun V F=>(aL V F.1 F.2).1) (fun V F=>(aL V F.1 F.2).2) (fun V F=>b8 V F) ⟨ao _ aO,fun j Z=>ab.block j (HQ j Z).2⟩ (bu.bel ab) bK (by rw[c2.out.len,af.out];exact hlt) (by rw[c2.out.len,af.out];exact bw));rw[QWa c2.out D]at HC;have aI:=yh (aJ _ ab);have cL:=aI.lt;have bo:=yh bB;clear bB bE ab aO bK h5 f5 HH;go_upto_region 12 with(fail);go_cut [8] (fun v U=>∃s q O,yp v s∧Blk U s (Qa x O) 32∧V6.heap.size≤q∧q < U.heap.size∧O.nb=D.nb∧(∀X,(K X∧∀j,Q j→X.heap[j]? = V1.heap[j]?)→X.heap[q]? = U.heap[q]?→SaiR X (QR Y i (QI b (c:Int))) O∧Pts ZJ X (Lk.set i (Qj (QI b (c:Int)) (.slice A3 n3 W)).toList) (Y.bks.set i (QI b (c:Int)))∧Sl (ZS 11) 11 X All O.C O.nb O.cb (Lk.set i (Qj (QI b (c:Int)) (.slice A3 n3 W)).toList))∧yw V6 U)
     case first=>
      go_wp2_with (first | (refine yV (.tmp 1) aI underlying32 ?_) | (refine yV (.tmp 7) bo underlying63 ?_));refine HC.mono ?_;rintro e w7 ⟨q,O,he,bY,aF,ak,au,_,bO⟩;rw[show Qa (QR Y i (QI b (c:Int))) O=Qa x O from QWa c2.out O]at he;subst he;have cm:=yh ak;have bf:=yh bO;have ck:=yh au;clear HC ak bO au;go_wp2_with (refine yX 32 (.tmp 8) (.tmp 63) w7.heap.size (Qa x O) (Blk.new w7 M9 32) ?_);go_meet;have a0:yw w7 ((w7.alloc (.cells M9 32)).setRow w7.heap.size (Qa x O)):=M5 (Qi w7 _) (J5 _) _;exact⟨_,q,O,rfl,(Blk.new w7 _ _).row _,bY,Nat.lt_of_lt_of_le aF a0.size,ck,fun X hX hq=>cm X hX (hq.trans (a0.block q aF)),bf.trans (a0.mono bf.size)⟩
     obtain⟨s,q,O,rfl,bN,bY,aF,au,ak,aZ⟩:=hcut;obtain⟨V8,rfl⟩:=yE wc;have cT:=aZ.size;have aD:=be.trans (aZ.mono be.size);have aP:Kept (fun j=>j=g) W1 V8:=HK.trans (Kept.of_below aD (fun q J h2=>absurd J (by omega)));have b0:=(ak V8 ⟨ao _ aP,fun j Z=>aD.block j (HQ j Z).2⟩ rfl).1;obtain⟨rm,a7⟩:=yE (QV (QR Y i (QI b (c:Int))))
     have ap:=yh (XU (QR Y i (QI b (c:Int))) O V8 b0 (by show OkShp Y.ship;rw[c2.out.ship];exact HO.bs.ship) (fun d hd=>by
      show OkBk Y.ship d
      rw[c2.out.ship];rcases X5 hd with J | rfl
      ·exact c2.bk d J
      ·exact VVa bg ag.symm (by rw[←aN.out];exact hlc) (by rw[←HF.out];exact bn)) (by show(Y.bks.set i (QI b (c:Int))).length≤16;rw[List.length_set,c2.out.len,af.out];exact bw))
     rw[show Qa (QR Y i (QI b (c:Int))) O=Qa x O from QWa c2.out O,←a7]at ap
     have a8:rm=if Pf (c:Int)=true then 0 else 9:=by
      rw[a7,ZEb (by rw[c2.out.ship];exact HO.out.bs.ship) (by rw[c2.out.ship];exact bg.out) c2.out.room ar.out c2.out.none ag.out.symm bl.out,bq.out]
     obtain⟨pv,a6⟩:=yE (Pf (c:Int));rw[←a6]at a8;have br:=yh a6;have az:=yh bN;have av:=yh aD;have bv:=yh ak;have cl:=yh au;have cc:=yh aP
     have bx:(Zd Y.ship b (c:Int) && QL Y.bks c)=true:=by rw[bm.out,bn.out,bl.out];rfl
     have b6:=yh bx;clear bN aD ak au aP b0 a7 aZ a6 aI bo HC bx;cases pv
     ·obtain rfl:rm=9:=a8;have HN:=yh (VJa aM (fun _=>br.symm));go_wp2_with (refine yV (.tmp 8) az underlying32 ?_);refine yM ap fun w9 ae=>?_;have aw:=yh (av.trans (ae.mono av.size));clear ae ap;go_wp2_with fail;go_roundg (D.m - (c+1))
      case measure=>omega
      case rel=>exact⟨c+1,by omega,by omega,by go_num,HN,aw⟩
     obtain rfl:rm=0:=a8;have a1:=VBb (show D.m=Y.ship.cabs.length by rw[c2.out.ship];exact aN) hlc aM b6 br.symm
     have ci:=yh (show Qu x (i+1)=QR Y i (QI b (c:Int))from by
      show Xj (Qu x i) i=_
      rw[←ct.out]
      exact XY ar ag.symm (by unfold V4a;rw[bq.out]at a1;exact a1))
     clear a1;go_wp2_with (refine yV (.tmp 8) az underlying32 ?_);refine yM ap fun w9 ae=>?_;have cU:=ae.size;have cn:=yh (az.bel ae);have aW:=av.trans (ae.mono av.size);have bA:=aJ _ aW;have aw:=yh ae;have b4:=yh aW;clear ae aW ap az;go_wp2_with (first | (refine yV (.tmp 8) cn underlying32 ?_) | (refine yX 32 (.tmp 1) (.tmp 67) g (Qa x O) bA ?_));go_roundg (p.nb - (i+1))
     case measure=>omega
     case rel=>
      obtain⟨wE,a9⟩:=yE (w9.setRow g (Qa x O))
      have aC:Kept (fun j=>j=g) w9 wE:=by rw[a9];exact(Kept.refl (fun j=>j=g) w9).setRow (.inl rfl) _
      have cz:Blk wE g (Qa x O) 32:=by rw[a9];exact bA.row _
      rw[←a9];have cV:=aC.size;have bG:Kept (fun j=>j=g) W1 wE:=cc.trans ((Kept.of_below aw (fun q J h2=>absurd J (by omega))).trans aC)
      have bM:∀V:World,(∀j,Q j∨j=q→V.heap[j]? = wE.heap[j]?)→(∀j,Q j→V.heap[j]? = V1.heap[j]?)∧V.heap[q]? = V8.heap[q]?:=fun V hS=>⟨fun j Z=>by
        have J:=HQ j Z
        exact(hS j (.inl Z)).trans ((aC.block j (by omega) (by omega)).trans (b4.block j J.2)),(hS q (.inr rfl)).trans ((aC.block q (by omega) (by omega)).trans (aw.block q aF))⟩
      have hE:=bM wE (fun _ _=>rfl);have cA:=bv wE ⟨ao _ bG,hE.1⟩ hE.2;refine⟨i+1,O,_,fun j=>Q j∨j=q,by omega,by omega,by go_num,cz,cl.trans ay,cA.2.2,fun j Z=>?_,fun V F hS=>?_,bG⟩
      ·rcases Z with J | rfl
       ·have:=HQ j J;exact⟨this.1,by omega⟩
       ·exact⟨by omega,by omega⟩
      ·have h9:=bM V hS;rw[ci.out];have:=bv V ⟨F,h9.1⟩ h9.2;exact⟨this.1,this.2.1⟩
    ·obtain rfl:c=D.m:=by omega
     obtain⟨c,bQ⟩:=cj.out;rw[QIa,show Y.ship.cabs.length=D.m by rw[c2.out.ship];exact aN.out.symm,a2]at bQ;cases bQ
  ·obtain rfl:i=p.nb:=by omega
   have bS:Qu x p.nb=Qu x x.bks.length:=by rw[af.out]
   rw[bS]at hI;have ai:=hK;have cv:=hG.free 12;have cw:V1.cell? ⟨g,12,none⟩=some (.bool x.closed):=hG.cell rfl;have HG:=yh hG;have HI:=yh hI;have HQ:=yh hQ;have HK:=yh hK;clear hG hI hQ hK ai aG hc bS;go_upto_region 15 with(fail);go_cut [] (fun U=>Blk U g (Qa { x with closed:=true } D) 32∧Kept (fun j=>j=g) V1 U)
   case first=>as_aux_lemma=>
    go_wp2_with fail;go_meet;exact⟨HG.set (j:=12) _,VY V1 g [(12,.bool true)]⟩
   obtain⟨bz,aB⟩:=hcut;obtain⟨V2,rfl⟩:=yE wc;have cF:=aB.size;have aR:=HK.trans aB;have b2:=cu _ aR;have ca:=yh bz;have cd:=yh aB;have ax:=yh aR;clear bz aB aR ah cw cv;go_wp2_with (first | (refine yV (.tmp 1) ca underlying32 ?_) | (refine yX 32 (.tmp 2) (.tmp 69) z (Qa { x with closed:=true } D) b2 ?_));refine yq (.agg (Qa { x with closed:=true } D)) (k:=2) (b2.row _) underlying32 ?_;have aT:Kept (fun j=>j=z) V2 (V2.setRow z (Qa { x with closed:=true } D)):=(Kept.refl (fun j=>j=z) V2).setRow (.inl rfl) _;have cX:=aT.size;refine⟨⟨D,by rw[UIa HO.out],fun V F hN=>?_⟩,?_⟩
   ·have h:=(HI V F (fun j Z=>by
     have J:=HQ j Z
     exact(hN j (by omega) (by omega)).trans ((aT.block j (by omega) (by omega)).trans (cd.block j J.2 (by omega))))).1
    exact⟨h.cats,h.cabs,h.fares,h.bks⟩
   ·exact(HT _ ax).trans (aT.below (B:=w.heap.size) (HT _ ax).size (fun k hk e=>by omega))
end Go.Proofs.YtjdcokpmgionjaaGreat
