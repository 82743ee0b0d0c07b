/-
  Words, laws and contracts: VoyP, VoyF, VoyC, VoyD, VoyL, VoyM.
-/
import Derived.Test.YtjdcokpmgionjaaGreatBun32
import Derived.Test.YtjdcokpmgionjaaGreatBun33
import Derived.BigQuiet
set_option linter.unusedSimpArgs false
set_option linter.unusedVariables false
set_option maxRecDepth 100000
set_option maxHeartbeats 20000000
namespace Go.Proofs.YtjdcokpmgionjaaGreat
open Go.RowKit Go.Shelf
def shE (c:Int) (l:List Edg):List Edg:=(l.filter (fun e=>decide (0 < e.lft) && !decide (e.rgt=c))).map (fun e=>⟨e.lft - 1,e.rgt⟩)
theorem Z5a (c:Int)(l m:List Edg):shE c (l++m)=shE c l++shE c m:=by unfold shE;rw[List.filter_append,List.map_append]
theorem YAb (c:Int)(l:List Int):shE c (toE 0 l)=[]:=by
 unfold shE toE
 rw[List.filter_eq_nil_iff.2 (fun e A=>by
  obtain⟨d,_,rfl⟩:=List.mem_map.1 A
  simp)]
 rfl
theorem Umb (c:Int)(i:Nat):∀l:List Int,shE c (toE (i+1) l)=toE i (l.filter (fun d=>!decide (d=c)))
 | []=>rfl
 | d::l=>by
  have E:=Umb c i l;have D:toE (i+1) (d::l)=[⟨((i+1:Nat):Int),d⟩]++toE (i+1) l:=rfl;rw[D,Z5a,E,List.filter_cons]
  have F:(0:Int) < ((i+1:Nat):Int):=by omega
  by_cases hd:d=c
  ·have A:shE c [⟨((i+1:Nat):Int),d⟩]=[]:=by unfold shE;rw[List.filter_cons,if_neg (by simp[hd])];rfl
   rw[A,if_neg (by simp[hd])];rfl
  ·have A:shE c [⟨((i+1:Nat):Int),d⟩]=[⟨(i:Int),d⟩]:=by
    unfold shE;rw[List.filter_cons,if_pos (by simp[hd])]
    show[(⟨((i+1:Nat):Int) - 1,d⟩:Edg)]=_
    rw[show((i+1:Nat):Int) - 1=i by omega]
   rw[A,if_pos (by simp[hd])];rfl
theorem YF (x:Sai)(b:Bkg)(A:List Bkg)(i:Nat):Zs x (b::A) i=toE i (Uj x b)++Zs x A (i+1):=rfl
theorem ZRb {x y:Sai}{c:Int}(D:∀q,Uj y q=(Uj x q).filter (fun d=>!decide (d=c))):∀(A:List Bkg) (i:Nat),Zs y A i=shE c (Zs x A (i+1))
 | [],_=>rfl
 | b::A,i=>by rw[YF,YF,Z5a,Umb,D,ZRb D A (i+1)]
section
variable {x:Sai} {i:Nat} {b:Bkg}
theorem Xh (A:x.bks[i]? = some b):x.bks=x.bks.take i++b::x.bks.drop (i+1):=Q4b A
theorem Vw {l:List Bkg}(A:l[i]? = some b)(b':Bkg):l.set i b'=l.take i++b'::l.drop (i+1):=by
 rw[List.set_eq_take_append_cons_drop,if_pos (List.getElem?_eq_some_iff.1 A).1]
theorem UXa (A:QI b=true):b.kind=2∧Qy b=true∧b.cab < 0:=by
 unfold QI at A;rw[Bool.and_eq_true,Bool.and_eq_true]at A;exact⟨of_decide_eq_true A.1,A.2.1,of_decide_eq_true A.2.2⟩
theorem ZFa (b:Bkg)(c:Nat):QI (Q3 b c)=false:=by
 unfold QI Q3
 have:¬((c:Int) < 0):=by omega
 simp[this]
theorem Z2a (A:x.bks[i]? = some b)(D:QV x i=[])(E:QI b=true):QJ x=b::(x.bks.drop (i+1)).filter QI:=by
 unfold QJ
 conv=>lhs;rw[Xh A]
 rw[List.filter_append,show(x.bks.take i).filter QI=[]from D,List.filter_cons,if_pos E];rfl
theorem Z3a (A:x.bks[i]? = some b)(D:QV x i=[])(c:Nat):QJ (Zx x i (Q3 b c))=(x.bks.drop (i+1)).filter QI:=by
 unfold QJ
 show(x.bks.set i (Q3 b c)).filter QI=_
 rw[Vw A,List.filter_append,show(x.bks.take i).filter QI=[]from D,List.filter_cons,if_neg (by rw[ZFa];simp)];rfl
theorem Ygb (A:x.bks[i]? = some b)(E:QV x i=[])(c:Nat):QV (Zx x i (Q3 b c)) (i+1)=[]:=by
 have D:=(List.getElem?_eq_some_iff.1 A).1;unfold QV
 show((x.bks.set i (Q3 b c)).take (i+1)).filter QI=[]
 rw[Qn (x:=Q3 b c) (List.getElem?_set_self D),List.take_set_of_le (Nat.le_refl i),List.filter_append,show(x.bks.take i).filter QI=[]from E,List.filter_cons,if_neg (by rw[ZFa];simp)];rfl
theorem QYb (E:QI b=true)(c A:Nat):Uv (A:Int) (Q3 b c)=decide (A=c)∧Uv (A:Int) b=false:=by
 obtain⟨_,D,F⟩:=UXa E
 constructor
 ·unfold Uv
  rw[show Qy (Q3 b c)=true from D,Bool.true_and,decide_eq_decide]
  show(c:Int)=A↔_
  omega
 ·unfold Uv
  rw[decide_eq_false (by omega),Bool.and_false]
theorem UWb (D:x.bks[i]? = some b)(I:QI b=true)(c A:Nat):QR (x.bks.set i (Q3 b c)) A=(QR x.bks A && !decide (A=c)):=by
 obtain⟨E,F⟩:=QYb I c A;unfold QR
 conv=>rhs;rw[Xh D]
 rw[Vw D,List.any_append,List.any_cons,List.any_append,List.any_cons,E,F]
 cases(x.bks.take i).any (Uv (A:Int))<;>cases(x.bks.drop (i+1)).any (Uv (A:Int))<;>cases decide (A=c)<;>rfl
theorem Z2b (A:x.bks[i]? = some b)(D:QI b=true)(c:Nat)(q:Bkg):Uj (Zx x i (Q3 b c)) q=(Uj x q).filter (fun d=>!decide (d=(c:Int))):=by
 unfold Uj
 show((List.range x.ship.cabs.length).filter (fun d:Nat=>Zp x.ship q (d:Int) && QR (x.bks.set i (Q3 b c)) d)).map Int.ofNat=_
 rw[List.filter_map,List.filter_filter]
 congr 2
 funext d
 rw[UWb A D]
 show _=(!decide ((d:Int)=(c:Int)) && (Zp x.ship q (d:Int) && QR x.bks d))
 rw[show decide ((d:Int)=(c:Int))=decide (d=c)from decide_eq_decide.2 (by omega)]
 cases Zp x.ship q (d:Int)<;>cases QR x.bks d<;>cases decide (d=c)<;>rfl
theorem XCa (A:x.bks[i]? = some b)(D:QV x i=[])(E:QI b=true)(c:Nat):Zd (Zx x i (Q3 b c))=shE c (Zd x):=by
 unfold Zd;rw[Z2a A D E,Z3a A D,YF,Z5a,YAb,ZRb (Z2b A E c)];rfl
theorem Qvc {q:Bkg}{c:Int}(h:c∈Uj x q):∃d:Nat,c=d∧d < x.ship.cabs.length∧Zp x.ship q d=true∧QR x.bks d=true:=by
 unfold Uj at h;obtain⟨d,E,rfl⟩:=List.mem_map.1 h;obtain⟨D,A⟩:=List.mem_filter.1 E;have A:(Zp x.ship q (d:Int) && QR x.bks d)=true:=A;rw[Bool.and_eq_true]at A;exact⟨d,rfl,List.mem_range.1 D,A.1,A.2⟩
theorem ZNc (E:x.bks[i]? = some b)(I:QI b=true){c A:Nat}(h:¬A=c):spL (x.bks.set i (Q3 b c)) (A:Int)=spL x.bks (A:Int):=by
 obtain⟨D,F⟩:=QYb I c A;rw[decide_eq_false h]at D;unfold spL
 conv=>rhs;rw[Xh E]
 rw[Vw E,List.filter_append,List.filter_cons,if_neg (by rw[D];simp),List.filter_append,List.filter_cons,if_neg (by rw[F];simp)]
theorem Uqb (F:x.bks[i]? = some b)(I:QI b=true){c:Nat}(h:QR x.bks c=true):spL (x.bks.set i (Q3 b c)) (c:Int)=[⟨b.frm,b.upto⟩]:=by
 obtain⟨E,_⟩:=QYb I c c
 have D:∀q∈x.bks,¬Uv (c:Int) q=true:=by
  unfold QR at h;rw[Bool.not_eq_true']at h;exact List.any_eq_false.1 h
 unfold spL;rw[Vw F,List.filter_append,List.filter_cons,if_pos (by rw[E];simp),List.filter_eq_nil_iff.2 (fun q A=>D q (List.take_subset _ _ A)),List.filter_eq_nil_iff.2 (fun q A=>D q (List.drop_subset _ _ A))]
 rfl
theorem Y0b (A:OkShp x.ship)(Q:OkBk x.ship b)(F:ZV x=false)(D:x.bks[i]? = some b)(E:QI b=true){c:Nat}(h:QR x.bks c=true):ZV (Zx x i (Q3 b c))=false:=by
 unfold ZV at F ⊢
 refine List.any_eq_false.2 fun d J=>?_
 have I:ZK x.bks (d:Int)=true:=by simpa using List.any_eq_false.1 F d J
 show ¬(!ZK (x.bks.set i (Q3 b c)) (d:Int))=true
 by_cases q:d=c
 ·subst q
  have O:b.frm < b.upto:=(Qva A Q).2.1
  obtain⟨o,U⟩:=Zta (ls:=spL (x.bks.set i (Q3 b d)) (d:Int)) (fun s A=>by
   rw[Uqb D E h,List.mem_singleton]at A
   rw[A];exact O) (by rw[Uqb D E h];exact List.pairwise_singleton _ _)
  rw[(UL U).1];simp
 ·have:ZK (x.bks.set i (Q3 b c)) (d:Int)=true:=by unfold ZK at I ⊢;rw[ZNc D E q];exact I
  rw[this];simp
theorem QXc (A:x.bks[i]? = some b)(c:Int)(n:Nat):QM (x.bks.set i (Q3 b c)) n=QM x.bks n:=by
 unfold QM
 refine List.map_congr_left fun k _=>?_
 unfold Z4
 conv=>rhs;rw[Xh A]
 rw[Vw A,List.map_append,List.map_cons,List.map_append,List.map_cons]
 rfl
theorem QKa (x:Sai):(Z5 x).length=(QJ x).length:=List.length_map _
theorem QOc (J:OkShp x.ship)(F:OkBk x.ship b)(I:QQ x=0)(A:x.bks[i]? = some b)(D:QV x i=[])(E:QI b=true){c:Nat}(h:QR x.bks c=true) :
  QQ (Zx x i (Q3 b c))=if Z9 ((QJ x).length - 1) (shE c (Zd x))=true then 0 else 9:=by
 obtain⟨O,Q,_⟩:=Z4a I;unfold QQ;rw[if_neg (by rw[Y0b J F O A E h];simp),show(Zx x i (Q3 b c)).bks=x.bks.set i (Q3 b c)from rfl,show(Zx x i (Q3 b c)).ship=x.ship from rfl,QXc A,if_neg Q,XCa A D E,QKa,Z3a A D,Z2a A D E]
 rfl
theorem QMc (A:x.bks[i]? = some b)(E:QV x i=[])(I:QI b=true)(V:Z9 (QJ x).length (Zd x)=true):∃c:Nat,(c:Int)∈Uj x b∧Z9 ((QJ x).length - 1) (shE c (Zd x))=true:=by
 have O:=Z2a A E I;obtain⟨J,D,F,Q⟩:=Yxb (Qta.1 V);rw[O]at D
 rcases J with _ | ⟨⟨b',c⟩,J⟩
 ·cases D
 rw[List.map_cons]at D F
 injection D with e1 e2
 obtain rfl:b'=b:=e1;refine⟨c,Q _ (List.mem_cons_self ..),?_⟩;rw[←XCa A E I c,show(QJ x).length - 1=(QJ (Zx x i (Q3 b' c))).length by rw[O,Z3a A E];rfl];refine Xf (Yyb ⟨J,by rw[Z3a A E];exact e2,(List.nodup_cons.1 F).2,fun p U=>?_⟩);rw[Z2b A I];refine List.mem_filter.2 ⟨Q p (List.mem_cons_of_mem _ U),?_⟩
 have W:¬p.2=c:=fun e=>(List.nodup_cons.1 F).1 (by rw[←e];exact List.mem_map.2 ⟨p,U,rfl⟩)
 have:¬(p.2:Int)=c:=by omega
 simp[this]
end
noncomputable def YXa (x:Sai) (b:Bkg):Option Int:=(Uj x b).find? (fun c=>Z9 ((QJ x).length - 1) (shE c (Zd x)))
noncomputable def XH (x:Sai) (i:Nat):Sai:=match x.bks[i]? with
 | some b=>if QI b=true then (match YXa x b with | some c=>Zx x i (Q3 b c) | none=>x)else x
 | none=>x
noncomputable def QE (x:Sai):Nat→Sai
 | 0=>x
 | k+1=>XH (QE x k) k
noncomputable def UT (x:Sai):Sai:={ QE x x.bks.length with closed:=true }
theorem Qza {x:Sai}{i:Nat}{b:Bkg}(A:x.bks[i]? = some b)(D:QI b=false):XH x i=x:=by
 unfold XH;rw[A]
 show(if QI b=true then _ else _)=_
 rw[D];rfl
theorem Qya {x:Sai}{i:Nat}{b:Bkg}{c:Int}(A:x.bks[i]? = some b)(D:QI b=true)(E:YXa x b=some c):XH x i=Zx x i (Q3 b c):=by
 unfold XH;rw[A]
 show(if QI b=true then _ else _)=_
 rw[if_pos D,E]
structure CloK (x y:Sai) (i:Nat):Prop where
 ship:y.ship=x.ship
 fares:y.fares=x.fares
 day:y.day=x.day
 leaves:y.leaves=x.leaves
 closed:y.closed=x.closed
 ids:y.bks.map (·.id)=x.bks.map (·.id)
 bk:∀b∈y.bks,OkBk x.ship b
 tail:y.bks.drop i=x.bks.drop i
 none:QV y i=[]
 room:QQ y=0
theorem CloK.len {x y:Sai}{i:Nat}(h:CloK x y i):y.bks.length=x.bks.length:=by
 have:=congrArg List.length h.ids
 rwa [List.length_map,List.length_map]at this
theorem CloK.at {x y:Sai}{i:Nat}(h:CloK x y i):y.bks[i]? = x.bks[i]?:=by
 have:=congrArg (fun l:List Bkg=>l[0]?) h.tail
 simpa [List.getElem?_drop] using this
theorem Vkb {X:Shp}{b:Bkg}{c:Nat}(h:OkBk X b)(F:QI b=true)(J:c < X.cabs.length)(E:Zp X b c=true):OkBk X (Q3 b c):=by
 obtain⟨D,_,I⟩:=UXa F;refine⟨h.kind,h.state,h.id,h.gst,h.span,?_,h.til,h.opt,h.fol⟩;have A:=h.kindE;unfold kindE at A ⊢;rw[if_pos D]at A;rw[show(Q3 b c).kind=b.kind from rfl,if_pos D];unfold QTa at A ⊢
 show(if Qc b.cat 0 ((X.cats.length:Int) - 1)=false then (3:Int)else if b.frm≠0∨b.upto≠X.legs then 4 else if Qc (c:Int) (-1) ((X.cabs.length:Int) - 1)=false then 3 else if 0≤(c:Int)∧Zp X (Q3 b c) c=false then 4 else 0)=0
 by_cases q1:Qc b.cat 0 ((X.cats.length:Int) - 1)=false
 ·rw[if_pos q1]at A;omega
 rw[if_neg q1]at A ⊢
 by_cases q2:b.frm≠0∨b.upto≠X.legs
 ·rw[if_pos q2]at A;omega
 rw[if_neg q2,if_neg (by rw[QX (by omega) (by omega)];simp),if_neg];rintro⟨_,q⟩;rw[show Zp X (Q3 b c) c=Zp X b c from rfl,E]at q
 cases q
theorem CloK.start {x:Sai}(A:OkSai x):CloK x x 0:=⟨rfl,rfl,rfl,rfl,rfl,rfl,A.bs.bk,rfl,rfl,A.room⟩
section
variable {x y:Sai} {i:Nat} {b:Bkg}
theorem CloK.pick (h:CloK x y i)(I:x.bks[i]? = some b)(U:QI b=true):∃c:Nat,YXa y b=some (c:Int)∧c < x.ship.cabs.length∧Zp x.ship b c=true∧QR y.bks c=true∧Z9 ((QJ y).length - 1) (shE c (Zd y))=true:=by
 have J:y.bks[i]? = some b:=h.at.trans I;have D:=(Z4a h.room).2.2;rw[QKa]at D;obtain⟨c,E,F⟩:=QMc J h.none U D
 have V:(YXa y b).isSome=true:=by unfold YXa;exact List.find?_isSome.2 ⟨(c:Int),E,F⟩
 obtain⟨e,A⟩:=Option.isSome_iff_exists.1 V;have O:e∈Uj y b:=List.mem_of_find?_eq_some A;have Q:=List.find?_some A;obtain⟨d,rfl,W,X,Y⟩:=Qvc O;exact⟨d,A,by rw[←h.ship];exact W,by rw[←h.ship];exact X,Y,Q⟩
theorem CloK.step (W:OkShp x.ship)(h:CloK x y i)(E:x.bks[i]? = some b):CloK x (XH y i) (i+1):=by
 have A:y.bks[i]? = some b:=h.at.trans E;have Y:=(List.getElem?_eq_some_iff.1 A).1;have F:=h.bk b (List.mem_of_getElem? A)
 rcases Bool.eq_false_or_eq_true (QI b)with D | D
 ·obtain⟨c,I,J,O,Q,U⟩:=h.pick E D
  rw[Qya A D I];refine⟨h.ship,h.fares,h.day,h.leaves,h.closed,?_,fun q V=>?_,?_,Ygb A h.none c,?_⟩
  ·rw[←h.ids]
   show(y.bks.set i (Q3 b c)).map (·.id)=_
   conv=>rhs;rw[Xh A]
   rw[Vw A,List.map_append,List.map_cons,List.map_append,List.map_cons];rfl
  ·rcases Y8 V with X | rfl
   ·exact h.bk q X
   ·exact Vkb F D J O
  ·show(y.bks.set i (Q3 b c)).drop (i+1)=_
   rw[List.drop_set_of_lt (by omega)];have:=congrArg (List.drop 1) h.tail
   rwa [List.drop_drop,List.drop_drop]at this
  ·rw[QOc (by rw[h.ship];exact W) (by rw[h.ship];exact F) h.room A h.none D Q,if_pos U]
 ·rw[Qza A D]
  refine⟨h.ship,h.fares,h.day,h.leaves,h.closed,h.ids,h.bk,?_,?_,h.room⟩
  ·have:=congrArg (List.drop 1) h.tail
   rwa [List.drop_drop,List.drop_drop]at this
  ·rw[UV A,h.none,if_neg (by rw[D];simp)];rfl
end
theorem Vt {x:Sai}(A:OkSai x):∀k,k≤x.bks.length→CloK x (QE x k) k
 | 0,_=>CloK.start A
 | k+1,h=>(Vt A k (by omega)).step A.bs.ship (List.getElem?_eq_getElem (by omega))
theorem Yg {x:Sai}(E:OkSai x){i:Nat} : ∀d,i+d≤x.bks.length→(QV x (i+d)).length=(QV x i).length→QE x (i+d)=QE x i
 | 0,_,_=>rfl
 | d+1,h,he=>by
  have A:x.bks[i+d]? = some (x.bks[i+d]'(by omega)):=List.getElem?_eq_getElem (by omega);have F:=UV A
  have I:∀d,i+d≤x.bks.length→(QV x i).length≤(QV x (i+d)).length:=fun d _=>by
   unfold QV;refine List.Sublist.length_le (List.Sublist.filter _ ?_);exact(List.take_prefix_take_left (by omega)).sublist
  have O:=I d (by omega);rw[show i+(d+1)=i+d+1 by omega,F,List.length_append]at he
  have D:QI (x.bks[i+d]'(by omega))=false:=by
   rcases Bool.eq_false_or_eq_true (QI (x.bks[i+d]'(by omega)))with q | q
   ·rw[q]at he;simp at he;omega
   ·exact q
  rw[D]at he;have J:=Vt E (i+d) (by omega)
  show XH (QE x (i+d)) (i+d)=_
  rw[Qza (J.at.trans A) D,Yg E d (by omega) (by simp at he;omega)]
theorem ZCa {x:Sai}(A:OkSai x){i j:Nat}(D:i≤x.bks.length)(E:j≤x.bks.length)(h:(QV x i).length=(QV x j).length):QE x i=QE x j:=by
 rcases Nat.le_total i j with q | q
 ·have:=Yg A (i:=i) (j - i) (by omega) (by rw[show i+(j - i)=j by omega];exact h.symm)
  rw[show i+(j - i)=j by omega]at this;exact this.symm
 ·have:=Yg A (i:=j) (i - j) (by omega) (by rw[show j+(i - j)=i by omega];exact h)
  rwa [show j+(i - j)=i by omega]at this
theorem Qda {x:Sai} : ∀{n k:Nat} {b:Bkg},(QV x n)[k]? = some b→∃j,j < n∧x.bks[j]? = some b∧QI b=true∧(QV x j).length=k
 | 0,_,_,h=>by simp[QV]at h
 | n+1,k,b,h=>by
  rcases hq:x.bks[n]? with _ | q
  ·have:QV x (n+1)=QV x n:=by
    unfold QV;have F:=List.getElem?_eq_none_iff.1 hq;rw[List.take_of_length_le (by omega),List.take_of_length_le F]
   rw[this]at h;obtain⟨j,E,D⟩:=Qda h;exact⟨j,by omega,D⟩
  ·rw[UV hq]at h
   by_cases hk:k < (QV x n).length
   ·rw[List.getElem?_append_left hk]at h
    obtain⟨j,E,D⟩:=Qda h;exact⟨j,by omega,D⟩
   ·rw[List.getElem?_append_right (by omega)]at h
    rcases Bool.eq_false_or_eq_true (QI q)with A | A
    ·rw[if_pos A]at h
     have I:k - (QV x n).length=0:=by
      have:=(List.getElem?_eq_some_iff.1 h).1
      simp at this;omega
     rw[I]at h
     obtain rfl:q=b:=by simpa using h
     exact⟨n,by omega,hq,A,by omega⟩
    ·rw[if_neg (by rw[A];simp)]at h
     simp at h
theorem Vsb {x y:Sai}{i:Nat}(h:CloK x y i):QJ y=(x.bks.drop i).filter QI:=by
 unfold QJ
 conv=>lhs;rw[←List.take_append_drop i y.bks]
 rw[List.filter_append,show(y.bks.take i).filter QI=[]from h.none,h.tail];rfl
theorem Yib {x:Sai}(i:Nat):(QV x i).length+((x.bks.drop i).filter QI).length=(QJ x).length:=by
 unfold QJ QV
 conv=>rhs;rw[←List.take_append_drop i x.bks]
 rw[List.filter_append,List.length_append]
theorem Y2a (y:Sai)(c:Bool):QQ { y with closed:=c } = QQ y:=by
 have A:Zd { y with closed:=c } = Zd y:=QEa (x:={ y with closed:=c }) (y:=y) (fun _=>rfl) (QJ y) 0;unfold QQ;rw[A]
 rfl
theorem Yla {x:Sai}(h:Qp x=0):Qp (UT x)=0:=by
 have D:=Ze h;have A:=Vt D x.bks.length (Nat.le_refl _);have J:=A.len
 refine XUa (y:=UT x) (by show ZJ (QE x _).ship=0;rw[A.ship];exact(Xi h).1) (by show Zq (QE x _).fares (QE x _).ship.cats.length (QE x _).ship.legs=0;rw[A.ship,A.fares];exact D.fares) (by show Qc (QE x _).day 0 9999=true;rw[A.day];exact D.day)
  (by show Qc (QE x _).leaves 0 9999=true;rw[A.leaves];exact D.leaves) (by show(QE x _).bks.length≤16;rw[J];exact D.bs.len) (fun b F=>by show ofE (QE x _).ship b=0;rw[A.ship];exact Ugb (A.bk b F)) ?_ ?_ ((Y2a _ true).trans A.room)
 ·show Xe (QE x _).bks
  have U:=Vp.1 (Zc D.bs.rise);refine Vp.2 ?_;have I:(x.bks.map (·.id)).Pairwise (· < ·):=List.pairwise_map.2 U;rw[←A.ids]at I;exact List.pairwise_map.1 I
 ·refine List.any_eq_false.2 fun b F=>?_
  have Q:QJ (QE x x.bks.length)=[]:=by
   rw[←Xs J];exact A.none
  have O:¬QI b=true:=fun q=>by
   have:b∈QJ (QE x x.bks.length):=List.mem_filter.2 ⟨F,q⟩;rw[Q]at this
   cases this
  intro E;refine O ?_;unfold UG at E;unfold QI;rw[Bool.and_eq_true,Bool.and_eq_true]at E ⊢;refine⟨E.1,E.2.1,?_⟩;have:=E.2.2
  simpa [UT] using this
noncomputable def VG (n:Nat) (l:List Edg):List Edg→Option Int
 | []=>none
 | e::m=>if 0 < e.lft then none else if Z9 n (shE e.rgt l)=true then some e.rgt else VG n l m
noncomputable def Xga (n:Nat) (l:List Edg):Int:=(VG n l l).getD (-1)
noncomputable def V6a (n:Nat) (l:List Edg):List Edg:=((VG n l l).map (fun c=>shE c l)).getD []
theorem Xfa (n:Nat)(l r:List Edg)(A:∀e∈r,0 < e.lft):∀m:List Int,VG n l (toE 0 m++r)=m.find? (fun c=>Z9 n (shE c l))
 | []=>by
  rcases r with _ | ⟨e,r⟩
  ·rfl
  ·show(if 0 < e.lft then none else _)=none
   rw[if_pos (A e (List.mem_cons_self ..))]
 | c::m=>by
  show(if (0:Int) < ((0:Nat):Int)then none else if Z9 n (shE c l)=true then some c else VG n l (toE 0 m++r))=_
  rw[if_neg (by omega),Xfa n l r A m,List.find?_cons]
  cases Z9 n (shE c l)<;>rfl
theorem Vwb {x:Sai}{b:Bkg}{A:List Bkg}(h:QJ x=b::A)(n:Nat):VG n (Zd x) (Zd x)=(Uj x b).find? (fun c=>Z9 n (shE c (Zd x))):=by
 have D:Zd x=toE 0 (Uj x b)++Zs x A 1:=by unfold Zd;rw[h,YF]
 conv=>lhs;rw[show VG n (Zd x) (Zd x)=VG n (Zd x) (toE 0 (Uj x b)++Zs x A 1)by rw[←D]]
 exact Xfa n _ _ (fun e E=>by have:=V2a x A 1 e E;omega) _
theorem Yzb {l:List Edg}{k:Nat}{e:Edg}(h:l[k]? = some e)(c:Int):shE c (l.take (k+1))=shE c (l.take k)++(if (decide (0 < e.lft) && !decide (e.rgt=c))=true then [⟨e.lft - 1,e.rgt⟩]else []):=by
 rw[Qn h,Z5a]
 congr 1
 unfold shE;rw[List.filter_cons]
 split<;>rfl
theorem Ulb (c:Int)(l:List Edg):(shE c l).length≤l.length:=by
 unfold shE;rw[List.length_map];exact List.length_filter_le _ _
theorem ZKc {n m:Nat}{l:List Edg}(c:Int)(h:ZNa (n+1) m l):ZNa n m (shE c l):=fun e D=>by
 unfold shE at D;obtain⟨q,I,rfl⟩:=List.mem_map.1 D;obtain⟨E,A⟩:=List.mem_filter.1 I;have F:=h q E;rw[Bool.and_eq_true]at A;have J:0 < q.lft:=of_decide_eq_true A.1;refine⟨?_,?_,F.2.2⟩
 ·show 0≤q.lft - 1;omega
 ·show q.lft - 1 < n;omega
theorem Zib {n:Nat}{l m:List Edg}{e:Edg}(h:0 < e.lft):VG n l (e::m)=none:=if_pos h
theorem Zjb {n:Nat}{l m:List Edg}{e:Edg}(h:¬0 < e.lft)(A:Z9 n (shE e.rgt l)=true):VG n l (e::m)=some e.rgt:=(if_neg h).trans (if_pos A)
theorem Zhb {n:Nat}{l m:List Edg}{e:Edg}(h:¬0 < e.lft)(A:¬Z9 n (shE e.rgt l)=true):VG n l (e::m)=VG n l m:=(if_neg h).trans (if_neg A)
theorem UZb (bc ad:Nat)(A:Option Addr)(n cap:Nat)(l:List Edg)(w:World)(h:Sl UM 2 w All A n cap l)(hm:bc+1≤16)(hr:ad≤16)(hg:ZNa (bc+1) ad l)(hn:n≤1000) :
  Calls Tryz.prog 188 #[.int .i64 ((bc+1:Nat):Int),.int .i64 (ad:Int),.slice A n cap] w fun e w'=>∃v xs,e=.returned (.tuple #[.int .i64 (Xga bc l),v])∧Own UM 2 94 w' w.heap.size v (V6a bc l) xs∧yw w w':=by
 have aB:=yh (fun A' n' aK c W hS=>ZBb bc ad A' n' aK (shE c l) W hS (by omega) hr (ZKc c hg));have HS:=yh h;have ao:=yh h.len;have aE:=yh (show ∀c,(shE c l).length≤1000 from fun c=>by have:=Ulb c l;have:=h.len;omega);have aC:=yh hg;have aF:=yh hm
 have aT:IntKind.i64.wrap (((bc+1:Nat):Int) - 1)=(bc:Int):=by rw[IntWalk.i64_in _ (by omega)];omega
 obtain⟨M,hM⟩:∃M,M=((bc+1:Nat):Int):=⟨_,rfl⟩;rw[←hM]at aT ⊢;clear h hg hM hr hm
 go_enter Tryz.func188,Tryz.ntmps188
 go_wp2_with fail
 go_loopg [15] n (fun gk i wr=>∃(k:Nat),k≤n∧n - k≤gk∧i=.int .i64 k∧VG bc l l=VG bc l (l.drop k)∧yw w wr)
 case atStart=>exact⟨0,Nat.zero_le _,by omega,rfl,rfl,Below.refl _ _⟩
 case round=>
  obtain⟨k,hk,a2,rfl,U,J⟩:=hrel
  by_cases hlt:k < n
  ·obtain⟨bb,aY,x,c0,c1,rfl,hx,⟨Z,aQ,aR⟩,e0,e1⟩:=(HS.out.bel J).at2 hlt
   obtain⟨rfl,rfl⟩:c0=.int .i64 x.lft∧c1=.int .i64 x.rgt:=by simpa using Z
   have au:l.drop k=x::l.drop (k+1):=by rw[List.drop_eq_getElem_cons (List.getElem?_eq_some_iff.1 hx).1];rw[(List.getElem?_eq_some_iff.1 hx).2]
   rw[au]at U;obtain⟨W1,aM⟩:∃V,V=wr:=⟨_,rfl⟩;subst aM;have ag:=yh U;clear U;have HX:=yh aR;clear Z au aQ hx
   go_upto_region 3 with(fail)
   go_cut [9] (fun p Q=>∃g,p=.pointer (some ⟨g,0,none⟩)∧W1.heap.size≤g∧Blk Q g #[.int .i64 x.lft,.int .i64 x.rgt] 94∧yw W1 Q)
   case first=>as_aux_lemma=>
    go_wp2_with fail
    go_meet
    exact⟨_,rfl,Nat.le_refl _,Za _ _,Qf _ _⟩
   obtain⟨g,rfl,a5,hG,aj⟩:=hcut;obtain⟨W2,aN⟩:∃V,V=wc:=⟨_,rfl⟩;subst aN;replace J:=J.trans (aj.mono J.size);have a6:=aj.size;have a3:=hG.lt;have g0:yI W2 g 0 x.lft:=hG.cell rfl;have HG:=yh (fun X (hX:yw W2 X)=>hG.bel hX);clear aj hG e0 e1
   by_cases q0:0 < x.lft
   ·have q1:decide (0 < x.lft)=true:=decide_eq_true q0
    have D:=yh (ag.out.trans (Zib q0));clear q0
    go_wp2_with fail
    go_ret2
    exact⟨.slice none 0 0,[],by unfold Xga;rw[D.out];rfl,by unfold V6a;rw[D.out];exact Own.nil _ _ _ _ _,J⟩
   have q1:decide (0 < x.lft)=false:=decide_eq_false q0;have Q0:=yh q0;have HB:=yh J;clear J;clear q0
   go_wp2_with fail
   go_loopg [10,24] n (fun gk v i wr=>∃(j:Nat) (xs:List Value) (vo:Value),j≤n∧n - j≤gk∧i=.int .i64 j∧vo=v∧Own UM 2 94 wr W2.heap.size vo (shE x.rgt (l.take j)) xs∧yw W2 wr)
   case atStart=>exact⟨0,[],_,Nat.zero_le _,by omega,rfl,rfl,by rw[List.take_zero];exact Own.nil _ _ _ _ _,Below.refl _ _⟩
   case round=>
    obtain⟨j,xs,vo,hj,a1,rfl,rfl,F,E⟩:=hrel
    by_cases hlt2:j < n
    ·obtain⟨b2,aZ,y,d0,d1,ar,hy,⟨Z,aU,aV⟩,e0,e1⟩:=(HS.out.bel (HB.out.trans (E.mono HB.out.size))).at2 hlt2
     obtain⟨rfl,rfl⟩:d0=.int .i64 y.lft∧d1=.int .i64 y.rgt:=by simpa using Z
     obtain⟨rfl,rfl⟩:b2=bb∧aZ=aY:=by injection ar with h;injection h with h1 h2;exact⟨h1.symm,h2.symm⟩
     obtain⟨V1,ah⟩:∃V,V=wr:=⟨_,rfl⟩;subst ah;have af:=yh (Yzb hy x.rgt);have ac:=yh (aC.out y (List.mem_of_getElem? hy));have az:=F.lt;have aJ:=yh (show(shE x.rgt (l.take j)).length≤1000 from by have:=Ulb x.rgt (l.take j);rw[List.length_take]at this;omega);have O:=yh F;clear F;clear Z ar hy aU
     go_upto_region 8 with(fail)
     go_cut [12] (fun p Q=>∃z,p=.pointer (some ⟨z,0,none⟩)∧V1.heap.size≤z∧Blk Q z #[.int .i64 y.lft,.int .i64 y.rgt] 94∧yw V1 Q)
     case first=>as_aux_lemma=>
      go_wp2_with fail
      go_meet
      exact⟨_,rfl,Nat.le_refl _,Za _ _,Qf _ _⟩
     obtain⟨z,rfl,ba,hZ,ak⟩:=hcut;obtain⟨I,aL⟩:∃V,V=wc:=⟨_,rfl⟩;subst aL;have F:=O.out.bel ak
     have a9:vo.ownBlock≠some z:=fun e=>by have:=(az z e).2;omega
     replace E:=E.trans (ak.mono E.size);have z0:yI I z 0 y.lft:=hZ.cell rfl;have z1:yI I z 1 y.rgt:=hZ.cell rfl;have g1:yI I g 1 x.rgt:=(HG.out _ E).cell rfl;have a8:=hZ.lt;have a4:=(HG.out _ E).lt;clear hZ ak e0 e1 O az;obtain⟨tv,am⟩:∃q,q=(decide (0 < y.lft) && !decide (y.rgt=x.rgt)):=⟨_,rfl⟩;rw[←am]at af;have be:=yh am;clear am;have O:=yh F;clear F;have aa:=yh E;clear E
     go_upto_region 9 with(fail)
     go_cut [37] (fun q Q=>q=.bool tv∧I=Q)
     case first=>as_aux_lemma=>
      by_cases q2:0 < y.lft
      ·have q3:decide (0 < y.lft)=true:=decide_eq_true q2
       by_cases q4:y.rgt=x.rgt
       ·obtain rfl:tv=false:=by rw[be.out,decide_eq_true q2,decide_eq_true q4];rfl
        have q5:(y.rgt != x.rgt)=false:=by simpa using q4
        clear q2 q4
        go_wp2_with fail
        go_meet
        exact⟨rfl,rfl⟩
       ·obtain rfl:tv=true:=by rw[be.out,decide_eq_true q2,decide_eq_false q4];rfl
        have q5:(y.rgt != x.rgt)=true:=by simpa using q4
        clear q2 q4
        go_wp2_with fail
        go_meet
        exact⟨rfl,rfl⟩
      ·have q3:decide (0 < y.lft)=false:=decide_eq_false q2
       obtain rfl:tv=false:=by rw[be.out,decide_eq_false q2];rfl
       clear q2
       go_wp2_with fail
       go_meet
       exact⟨rfl,rfl⟩
     obtain⟨rfl,rfl⟩:=hcut
     cases tv
     ·have D:=yh (af.out.trans (by simp:_=shE x.rgt (l.take j)))
      go_wp2_with fail
      go_roundg (n - (j+1))
      case measure=>omega
      case rel=>exact⟨j+1,xs,vo,by omega,by omega,by go_num,rfl,by rw[D.out];exact O.out,aa.out⟩
     ·have D:=yh (af.out.trans (show _=shE x.rgt (l.take j)++[⟨y.lft - 1,y.rgt⟩]from rfl))
      have aW:0 < y.lft:=by have h:=be.out.symm;rw[Bool.and_eq_true]at h;exact of_decide_eq_true h.1
      have aX:y.lft≤16:=by have:=ac.out;have:=aF.out;omega
      have a7:IntKind.i64.wrap (y.lft - 1)=y.lft - 1:=IntWalk.i64_in _ (by have:=ac.out;omega);have ax:InI (y.lft - 1):=.of (by have:=ac.out;omega) (by have:=ac.out;omega)
      have aP:((shE x.rgt (l.take j)).length+1)*16≤140737488355328:=by have:=aJ.out;omega
      have ap:=yh (O.out.bel (Qf I (.cells #[.int .i64 (y.lft - 1),.int .i64 y.rgt] 94)))
      have aS:W2.heap.size≤(I.alloc (.cells #[.int .i64 (y.lft - 1),.int .i64 y.rgt] 94)).heap.size:=by have:=aa.out.size;simp;omega
      have aI:=yh (Zpb I All (y.lft - 1) y.rgt 94 ax aV trivial);have bd:=yh (aa.out.trans ((Qf I (.cells #[.int .i64 (y.lft - 1),.int .i64 y.rgt] 94)).mono aa.out.size));clear ax aW aX
      go_wp2_with (at_builtin;refine QC (t:=74) (e:=94) (bytes:=16) rfl (.tmp 38) (.tmp 45) rfl UIa Qx rfl ap.out rfl aI.out (fun _ _ hc=>hc) aP (by omega) aS ?_;intro v' w' a0 aA av aO;have aH:=yh aA;have aD:=yh av;clear aA av aO)
      go_roundg (n - (j+1))
      case measure=>omega
      case rel=>exact⟨j+1,a0,v',by omega,by omega,by go_num,rfl,by rw[D.out];exact aH.out,QP bd.out ap.out aD.out bd.out.size⟩
    ·obtain rfl:j=n:=by omega
     rw[List.take_of_length_le (by have:=ao.out;omega)]at F;obtain⟨V1,ah⟩:∃V,V=wr:=⟨_,rfl⟩;subst ah;have Y:=HB.out.trans (E.mono HB.out.size);have aw:=HG.out _ E;obtain⟨A1,n1,c1,rfl,al⟩:=F.sl Qx
     have ay:n1≤1000:=by have:=al.len;have:=aE.out x.rgt;omega
     obtain⟨ab,ai⟩:∃q,q=Z9 bc (shE x.rgt l):=⟨_,rfl⟩;have HC:=yh (aB.out A1 n1 c1 x.rgt V1 (al.all Qx (by omega)) ay);rw[←ai]at HC;have an:=yh ai;clear ai;have O:=yh F;clear F;clear al ay E g0
     go_wp2_with fail
     refine HC.out.mono ?_;rintro e w3 ⟨rfl,ae⟩;have aq:=O.out.bel ae;have g1:yI w3 g 1 x.rgt:=(aw.bel ae).cell rfl;replace Y:=Y.trans (ae.mono Y.size);have aG:=yh aq;clear aq;have bd:=yh Y;clear Y;clear aw HC ae
     cases ab
     ·have D:=yh (ag.out.trans (Zhb (Int.not_lt.2 Q0.out) (by rw[←an.out];simp)))
      go_wp2_with fail
      go_roundg (j - (k+1))
      case measure=>omega
      case rel=>exact⟨k+1,by omega,by omega,by go_num,D.out,bd.out⟩
     ·have D:=yh (ag.out.trans (Zjb (Int.not_lt.2 Q0.out) an.out.symm))
      go_wp2_with fail
      go_ret2
      exact⟨_,xs,by unfold Xga;rw[D.out];rfl,by unfold V6a;rw[D.out];exact aG.out.mono Qx (HB.out.size),bd.out⟩
  ·obtain rfl:k=n:=by omega
   rw[List.drop_of_length_le (by have:=ao.out;omega)]at U
   go_wp2_with fail
   go_ret2
   exact⟨.slice none 0 0,[],by unfold Xga;rw[U];rfl,by unfold V6a;rw[U];exact Own.nil _ _ _ _ _,J⟩
section
variable {w0:World} {b0:Nat} {w:World} {base:Nat} {x:Sai} {p:SaiV} {g:Nat}
theorem SaiW.geB (h:SaiW w0 b0 w base x p)(D:p.C=some ⟨g,0,none⟩):w0.heap.size≤g∧g < w.heap.size:=by
 obtain⟨E,F,I,J,O,xs,A⟩:=h;rw[D]at A;exact A.lt g rfl
end
theorem Ytb {x y:Sai}{i:Nat}(h:CloK x y i)(p:SaiV):Qa y p=Qa x p:=by unfold Qa;rw[h.ship,h.fares,h.day,h.leaves,h.closed]
theorem Zmb {x:Sai}(A:OkSai x)(p:SaiV):Qa (UT x) p=Qa { x with closed:=true } p:=by
 have h:=Vt A x.bks.length (Nat.le_refl _)
 show Qa { QE x x.bks.length with closed:=true } p=_
 unfold Qa;simp only;rw[h.ship,h.fares,h.day,h.leaves]
theorem ZIc {l:List Bkg}{k:Nat}{b:Bkg}(F:Xe l)(D:l[k]? = some b):ZG l b.id=k:=by
 have I:=(List.getElem?_eq_some_iff.1 D).1;refine Zkb (by omega) (fun q c E A=>F q k c b E A D) (fun q c E A=>?_)
 rcases Nat.lt_or_ge k q with h | h
 ·exact Int.le_of_lt (F k q b c h D A)
 ·obtain rfl:q=k:=by omega
  rw[D]at A;injection A with A;rw[A];exact Int.le_refl _
theorem Yka {x y:Sai}{i:Nat}(h:CloK x y i)(D:Xe x.bks):Xe y.bks:=by
 refine Vp.2 ?_;have A:(x.bks.map (·.id)).Pairwise (· < ·):=List.pairwise_map.2 (Vp.1 D);rw[←h.ids]at A;exact List.pairwise_map.1 A
theorem UOb (w0:World)(b0:Nat)(x:Sai)(p:SaiV)(y:Nat)(base:Nat)(w:World)(hW:SaiW w0 b0 w base x p)(hY:Blk w y (Qa x p) 162)(a9:w0.heap.size≤y)(O:OkSai x) :
  Calls Tryz.prog 106 #[.pointer (some ⟨y,0,none⟩)] w fun e w'=>e=.returned (.tuple #[])∧SaiW w0 b0 w' base (UT x) p∧Blk w' y (Qa (UT x) p) 162∧Kept (fun j=>w0.heap.size≤j) w w':=by
 have HM:=hW.sai.cabs.len;have bv:=O.bs.ship.cabs12;have aE:=yh (Ura x p w hW.sai O.bs.ship O.bs.bk O.bs.len);have be:=yh (fun bH A n cap l W hS hm hg hn=>UZb bH p.m A n cap l W hS hm (by omega) hg hn);have aG:=yh (fun Y t X hl hr ab hn ht=>Vs Y p t X hl hr ab hn ht);have bt:=yh (fun Y i (h:CloK x Y i)=>Ytb h p);have bc:=yh (Zmb O p);have am:=yh (show x.bks.length=p.nb from hW.sai.bks.len)
 have bV:p.nb≤16:=by have:=am.out;have:=O.bs.len;omega
 have aD:=yh (fun g (J:p.C=some ⟨g,0,none⟩)=>hW.geB J);have bg:=yh (fun g (J:p.C=some ⟨g,0,none⟩) (e:y=g)=>hW.neB J hY (by decide) e.symm);have bL:=yh (fun g (J:p.C=some ⟨g,0,none⟩)=>hW.blkB J);have I:=yh O;have HW:=yh hW;have HY:=yh hY;have bm:=yh HM;have b1:=hY.lt;clear O hW hY HM bv
 go_enter Tryz.func106,Tryz.ntmps106
 go_wp2_with (refine wpList_load_row rfl 32 (.tmp 13) rfl y rfl 162 _ (0,0) _ HY.out Tryz.underlying32 rfl (by kernel_rfl) ?_)
 refine aE.out.mono ?_;rintro e w1 ⟨v1,v2,bI,bJ,rfl,ap,aM,ad⟩;obtain⟨A1,D,c1,rfl,b8⟩:=ap.sl Qb;have aZ:D=(Z5 x).length:=b8.len.symm
 have bU:D≤16:=by have:=ZZa x;have:=am.out;omega
 have bW:=ad.size;have aP:=HW.out.bel ad;have aR:=HY.out.bel ad;have ba:=yh ad;have al:=yh (show D=(QJ x).length by rw[aZ,QKa]);have bo:=yh aP;clear aP;have br:=yh aR;clear aR;have an:=yh ap;clear ap;have bj:=yh aM;clear aM;obtain⟨W1,bA⟩:∃V,V=w1:=⟨_,rfl⟩;subst bA;clear b8 aZ ad HW HY aE
 go_wp2_with fail
 go_loopg [3,20] D (fun gk v iv wr=>∃(k i:Nat) (xs:List Value) (vo:Value),k≤D∧D - k≤gk∧iv=.int .i64 k∧i≤x.bks.length∧(QV x i).length=k∧vo=v∧Own UM 2 94 wr w.heap.size vo (Zd (QE x i)) xs∧SaiW w0 b0 wr base (QE x i) p∧Kept (fun j=>p.C=some ⟨j,0,none⟩) W1 wr)
 case atStart=>exact⟨0,0,bJ,_,Nat.zero_le _,by omega,rfl,Nat.zero_le _,rfl,rfl,bj.out,bo.out,Kept.refl _ _⟩
 case round=>
  obtain⟨k,i,xs,vo,hk,bQ,rfl,hi,aw,rfl,hO,hW,hK⟩:=hrel;obtain⟨V1,bx⟩:∃V,V=wr:=⟨_,rfl⟩;subst bx;have cd:=hK.size;have b5:=br.out.kept hK (fun e=>bg.out y e rfl)
  by_cases hlt:k < D
  ·obtain⟨b,au⟩:∃b,(QJ x)[k]? = some b:=⟨_,List.getElem?_eq_getElem (by have:=al.out;omega)⟩
   obtain⟨j,hj,ak,ac,ax⟩:=Qda (x:=x) (n:=x.bks.length) (k:=k) (b:=b) (by rw[Xs rfl];exact au);rw[ZCa I.out hi (Nat.le_of_lt hj) (aw.trans ax.symm)]at hO hW;have E:=Vt I.out j (Nat.le_of_lt hj);obtain⟨c,az,bD,bE,bF,bG⟩:=E.pick ak ac;have F:(QE x j).bks[j]? = some b:=E.at.trans ak;have ay:QE x (j+1)=Zx (QE x j) j (Q3 b c):=Qya F ac az;have a0:=Z2a F E.none ac
   have av:(QJ (QE x j)).length=D - k:=by rw[Vsb E,al.out];have:=Yib (x:=x) j;omega
   obtain⟨M,hM⟩:∃M,D - k=M+1:=⟨D - k - 1,by omega⟩
   have aA:VG M (Zd (QE x j)) (Zd (QE x j))=some (c:Int):=by
    rw[Vwb a0,show M=(QJ (QE x j)).length - 1 by omega];exact az
   have b7:Xga M (Zd (QE x j))=(c:Int):=by unfold Xga;rw[aA];rfl
   have b6:V6a M (Zd (QE x j))=Zd (QE x (j+1)):=by
    unfold V6a;rw[aA,ay,XCa F E.none ac];rfl
   have aX:ZNa (M+1) p.m (Zd (QE x j)):=by
    have h:=XDa (QE x j);rw[QKa,av,hM,E.ship,bm.out]at h;exact h
   have aT:=E.bk b (List.mem_of_getElem? F);have bB:=Qj.1 aT.id;obtain⟨Z,hZ⟩:∃Z,Z=((M+1:Nat):Int):=⟨_,rfl⟩
   have bZ:IntKind.i64.wrap ((D:Int) - (k:Int))=Z:=by rw[IntWalk.i64_in _ (by omega),hZ];omega
   obtain⟨A2,n2,c2,rfl,aB⟩:=hO.sl Qx
   have bC:n2≤1000:=by
    have h1:=aB.len;have h2:=Yi (QE x j) (QJ (QE x j)) 0;have h3:(Zd (QE x j)).length≤(QJ (QE x j)).length*(QE x j).ship.cabs.length:=h2;rw[av,E.ship]at h3;have h4:=I.out.bs.ship.cabs12;have h5:(D - k)*x.ship.cabs.length≤16*12:=Nat.mul_le_mul (by omega) h4;omega
   have af:=yh (be.out M A2 n2 c2 (Zd (QE x j)) V1 (aB.all Qx (by omega)) (by omega) aX bC);rw[←hZ,b7,b6]at af;obtain⟨id,ab⟩:∃q,q=b.id:=⟨_,rfl⟩
   have aY:(Z5 x)[k]? = some id:=by unfold Z5;rw[List.getElem?_map,au,ab];rfl
   have aL:Own QL 1 3 V1 w.heap.size (.slice A1 D c1) (Z5 x) bI:=an.out.keepB ZD (fun q hq=>hK.block q (an.out.lt q hq).2 (fun e=>by
    have h1:=(an.out.lt q hq).1;have h2:=(aD.out q e).2;omega))
   obtain⟨A3,n3,c3,a8,b9⟩:=aL.sl Qb
   obtain⟨rfl,rfl,rfl⟩:A1=A3∧D=n3∧c1=c3:=by injection a8 with h1 h2 h3;exact⟨h1,h2,h3⟩
   obtain⟨a1,b2,t,c0,rfl,ht,⟨hd,a7⟩,e0⟩:=b9.at1 hlt
   obtain rfl:t=id:=by rw[aY]at ht;injection ht with ht;exact ht.symm
   obtain rfl:c0=.int .i64 t:=by simpa using hd
   obtain⟨g,A4,n4,c4,J,bP,bR,aU,aW,hF,hI,_⟩:=hW.at F;have ag:=yh (fun X (hX:SaiR X (QE x j) p)=>aG.out (QE x j) t X hX.bks (Yka E (Zc I.out.bs.rise)) (fun q hq=>by have:=Qj.1 (E.bk q hq).id;omega) (by rw[E.len];exact I.out.bs.len) a7);have aH:=yh (show ZG (QE x j).bks t=j by rw[ab];exact ZIc (Yka E (Zc I.out.bs.rise)) F);have ca:=bt.out _ _ E;rw[ca]at ag;have bn:=yh (show UQ t by rw[ab];unfold UQ;omega);obtain⟨Y,ar⟩:∃q,q=QE x j:=⟨_,rfl⟩;obtain⟨Y',ai⟩:∃q,q=QE x (j+1):=⟨_,rfl⟩;rw[←ar]at ag aH hW F;have bi:=yh (show Zx Y j (Q3 b c)=Y' by rw[ar,ai];exact ay.symm);have bh:=yh (show(QV x (j+1)).length=k+1 by rw[UV ak,List.length_append,if_pos ac,ax];rfl);rw[←ai]at af;have aJ:=yh ai;have bN:(0:Int)≤(c:Int):=Int.natCast_nonneg _
   have bO:(c:Int)≤12:=by have:=I.out.bs.ship.cabs12;omega
   have bS:(0:Int)≤(j:Int):=Int.natCast_nonneg _
   have bT:(j:Int) < (p.nb:Int):=by have:=am.out;omega
   have HJ:=yh hj;have bd:=yh aU;have bf:=yh (aW (j*11+5));have bu:=yh F;have HW:=yh hW;clear hW;have HK:=yh hK;clear hK;have ah:=yh b5;have HC:=yh J;have y3:yJ V1 y 3 p.B p.m p.cap2:=b5.cell rfl;clear b5 J au ak ac ax E az bD bE bF bG ay a0 av hM aA b7 b6 aX aT bB hZ hO aB ab aY aL a8 b9 ht a7 hd aU aW hF hI ar ai F hi aw aG ca hj
   go_wp2_with fail
   refine af.out.mono ?_;rintro e w3 ⟨v3,bK,rfl,aN,ae⟩;have aq:=HW.out.bel ae;have aS:=ah.out.bel ae;have bX:=ae.size;have aC:=yh ae;have aF:=yh (ag.out w3 aq.sai);have bp:=yh aq;clear aq;have aI:=yh aS;clear aS;have bl:=yh aN;clear aN;clear ae af ag y3 e0
   go_wp2_with (refine wpList_load_row rfl 32 (.tmp 45) rfl y rfl 162 _ (0,0) _ aI.out Tryz.underlying32 rfl (by kernel_rfl) ?_)
   refine aF.out.mono ?_;rintro e U ⟨Q,rfl,-,cc,aa⟩;obtain rfl:Q=j:=(cc bn.out).trans aH.out;have aQ:=bp.out.bel aa;have aO:=bl.out.bel aa;have aj:=aC.out.trans (aa.mono aC.out.size)
   have b3:U.cell? ⟨y,11,none⟩=some (.slice (some ⟨g,0,none⟩) p.nb p.cb):=by rw[←HC.out];exact(aI.out.bel aa).cell rfl
   have c5:yI U g (Q*11+5) b.cab:=Qg aj (bd.out 5 _ rfl)
   have f5:U.frozen? ⟨g,Q*11+5,none⟩=false:=by rw[World.frozen?_of_block (a:=⟨g,Q*11+5,none⟩) (aj.block g (by omega))];exact bf.out
   have bb:=yh aj;have bY:=aa.size;have bq:=yh aQ;clear aQ;have ao:=yh aO;clear aO;clear cc aj aa aF
   go_wp2_with fail
   go_roundg (D - (k+1))
   case measure=>omega
   case rel=>
    have bz:=bq.out.put HC.out bu.out (j:=5) (by omega) (u:=.int .i64 (c:Int)) (fun cs h=>Yea h (.of (by omega) (by omega)));have aK:Kept (fun q=>q=g) U (U.setCell ⟨g,Q*11+5,none⟩ (.int .i64 (c:Int))):=QMa U g [(Q*11+5,.int .i64 (c:Int))];have bw:=ao.out.keepB Xk (w':=U.setCell ⟨g,Q*11+5,none⟩ (.int .i64 (c:Int))) (fun q hq=>aK.block q (ao.out.lt q hq).2 (fun e=>by have:=(ao.out.lt q hq).1;omega));refine⟨k+1,Q+1,bK,v3,by omega,by omega,by go_num,HJ.out,bh.out,rfl,?_,?_,?_⟩
    ·rw[←aJ.out];exact bw.mono Qx (by omega)
    ·rw[←aJ.out,←bi.out];exact bz
    ·exact HK.out.trans ((Kept.of_below bb.out (fun q h1 h2=>absurd h1 (by omega)):Kept (fun q=>p.C=some ⟨q,0,none⟩) V1 U).trans (aK.mono fun q _ e=>by rw[e];exact HC.out))
  ·obtain rfl:k=D:=by omega
   have aV:QE x i=QE x x.bks.length:=ZCa I.out hi (Nat.le_refl _) (by rw[aw,al.out,Xs rfl]);rw[aV]at hW;have bM:=b5.free 12;have b4:V1.cell? ⟨y,12,none⟩=some (.bool x.closed):=b5.cell rfl;have ah:=yh b5;have HW:=yh hW;have HK:=yh hK;clear b5 hW hK hO aV
   go_wp2_with fail
   go_end0
   have hk:=QMa V1 y [(12,.bool true)];obtain⟨a1,a2,a3,a4,a5,ys,a6⟩:=HW.out.keepZ ah.out (by decide) (by decide) a9 hk;refine⟨rfl,⟨a1,a2,a3,a4,⟨a5.cats,a5.cabs,a5.leg,a5.bands,a5.a,a5.t,a5.d⟩,ys,a6⟩,?_,?_⟩
   ·rw[bc.out];exact ah.out.set (j:=12) _
   ·exact(Kept.of_below ba.out (fun q h1 h2=>absurd h1 (by omega)):Kept (fun j=>w0.heap.size≤j) w W1).trans ((HK.out.mono fun q _ e=>(aD.out q e).1).trans (hk.mono fun q _ e=>by rw[e];exact a9))
noncomputable def UX (x:Sai):Int:=if Qp x≠0 then Qp x else if x.closed=true then 4 else 0
theorem Uzb (x:Sai)(p:SaiV)(w:World)(hS:SaiR w x p) :
  Calls Tryz.prog 39 #[.agg (Qa x p)] w fun e w'=>Vz w' w.heap.size (UX x) (UT x) e∧yw w w':=by
 have af:=yh (fun X hX=>Q8 x p X hX);have al:=yh (fun X h ho=>ZU x p X h ho);have ag:=yh (fun w0 b0 p y base X hW hY ai ho=>UOb w0 b0 x p y base X hW hY ai ho);obtain⟨r,hr⟩:∃r,r=Qp x:=⟨_,rfl⟩;obtain⟨R,hR⟩:∃r,r=UX x:=⟨_,rfl⟩;have HR:=yh (show R=if r≠0 then r else if x.closed=true then 4 else 0 by rw[hR,hr];rfl);have az:=yh hr;rw[←hr]at af;rw[←hR];have HS:=yh hS;obtain⟨ab,ah⟩:∃q,q=x.closed:=⟨_,rfl⟩;rw[←ah]at HR;have ay:=yh ah;obtain⟨U,ar⟩:∃q,q=UT x:=⟨_,rfl⟩;rw[←ar]at ag ⊢;clear hr hR hS ah ar;obtain⟨A,n,cap,B,m,aC,D,nd,cd,E,ne,ce,C,nb,cb⟩:=p
 go_enter Tryz.func39,Tryz.ntmps39
 go_upto_region 0 with(fail)
 go_cut [1,2,3] (fun p p2 p4 Z=>∃g z,p=.pointer (some ⟨g,0,none⟩)∧p2=.pointer (some ⟨z,0,none⟩)∧p4=.int .i64 0∧w.heap.size≤z∧Blk Z g (Qa x ⟨A,n,cap,B,m,aC,D,nd,cd,E,ne,ce,C,nb,cb⟩) 32∧Blk Z z #[.int .i64 0,.int .i64 0,.slice none 0 0,.slice none 0 0,.slice none 0 0,.int .i64 0,.int .i64 0,.slice none 0 0,.int .i64 0,.int .i64 0,.int .i64 0,.slice none 0 0,.bool false] 32∧yw w Z)
 case first=>as_aux_lemma=>
  go_wp2_with fail
  go_meet
  exact⟨_,_,rfl,rfl,rfl,by omega,QA _ _ _,QB _ _ _,Zh _ _ _⟩
 obtain⟨g,z,rfl,rfl,rfl,hz,hG,hZ,ad⟩:=hcut;obtain⟨I,aG⟩:∃V,V=wc:=⟨_,rfl⟩;subst aG;have HT:=yh (fun X (hX:yw I X)=>ad.trans (hX.mono ad.size));have HG:=yh (fun X (hX:yw I X)=>hG.bel hX);have HZ:=yh (fun X (hX:yw I X)=>hZ.bel hX);have am:=yh (fun X (hX:yw I X)=>HS.out.bel (HT.out X hX))
 have aj:=yh (show ∀(E':Int) V,¬E'=0→yw I V→Vz (V.setRow z (Qa Qr Qv)) w.heap.size E' U (.returned (.tuple #[.agg (Qa Qr Qv),.int .i64 E']))∧yw w (V.setRow z (Qa Qr Qv))from fun E' V h0 hX=>by
  have ae:yw w (V.setRow z (Qa Qr Qv)):=((HT.out V hX).trans (((Kept.refl (fun k=>k=z) V).setRow (.inl rfl) _).below (B:=w.heap.size) (HT.out V hX).size (fun k hk e=>by omega)));exact⟨⟨Qr,Qv,rfl,(Qca h0 _).symm,Vx _ _ ae.size⟩,ae⟩)
 have hb:yw I I:=Below.refl _ _;have aN:=hZ.lt;have aL:=ad.size;clear hG hZ ad;have Q:=yh (af.out _ (am.out _ hb))
 go_wp2_with (refine wpList_load_row rfl 32 (.tmp 1) rfl g rfl 32 _ (0,0) _ (HG.out _ hb) Tryz.underlying32 rfl (by kernel_rfl) ?_)
 refine Q.out.mono ?_;rintro e w1 ⟨rfl,av⟩;replace hb:=hb.trans (av.mono hb.size);clear av Q af
 have aD:w1.cell? ⟨g,12,none⟩=some (.bool ab):=by rw[ay.out];exact(HG.out _ hb).cell rfl
 obtain⟨tv,ax⟩:∃q,q=(decide (r=0) && ab):=⟨_,rfl⟩;have aa:=yh ax;clear ax;obtain⟨W2,aH⟩:∃V,V=w1:=⟨_,rfl⟩;subst aH;have W:=yh hb;clear hb
 go_upto_region 2 with(fail)
 go_cut [13] (fun v Z=>v=.bool tv∧W2=Z)
 case first=>as_aux_lemma=>
  by_cases q0:r=0
  ·obtain rfl:tv=ab:=by rw[aa.out,decide_eq_true q0];rfl
   subst q0
   go_wp2_with fail
   go_meet
   exact⟨rfl,rfl⟩
  ·obtain rfl:tv=false:=by rw[aa.out,decide_eq_false q0];rfl
   have q1:(r == 0)=false:=by simpa using q0
   clear q0
   go_wp2_with fail
   go_meet
   exact⟨rfl,rfl⟩
 obtain⟨rfl,rfl⟩:=hcut;have hb:=W.out;clear aD W
 cases tv
 rotate_left
 ·obtain⟨q0,q1⟩:r=0∧ab=true:=by
   have:=aa.out.symm;rw[Bool.and_eq_true]at this;exact⟨of_decide_eq_true this.1,this.2⟩
  obtain rfl:R=4:=by rw[HR.out,if_neg (by rw[q0];simp),if_pos q1]
  have J:=HZ.out _ hb;clear q0 q1
  go_wp2_with (refine wpList_store_row rfl 32 (.tmp 2) (.tmp 16) rfl z (Qa Qr Qv) rfl rfl 32 _ J (by kernel_rfl) rfl (by simp[Value.oneCell']) ?_)
  refine bodyPost_ret (v:=.tuple #[.agg (Qa Qr Qv),.int .i64 4]) ((J.row _).ret2 (k:=2) (u:=3) (by kernel_rfl) rfl rfl Tryz.underlying32 (by kernel_rfl) (by kernel_rfl)) rfl ?_;exact aj.out _ _ (by decide) hb
 by_cases q0:r=0
 rotate_left
 ·obtain rfl:R=r:=by rw[HR.out,if_pos q0]
  have q1:(R != 0)=true:=by simpa using q0
  have Q0:=yh q0;have J:=HZ.out _ hb;clear q0
  go_wp2_with (refine wpList_store_row rfl 32 (.tmp 2) (.tmp 16) rfl z (Qa Qr Qv) rfl rfl 32 _ J (by kernel_rfl) rfl (by simp[Value.oneCell']) ?_)
  refine bodyPost_ret (v:=.tuple #[.agg (Qa Qr Qv),.int .i64 R]) ((J.row _).ret2 (k:=2) (u:=3) (by kernel_rfl) rfl rfl Tryz.underlying32 (by kernel_rfl) (by kernel_rfl)) rfl ?_;exact aj.out _ _ Q0.out hb
 have ak:=yh (Ze (az.out.symm.trans q0))
 obtain rfl:R=0:=by
  have:=aa.out.symm;rw[decide_eq_true q0,Bool.true_and]at this;rw[HR.out,if_neg (by rw[q0];simp),if_neg (by rw[this];simp)]
 subst q0;have Q:=yh (al.out _ (am.out _ hb) ak.out);have aJ:=hb.size
 go_wp2_with (refine wpList_load_row rfl 32 (.tmp 1) rfl g rfl 32 _ (0,0) _ (HG.out _ hb) Tryz.underlying32 rfl (by kernel_rfl) ?_)
 refine Q.out.mono ?_;rintro e O ⟨F,rfl,aE,aw⟩;obtain⟨w0,b0,ac⟩:=aE;replace hb:=hb.trans (aw.mono hb.size);have ap:=ac.bel (Qf O (.cells (Qa x F) 162))
 have ai:w0.heap.size≤O.heap.size:=by obtain⟨_,_,a3,_⟩:=ac;exact a3
 have aM:W2.heap.size≤w0.heap.size:=by obtain⟨a1,a2,_⟩:=ac;omega
 have Q:=yh (ag.out w0 b0 F O.heap.size _ _ ap (Blk.new O (Qa x F) 162) ai ak.out);have W:=yh (hb.trans ((Qf O (.cells (Qa x F) 162)).mono hb.size));clear ac ap aw al ag hb
 go_wp2_with fail
 refine Q.out.mono ?_;rintro e Y ⟨rfl,aq,au,an⟩;have aI:=W.out.size;have hb:yw I Y:=W.out.trans (an.below (B:=I.heap.size) aI (fun k hk e=>by omega));have J:=HZ.out _ hb
 have aK:O.heap.size < (O.alloc (.cells (Qa x F) 162)).heap.size:=by simp
 have aA:=yh aq;clear aq;have aB:=yh au;clear an au Q
 go_wp2_with (first | (refine wpList_load_row rfl 32 (.tmp 26) rfl O.heap.size rfl 162 _ (0,0) _ aB.out Tryz.underlying32 rfl (by kernel_rfl) ?_) | (refine wpList_store_row rfl 32 (.tmp 2) (.tmp 27) rfl z (Qa U F) rfl rfl 32 _ J (by kernel_rfl) rfl (by simp[Value.oneCell']) ?_))
 refine bodyPost_ret (v:=.tuple #[.agg (Qa U F),.int .i64 0]) ((J.row _).ret2 (k:=2) (u:=3) (by kernel_rfl) rfl rfl Tryz.underlying32 (by kernel_rfl) (by kernel_rfl)) rfl ?_;have ao:Kept (fun k=>k=z) Y (Y.setRow z (Qa U F)):=(Kept.refl (fun k=>k=z) Y).setRow (.inl rfl) _;have ae:=((HT.out _ hb).trans (ao.below (B:=w.heap.size) (HT.out _ hb).size (fun k hk e=>by omega)));have aF:SaiO Y W2.heap.size U F:=⟨w0,b0,aA.out⟩;exact⟨⟨U,F,rfl,(UJ _).symm,(aF.kept ao (fun k hk e=>by omega)).mono (by omega)⟩,ae⟩
theorem VBb {y z:Sai}(F:y.ship=z.ship)(I:y.bks=z.bks):QQ y=QQ z:=by
 obtain⟨s,f,d,l,b,c⟩:=y;obtain⟨Q,E,D,J,b',A⟩:=z;simp only at F I;subst F I;have O:Zd ⟨s,f,d,l,b,c⟩=Zd ⟨s,E,D,J,b,A⟩:=QEa (x:=⟨s,f,d,l,b,c⟩) (y:=⟨s,E,D,J,b,A⟩) (fun _=>rfl) (QJ ⟨s,f,d,l,b,c⟩) 0;unfold QQ;rw[O]
 rfl
theorem ZKa (x:Sai)(day:Int)(b:Bkg):(VU x day b).state=3:=by unfold VU;split<;>rfl
theorem YTb (x:Sai)(day:Int)(b:Bkg):(VU x day b).id=b.id:=by unfold VU;split<;>rfl
theorem XV {x:Sai}{day:Int}{b:Bkg}(h:Xo day b=true):U7 x day b=VU x day b:=if_pos h
theorem YM {x:Sai}{day:Int}{b:Bkg}(h:Xo day b=false):U7 x day b=b:=if_neg (by rw[h];simp)
theorem Qmb (x:Sai)(day:Int)(b:Bkg):(U7 x day b).id=b.id:=by
 rcases Bool.eq_false_or_eq_true (Xo day b)with h | h
 ·rw[XV h,YTb]
 ·rw[YM h]
theorem Zxb {x:Sai}{day:Int}{b:Bkg}(h:Qy (U7 x day b)=true):U7 x day b=b:=by
 rcases Bool.eq_false_or_eq_true (Xo day b)with q | q
 ·rw[XV q]at h
  unfold Qy at h;rw[ZKa]at h
  simp at h
 ·exact YM q
theorem Vga (x:Sai)(day:Int):∀l:List Bkg,((l.map (U7 x day)).filter Qy).Sublist l
 | []=>List.Sublist.slnil
 | b::l=>by
  rw[List.map_cons,List.filter_cons]
  split
  ·next h=>rw[Zxb h];exact(Vga x day l).cons_cons b
  ·exact(Vga x day l).cons b
theorem VTb {x:Sai}{day:Int}(h:Qp x=0):QQ (UE x day)=0:=
 (VBb (y:=UE x day) (z:=Zr x (x.bks.map (U7 x day))) rfl rfl).trans ((Zqa x _).symm.trans (Y5a h (Vga x day x.bks)))
theorem YSb {x:Sai}{day:Int}{X:Shp}{b:Bkg}(A:OkBk X b):OkBk X (U7 x day b):=by
 rcases Bool.eq_false_or_eq_true (Xo day b)with q | q
 ·rw[XV q]
  unfold VU
  split
  ·next h=>exact ZUb A h
  ·exact⟨A.kind,by show Qc 3 1 3=true;decide,A.id,A.gst,A.span,A.kindE,by show Qc 0 0 9999=true;decide,fun h=>absurd rfl h,A.fol⟩
 ·rw[YM q];exact A
theorem ZAb {x:Sai}{day:Int}(h:Qp x=0)(F:0≤day∧day≤9999):Qp (UE x day)=0:=by
 have A:=Ze h;refine XUa (y:=UE x day) (Xi h).1 A.fares (QX F.1 F.2) A.leaves (by show(x.bks.map _).length≤16;rw[List.length_map];exact A.bs.len) (fun b D=>?_) ?_ ?_ (VTb h)
 ·obtain⟨c,E,rfl⟩:=List.mem_map.1 D
  exact Ugb (YSb (A.bs.bk c E))
 ·refine Vp.2 (List.pairwise_map.2 ((Vp.1 (Zc A.bs.rise)).imp fun {a b} hab=>?_))
  rw[Qmb,Qmb];exact hab
 ·refine List.any_eq_false.2 fun b D=>?_
  obtain⟨c,E,rfl⟩:=List.mem_map.1 D
  rcases Bool.eq_false_or_eq_true (Xo day c)with q | q
  ·rw[XV q]
   unfold UG Qy;rw[ZKa]
   simp
  ·rw[YM q]
   exact List.any_eq_false.1 A.bs.bad c E
theorem VUb {x:Sai}{day:Int}(h:Xa x day=0):Qp x=0∧(0≤day∧day≤9999)∧x.day < day:=by
 unfold Xa at h
 by_cases h0:Qp x≠0
 ·rw[if_pos h0]at h;exact absurd h h0
 rw[if_neg h0]at h
 by_cases h1:Qc day 0 9999=false
 ·rw[if_pos h1]at h;omega
 rw[if_neg h1]at h
 by_cases h2:day≤x.day
 ·rw[if_pos h2]at h;omega
 exact⟨Decidable.not_not.1 h0,Qj.1 (Ue h1),by omega⟩
theorem QHb {x:Sai}(h:UX x=0):Qp x=0∧x.closed=false:=by
 unfold UX at h
 by_cases h0:Qp x≠0
 ·rw[if_pos h0]at h;exact absurd h h0
 rw[if_neg h0]at h;refine⟨Decidable.not_not.1 h0,?_⟩
 cases hc:x.closed
 ·rfl
 ·rw[if_pos hc]at h;omega
end Go.Proofs.YtjdcokpmgionjaaGreat
