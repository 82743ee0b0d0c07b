/-
  Laws and contracts.
-/
import Derived.Test.YtjdcokpmgionjaaGreatBun15
import Derived.Test.YtjdcokpmgionjaaGreatBun18
import Derived.BigQuiet
set_option linter.unusedSimpArgs false
set_option linter.unusedVariables false
set_option maxRecDepth 100000
set_option maxHeartbeats 20000000
namespace Go.Proofs.YtjdcokpmgionjaaGreat
open Proofs.Tryz Go.RowKit Go.Shelf
def wrB (wr:Int) (n:Nat):Bool:=decide (0≤wr) && decide (wr≤(n:Int))
theorem Qrc (a b:Ans)(W:World):(binOp .neq 55 (.agg (QD a)) (.agg (QD b))).run prog W=.ok (.bool (decide (a≠b))) W:=by
 obtain⟨A,D⟩:=a;obtain⟨E,F⟩:=b;simp only[Ans.mk.injEq,ne_eq];go_simp
 repeat' split
 all_goals simp_all
theorem Vcb (a b:Ans)(W:World):(binOp .eql 55 (.agg (QD a)) (.agg (QD b))).run prog W=.ok (.bool (decide (a=b))) W:=by
 obtain⟨A,D⟩:=a;obtain⟨E,F⟩:=b;simp only[Ans.mk.injEq];go_simp
 repeat' split
 all_goals simp_all
def Ygb (a b:Don):Bool:=decide (a=b)
theorem Qvc (a b:Don)(W:World):(binOp .neq 106 (.agg (VV a)) (.agg (VV b))).run prog W=.ok (.bool (!Ygb a b)) W:=by
 unfold Ygb;obtain⟨⟨A,D,J,O,Q,U,V,a7,X,Y,E⟩,⟨F,I⟩⟩:=a;obtain⟨⟨Z,b1,b2,b3,b4,b5,b6,b7,b8,b9,aa⟩,⟨ab,ac⟩⟩:=b;unfold VV;simp only[Don.mk.injEq,Ask.mk.injEq,Ans.mk.injEq];go_simp;refine dite (A=Z) (fun h=>?_) (fun h=>by simp[h]);subst h;refine dite (D=b1) (fun h=>?_) (fun h=>by simp[h]);subst h;refine dite (J=b2) (fun h=>?_) (fun h=>by simp[h]);subst h;refine dite (O=b3) (fun h=>?_) (fun h=>by simp[h]);subst h;refine dite (Q=b4) (fun h=>?_) (fun h=>by simp[h]);subst h;refine dite (U=b5) (fun h=>?_) (fun h=>by simp[h]);subst h;refine dite (V=b6) (fun h=>?_) (fun h=>by simp[h]);subst h;refine dite (a7=b7) (fun h=>?_) (fun h=>by simp[h]);subst h;refine dite (X=b8) (fun h=>?_) (fun h=>by simp[h]);subst h;refine dite (Y=b9) (fun h=>?_) (fun h=>by simp[h]);subst h;refine dite (E=aa) (fun h=>?_) (fun h=>by simp[h]);subst h;refine dite (F=ab) (fun h=>?_) (fun h=>by simp[h]);subst h;refine dite (I=ac) (fun h=>?_) (fun h=>by simp[h]);subst h;simp
theorem ZJa (A:Option Addr)(n cap:Nat)(wr:Int)(w:World)(_:n≤1000000000000000000) :
  Calls prog 73 #[.agg #[.slice A n cap,.int .i64 wr]] w fun e w'=>e=.returned (.bool (wrB wr n))∧yw w w':=by
 obtain⟨r,E⟩:=yE (wrB wr n);rw[←E];have I:=yh (show r=(decide (0≤wr) && decide (wr≤(n:Int)))from E);clear E;by_cases h0:0≤wr
 ·have D:=J2 h0;rw[D,Bool.true_and]at I
  cases h1:decide (wr≤(n:Int))with
  | true=>
   rw[h1]at I;clear h0;obtain rfl:=I.out;go_enter func73,ntmps73;go_wp2_with fail;go_ret;exact⟨rfl,Qi _ _⟩
  | false=>
   rw[h1]at I;clear h0;obtain rfl:=I.out;go_enter func73,ntmps73;go_wp2_with fail;go_ret;exact⟨rfl,Qi _ _⟩
 ·have D:=J3 h0;rw[D,Bool.false_and]at I;clear h0;obtain rfl:=I.out;go_enter func73,ntmps73;go_wp2_with fail;go_ret;exact⟨rfl,Qi _ _⟩
def QYc (w':World) (base:Nat) (E:Int) (l:List Don) (wr:Int) (e:Ending):Prop:=∃v xs,e=.returned (.tuple #[.agg #[v,.int .i64 (okI E wr)],.int .i64 E])∧Own Vv 13 106 w' base v (okL E l) xs
def crN (wr:Int) (n:Nat) (keep:Int):Int:=wr+min keep ((n:Int) - wr)
def crE (wr:Int) (n:Nat) (keep:Int):Int:=if wrB wr n=false∨keep < 0 then 3 else 0
theorem ZRb (A:Option Addr)(n cap:Nat)(l:List Don)(wr ax:Int)(w:World)(h:Sl Vv 13 w All A n cap l)(hn:n*104≤140737488355328)(_:InI ax) :
  Calls prog 15 #[.agg #[.slice A n cap,.int .i64 wr],.int .i64 ax] w fun e w'=>QYc w' w.heap.size (crE wr n ax) (l.take (crN wr n ax).toNat) (crN wr n ax) e∧yw w w':=by
 obtain⟨R,hR⟩:=yE (crE wr n ax);have J:=yh (show R=if wrB wr n=false∨ax < 0 then 3 else 0 from hR);rw[←hR];clear hR;have ao:=h.bd;have al:=h.le;have am:=h.max;have ae:=yh (fun X=>ZJa A n cap wr X (by omega));obtain⟨r,hr⟩:=yE (wrB wr n);have HR:=yh (show r=(decide (0≤wr) && decide (wr≤(n:Int)))from hr);rw[←hr]at ae J;have HL:=yh h;clear h hr al am;go_enter func15,ntmps15;go_upto_region 0 with(fail);go_cut [2,4,5] (fun p p2 p3 I=>∃g z,yp p g∧yp p2 z∧p3=.int .i64 0∧w.heap.size≤z∧Blk I g #[.slice A n cap,.int .i64 wr] 39∧Blk I z #[.slice none 0 0,.int .i64 0] 39∧yw w I)
 case first=>as_aux_lemma=>
  go_wp2_with fail;go_meet;exact⟨_,_,rfl,rfl,rfl,by omega,QB _ _ _,QC _ _ _,Zl _ _ _⟩
 obtain⟨g,z,rfl,rfl,rfl,hz,U,hZ,D⟩:=hcut;have g0:yJ wc g 0 A n cap:=U.cell rfl;have g1:yI wc g 1 wr:=U.cell rfl;go_wp2_with fail;refine yM (ae _) fun w1 V=>?_;have F:=hZ.bel V;have ag:=U.bel V;replace D:=D.trans (V.mono D.size);clear hZ U V g0 g1;have ab:=yh (show yw w (w1.setRow z #[.slice none 0 0,.int .i64 0])→QYc (w1.setRow z #[.slice none 0 0,.int .i64 0]) w.heap.size 3 (l.take (crN wr n ax).toNat) (crN wr n ax) (.returned (.tuple #[.agg #[.slice none 0 0,.int .i64 0],.int .i64 3]))from fun D=>⟨.slice none 0 0,[],by rw[QEb (by decide)],by rw[YC (by decide)];exact Own.nil _ _ _ _ _⟩);have O:=yh (show ∀L,yw w (w1.setRow z L)from fun L=>D.trans (((Kept.refl (fun k=>k=z) w1).setRow (.inl rfl) _).below (B:=w.heap.size) D.size (fun k E e=>by omega)));cases r
 ·obtain rfl:R=3:=by rw[J.out,M3 (.inl rfl)]
  go_wp2_with (refine yX 39 (.tmp 4) (.tmp 14) z #[.slice none 0 0,.int .i64 0] F ?_);refine yq2 (.tuple #[.agg #[.slice none 0 0,.int .i64 0],.int .i64 3]) (k:=4) (u:=5) (F.row _) underlying39 ?_;exact⟨ab (O _),O _⟩
 by_cases hk0:ax < 0
 ·have ah:decide (ax < 0)=true:=J2 hk0
  obtain rfl:R=3:=by rw[J.out,M3 (.inr hk0)]
  have Q:=yh hk0;clear hk0;go_wp2_with (refine yX 39 (.tmp 4) (.tmp 14) z #[.slice none 0 0,.int .i64 0] F ?_);refine yq2 (.tuple #[.agg #[.slice none 0 0,.int .i64 0],.int .i64 3]) (k:=4) (u:=5) (F.row _) underlying39 ?_;exact⟨ab (O _),O _⟩
 have ah:decide (ax < 0)=false:=J3 hk0
 obtain rfl:R=0:=by rw[J.out,M2 (fun c=>c.elim (by simp) hk0)]
 have Q:=yh hk0;clear hk0;have g0:yJ w1 g 0 A n cap:=ag.cell rfl;have g1:yI w1 g 1 wr:=ag.cell rfl
 have hw:0≤wr∧wr≤(n:Int):=by
  have:=HR.out;rw[eq_comm,Bool.and_eq_true,decide_eq_true_eq,decide_eq_true_eq]at this;exact this
 obtain⟨k,E⟩:=Int.eq_ofNat_of_zero_le (show 0≤crN wr n ax by have:=Q.out;unfold crN;omega)
 have ak:k≤n:=by have:=Q.out;unfold crN at E;omega
 have an:wrap64 ((n:Int) - wr)=(n:Int) - wr:=by unfold wrap64;omega
 have aj:wrap64 (wr+min ax ((n:Int) - wr))=(k:Int):=by rw[←E];unfold wrap64 crN;have:=Q.out;omega
 have ac:=yh E;clear E;clear hw;go_upto_region 3 with(fail);go_cut [6] (fun p I=>p=.int .i64 (k:Int)∧w1=I)
 case first=>as_aux_lemma=>
  go_wp2_with fail;go_meet;exact⟨by rw[aj],rfl⟩
 obtain⟨rfl,rfl⟩:=hcut;clear an aj ah
 have aq:k≤cap:=by have:=HL.le;omega
 have ap:decide ((k:Int) < 0)=false:=J3 (by omega);have HC:=yh (Vra A k cap (l.take k) w1 ((HL.bel D).pre ak) (by omega));have ar:=D.size;go_wp2_with fail;refine HC.mono ?_;rintro e w2 ⟨v,xs,rfl,Z,aa⟩;obtain⟨W,n5,Y,rfl,-⟩:=Z.sl Qy;have ai:=F.bel aa;have av:=F.lt;have au:=aa.size;have af:Kept (fun k=>k=z) w2 (w2.setRow z #[.slice W n5 Y,.int .i64 (k:Int)]):=(Kept.refl (fun k=>k=z) w2).setRow (.inl rfl) _;have HO:=yh Z;clear Z;have ad:=yh af;clear af;clear HC;go_wp2_with (refine yX 39 (.tmp 4) (.tmp 32) z #[.slice W n5 Y,.int .i64 (k:Int)] ai ?_);refine yq2 (.tuple #[.agg #[.slice W n5 Y,.int .i64 (k:Int)],.int .i64 0]) (k:=4) (u:=5) (ai.row _) underlying39 ?_;refine⟨⟨_,xs,by rw[ac.out,Zy],?_⟩,?_⟩
 ·rw[ac.out,Int.toNat_natCast,QQ];exact(HO.keepB Z8 (fun j hj=>ad.block j (HO.lt j hj).2 (by have:=(HO.lt j hj).1;omega))).mono Qy (by omega)
 ·exact(D.trans (aa.mono D.size)).trans (ad.below (B:=w.heap.size) (by omega) (fun k E e=>by omega))
theorem XXa (A B:Option Addr)(n cap m I:Nat)(l l2:List Don)(wr E:Int)(w:World)(h:Sl Vv 13 w All A n cap l)(Z:Sl Vv 13 w All B m I l2) :
  Calls prog 17 #[.agg #[.slice A n cap,.int .i64 wr],.agg #[.slice B m I,.int .i64 E]] w fun e w'=>e=.returned (.bool (decide (wr=E∧l=l2)))∧yw w w':=by
 obtain⟨r,hr⟩:=yE (decide (wr=E∧l=l2));rw[←hr];have Q:=yh hr;clear hr;have ao:=h.bd;have ac:=yh h.len;have ad:=yh Z.len;have H1:=yh h;clear h;have H2:=yh Z;clear Z;go_enter func17,ntmps17;go_upto_region 0 with(fail);go_cut [2,3,4] (fun p p2 _ wx=>∃g z,yp p g∧yp p2 z∧Blk wx g #[.slice A n cap,.int .i64 wr] 39∧Blk wx z #[.slice B m I,.int .i64 E] 39∧yw w wx)
 case first=>as_aux_lemma=>
  go_wp2_with fail;go_meet;exact⟨_,_,rfl,rfl,QB _ _ _,QC _ _ _,Zl _ _ _⟩
 obtain⟨g,z,rfl,rfl,U,V,hb⟩:=hcut;obtain⟨D,rfl⟩:=yE wc;have HG:=yh (fun X (J:yw D X)=>U.bel J);have HZ:=yh (fun X (J:yw D X)=>V.bel J);have F:=yh (fun X (J:yw D X)=>hb.trans (J.mono hb.size));have av:yw D D:=J4 _ _;have g0:yJ D g 0 A n cap:=U.cell rfl;have g1:yI D g 1 wr:=U.cell rfl;have z0:yJ D z 0 B m I:=V.cell rfl;have z1:yI D z 1 E:=V.cell rfl;clear U V hb;by_cases q1:wr=E;rotate_left
 ·obtain rfl:r=false:=by rw[Q.out,decide_eq_false_iff_not];exact fun c=>q1 c.1
  have ae:(wr != E)=true:=by simpa using q1
  clear q1;go_wp2_with fail;go_ret;exact⟨rfl,F _ av⟩
 have ae:(wr != E)=false:=by simpa using q1
 by_cases q2:n=m;rotate_left
 ·obtain rfl:r=false:=by rw[Q.out,decide_eq_false_iff_not];exact fun c=>q2 (by rw[←ac.out,←ad.out,c.2])
  have af:((n:Int) != (m:Int))=true:=by simp;omega
  clear q1 q2;go_wp2_with fail;go_ret;exact⟨rfl,F _ av⟩
 subst q2;have ag:=yh q1
 have af:((n:Int) != (n:Int))=false:=by simp
 clear q1;go_wp2_with fail;clear ae af g0 g1 z0 z1
 go_loopg [5] n (fun gk i wr=>∃k:Nat,k≤n∧n - k≤gk∧i=.int .i64 k∧Aside (∀j,j < k→l[j]? = l2[j]?)∧yw D wr)
 case atStart=>exact⟨0,M0 _,by omega,rfl,fun j hj=>absurd hj (by omega),av⟩
 case round=>
  clear av;obtain⟨k,hk,ap,rfl,HE,hb⟩:=hrel;have g0:yJ wr g 0 A n cap:=(HG _ hb).cell rfl;have z0:yJ wr z 0 B n I:=(HZ _ hb).cell rfl;by_cases hlt:k < n
  ·obtain⟨b,aq,x,rfl,hx,hi,hc⟩:=(H1.bel (F _ hb)).don hlt;obtain⟨c0,c1,c2,c3,c4,c5,c6,c7,c8,c9,ai,aj,ak⟩:=Ubb hc;obtain⟨b2,ar,y,rfl,hy,ah,ab⟩:=(H2.bel (F _ hb)).don hlt;obtain⟨d0,d1,d2,d3,d4,d5,d6,d7,d8,d9,al,am,an⟩:=Ubb ab;have aa:=fun W=>Qvc x y W;unfold VV at aa;have HX:=yh hx;have Y:=yh hy;clear hx hy hi ah hc ab;have O:=yh (show Ygb x y=decide (x=y)from rfl)
   cases hq:Ygb x y with
   | true=>
    rw[hq]at O aa;clear hq;go_wp2_with fail;go_quiet (fail);go_wp2_with fail;go_roundg (n - (k+1))
    case measure=>omega
    case rel=>
     refine⟨k+1,by omega,by omega,by go_num,(show Aside _ from fun j hj=>?_),by first | exact hb | exact below_drewN hb _⟩;by_cases e:j=k
     ·subst e;rw[HX.out,Y.out,of_decide_eq_true O.out.symm]
     ·exact HE j (by omega)
   | false=>
    rw[hq]at O aa;clear hq
    obtain rfl:r=false:=by
     rw[Q.out,decide_eq_false_iff_not];rintro⟨-,c⟩;subst c;rw[HX.out]at Y;exact of_decide_eq_false O.out.symm (by have:=Y.out;injection this)
    go_wp2_with fail;go_quiet (fail);go_wp2_with fail;go_ret;exact⟨rfl,by first | exact F _ hb | exact F _ (below_drewN hb _)⟩
  ·obtain rfl:k=n:=by omega
   obtain rfl:r=true:=by
    rw[Q.out,decide_eq_true_eq];refine⟨ag,List.ext_getElem? fun j=>?_⟩;by_cases hj:j < k
    ·exact HE j hj
    ·rw[List.getElem?_eq_none (by rw[ac.out];omega),List.getElem?_eq_none (by rw[ad.out];omega)]
   go_wp2_with fail;go_ret;exact⟨rfl,F _ hb⟩
def stD (a:Ask):Int:=if a.til=0 then 2 else 1
def Zo (x:Sai) (a:Ask):Bkg:=if a.kind=2 then ⟨a.id,2,stD a,a.guests,a.level,-1,a.category,0,x.ship.legs,a.til,[]⟩else ⟨a.id,1,stD a,a.guests,a.level,a.cabin,a.category,a.frm,a.upto,a.til,[]⟩
theorem ZAa (x:Sai)(p:SaiV)(a:Ask)(g:Nat)(w:World)(hG:Blk w g (Qa x p) 129) :
  Calls prog 223 #[.pointer (some ⟨g,0,none⟩),.agg (Zf a)] w fun e w'=>e=.returned (.agg (Qj (Zo x a) (.slice none 0 0)))∧yw w w':=by
 obtain⟨B,hB⟩:=yE (Zo x a);rw[←hB];have Y:=yh hB;clear hB;have V:=yh (fun X (hX:yw w X)=>show yI X g 0 x.ship.legs from(hG.bel hX).cell (j:=0) rfl);clear hG;go_enter func223,ntmps223;go_upto_region 0 with(fail);go_cut [3,4] (fun p2 p3 E=>∃c z,yp p2 c∧yp p3 z∧w.heap.size≤z∧AskAt E c a∧Blk E z M8 63∧yw w E)
 case first=>as_aux_lemma=>
  go_wp2_with fail;go_meet;exact⟨_,_,rfl,rfl,by omega,QB _ _ _,QC _ _ _,Zl _ _ _⟩
 obtain⟨c,z,rfl,rfl,hz,hC,hZ,A⟩:=hcut;obtain⟨c0,c1,c2,c3,c4,c5,c6,c7,c8,c9,ai⟩:=hC.all;obtain⟨J,rfl⟩:=yE wc;have aa:=yh A;clear A;have HZ:=yh hZ;clear hZ;have HC:=yh hC;clear hC;go_upto_region 1 with(fail);go_cut [5] (fun p E=>∃y,yp p y∧J.heap.size≤y∧Blk E y (Qj ⟨a.id,1,2,a.guests,a.level,a.cabin,a.category,a.frm,a.upto,a.til,[]⟩ (.slice none 0 0)) 63∧yw J E)
 case first=>
  clear V Y aa HZ;go_wp2_with fail;go_meet;exact⟨_,rfl,J5 _,Blk.new J _ _,Qi J _⟩
 obtain⟨y,rfl,U,I,A⟩:=hcut;obtain⟨W2,rfl⟩:=yE wc;have c1:=(HC.bel A).all.2.1;have c9:yI W2 c 9 a.til:=(HC.bel A).all.2.2.2.2.2.2.2.2.2.1;clear c0 c2 c3 c4 c5 c6 c7 c8 ai;obtain⟨st,af⟩:=yE (stD a);have W:=yh af;clear af;have Q:=yh (fun X (hX:yw J X)=>aa.trans (hX.mono aa.size));have ab:=A;have g0:yI W2 g 0 x.ship.legs:=V _ (Q _ A);have y2:yI W2 y 2 2:=I.cell rfl;have f2:W2.frozen? ⟨y,2,none⟩=false:=I.free 2;have D:=yh I;clear I;go_upto_region 2 with(fail);go_upto_if 23 with(fail);go_cut [5] (fun p E=>yp p y∧Blk E y (Qj ⟨a.id,1,st,a.guests,a.level,a.cabin,a.category,a.frm,a.upto,a.til,[]⟩ (.slice none 0 0)) 63∧yw J E)
 case first=>
  by_cases t0:a.til=0
  ·have t1:(a.til != 0)=false:=by simpa using t0
   obtain rfl:st=2:=by rw[W.out];unfold stD;rw[M3 t0]
   clear t0;go_wp2_with fail;go_meet;exact⟨rfl,D,ab⟩
  ·have t1:(a.til != 0)=true:=by simpa using t0
   obtain rfl:st=1:=by rw[W.out];unfold stD;rw[M2 t0]
   clear t0;go_wp2_with fail;go_meet;exact⟨rfl,D.set (j:=2) (.int .i64 1),ab.setCell U _⟩
 obtain⟨rfl,I,A⟩:=hcut;obtain⟨O,rfl⟩:=yE wc;clear ab g0 c1 c9 y2 D f2;have c1:yI O c 1 a.kind:=(HC.bel A).all.2.1;have g0:yI O g 0 x.ship.legs:=V _ (Q _ A);have D:=yh I;clear I;have ac:=yh A;clear A;go_upto_region 4 with(fail);go_upto_if 27 with(fail);go_cut [5] (fun p E=>yp p y∧Blk E y (Qj B (.slice none 0 0)) 63∧yw J E)
 case first=>
  by_cases k2:a.kind=2;rotate_left
  ·have t1:(a.kind == 2)=false:=by simpa using k2
   have F:=Y.out;unfold Zo at F;rw[M2 k2]at F;have Z:=yh F;clear k2 F;go_wp2_with fail;go_meet;exact⟨rfl,by rw[Z.out,←W.out];exact D,ac⟩
  ·have t1:(a.kind == 2)=true:=by simpa using k2
   have y1:yI O y 1 1:=D.cell rfl;have y5:yI O y 5 a.cabin:=D.cell rfl;have y7:yI O y 7 a.frm:=D.cell rfl;have y8:yI O y 8 a.upto:=D.cell rfl;have f1:=D.free 1;have f5:=D.free 5;have f7:=D.free 7;have f8:=D.free 8;have F:=Y.out;unfold Zo at F;rw[M3 k2]at F;have Z:=yh F;clear k2 F;go_wp2_with fail;go_region;go_wp2_with fail;go_meet;exact⟨rfl,by rw[Z.out,←W.out];exact((((D.set (j:=1) (.int .i64 2)).set (j:=5) (.int .i64 (-1))).set (j:=7) (.int .i64 0)).set (j:=8) (.int .i64 x.ship.legs)),((((ac.setCell U _).setCell U _).setCell U _).setCell U _).drew⟩
 obtain⟨rfl,I,A⟩:=hcut;have ag:=HZ.bel A;have aj:=HZ.lt;have ad:Kept (fun k=>k=z) wc (wc.setRow z (Qj B (.slice none 0 0))):=(Kept.refl (fun k=>k=z) wc).setRow (.inl rfl) _;have ae:=((Q _ A).trans (ad.below (B:=w.heap.size) (Q _ A).size (fun k hk e=>by omega)));have ah:=yh ae;clear ae;clear ad A V Q;go_wp2_with (first | (refine yV (.tmp 5) I underlying63 ?_) | (refine yX 63 (.tmp 4) (.tmp 38) z (Qj B (.slice none 0 0)) ag ?_));refine yq (.agg (Qj B (.slice none 0 0))) (k:=4) (ag.row _) underlying63 ?_;exact⟨rfl,ah⟩
end Go.Proofs.YtjdcokpmgionjaaGreat
