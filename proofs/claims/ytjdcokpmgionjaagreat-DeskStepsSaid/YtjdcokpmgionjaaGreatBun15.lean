/-
  Laws and contracts.
-/
import Derived.Test.YtjdcokpmgionjaaGreatBun14
set_option linter.unusedSimpArgs false
set_option linter.unusedVariables false
set_option maxRecDepth 100000
set_option maxHeartbeats 20000000
namespace Go.Proofs.YtjdcokpmgionjaaGreat
open Proofs.Tryz Go.RowKit Go.Shelf
def wrB (wr:Int) (n:Nat):Bool:=decide (0≤wr) && decide (wr≤(n:Int))
theorem VSb (a b:Ans)(W:World):(binOp .neq 55 (.agg (Qt a)) (.agg (Qt b))).run prog W=.ok (.bool (decide (a≠b))) W:=by
 obtain⟨A,D⟩:=a;obtain⟨E,F⟩:=b;simp only[Ans.mk.injEq,ne_eq];go_simp
 repeat' split
 all_goals simp_all
theorem VRb (a b:Ans)(W:World):(binOp .eql 55 (.agg (Qt a)) (.agg (Qt b))).run prog W=.ok (.bool (decide (a=b))) W:=by
 obtain⟨A,D⟩:=a;obtain⟨E,F⟩:=b;simp only[Ans.mk.injEq];go_simp
 repeat' split
 all_goals simp_all
def YVb (a b:Don):Bool:=decide (a=b)
theorem Q9c (a b:Don)(W:World):(binOp .neq 106 (.agg (Vk a)) (.agg (Vk b))).run prog W=.ok (.bool (!YVb a b)) W:=by
 unfold YVb;obtain⟨⟨A,D,J,O,Q,U,V,a7,X,Y,E⟩,⟨F,I⟩⟩:=a;obtain⟨⟨Z,b1,b2,b3,b4,b5,b6,b7,b8,b9,aa⟩,⟨ab,ac⟩⟩:=b;unfold Vk;simp only[Don.mk.injEq,Ask.mk.injEq,Ans.mk.injEq];go_simp;refine dite (A=Z) (fun h=>?_) (fun h=>by simp[h]);subst h;refine dite (D=b1) (fun h=>?_) (fun h=>by simp[h]);subst h;refine dite (J=b2) (fun h=>?_) (fun h=>by simp[h]);subst h;refine dite (O=b3) (fun h=>?_) (fun h=>by simp[h]);subst h;refine dite (Q=b4) (fun h=>?_) (fun h=>by simp[h]);subst h;refine dite (U=b5) (fun h=>?_) (fun h=>by simp[h]);subst h;refine dite (V=b6) (fun h=>?_) (fun h=>by simp[h]);subst h;refine dite (a7=b7) (fun h=>?_) (fun h=>by simp[h]);subst h;refine dite (X=b8) (fun h=>?_) (fun h=>by simp[h]);subst h;refine dite (Y=b9) (fun h=>?_) (fun h=>by simp[h]);subst h;refine dite (E=aa) (fun h=>?_) (fun h=>by simp[h]);subst h;refine dite (F=ab) (fun h=>?_) (fun h=>by simp[h]);subst h;refine dite (I=ac) (fun h=>?_) (fun h=>by simp[h]);subst h;simp
theorem Uea (A:Option Addr)(n cap:Nat)(wr:Int)(w:World)(_:n≤1000000000000000000) :
  Calls prog 73 #[.agg #[.slice A n cap,.int .i64 wr]] w fun e w'=>e=.returned (.bool (wrB wr n))∧yw w w':=by
 obtain⟨r,E⟩:=yE (wrB wr n);rw[←E];have I:=yh (show r=(decide (0≤wr) && decide (wr≤(n:Int)))from E);clear E;by_cases h0:0≤wr
 ·have D:=J2 h0;rw[D,Bool.true_and]at I
  cases h1:decide (wr≤(n:Int))with
  | true=>
   rw[h1]at I;clear h0;obtain rfl:=I.out;go_enter func73,ntmps73;go_wp2_with fail;go_ret;exact⟨rfl,Qi _ _⟩
  | false=>
   rw[h1]at I;clear h0;obtain rfl:=I.out;go_enter func73,ntmps73;go_wp2_with fail;go_ret;exact⟨rfl,Qi _ _⟩
 ·have D:=J3 h0;rw[D,Bool.false_and]at I;clear h0;obtain rfl:=I.out;go_enter func73,ntmps73;go_wp2_with fail;go_ret;exact⟨rfl,Qi _ _⟩
def ZEc (w':World) (base:Nat) (E:Int) (l:List Don) (wr:Int) (e:Ending):Prop:=∃v xs,e=.returned (.tuple #[.agg #[v,.int .i64 (okI E wr)],.int .i64 E])∧Own ZX 13 106 w' base v (okL E l) xs
def crN (wr:Int) (n:Nat) (keep:Int):Int:=wr+min keep ((n:Int)-wr)
def crE (wr:Int) (n:Nat) (keep:Int):Int:=if wrB wr n=false∨keep<0 then 3 else 0
theorem Uvb (A:Option Addr)(n cap:Nat)(l:List Don)(wr ax:Int)(w:World)(h:Sl ZX 13 w All A n cap l)(hn:n*104≤140737488355328)(_:InI ax) :
  Calls prog 15 #[.agg #[.slice A n cap,.int .i64 wr],.int .i64 ax] w fun e w'=>ZEc w' w.heap.size (crE wr n ax) (l.take (crN wr n ax).toNat) (crN wr n ax) e∧yw w w':=by
 obtain⟨R,hR⟩:=yE (crE wr n ax);have J:=yh (show R=if wrB wr n=false∨ax<0 then 3 else 0 from hR);rw[←hR];clear hR;have ao:=h.bd;have al:=h.le;have am:=h.max;have ae:=yh (fun X=>Uea A n cap wr X (by omega));obtain⟨r,hr⟩:=yE (wrB wr n);have HR:=yh (show r=(decide (0≤wr) && decide (wr≤(n:Int)))from hr);rw[←hr]at ae J;have HL:=yh h;clear h hr al am;go_enter func15,ntmps15;go_upto_region 0 with(fail);go_cut [2,4,5] (fun p p2 p3 I=>∃g z,yp p g∧yp p2 z∧p3=.int .i64 0∧w.heap.size≤z∧Blk I g #[.slice A n cap,.int .i64 wr] 39∧Blk I z #[.slice none 0 0,.int .i64 0] 39∧yw w I)
 case first=>as_aux_lemma=>
  go_wp2_with fail;go_meet;exact⟨_,_,rfl,rfl,rfl,by omega,QE _ _ _,QF _ _ _,Zo _ _ _⟩
 obtain⟨g,z,rfl,rfl,rfl,hz,U,hZ,D⟩:=hcut;have g0:yJ wc g 0 A n cap:=U.cell rfl;have g1:yI wc g 1 wr:=U.cell rfl;go_wp2_with fail;refine yM (ae _) fun w1 V=>?_;have F:=hZ.bel V;have ag:=U.bel V;replace D:=D.trans (V.mono D.size);clear hZ U V g0 g1;have ab:=yh (show yw w (w1.setRow z #[.slice none 0 0,.int .i64 0])→ZEc (w1.setRow z #[.slice none 0 0,.int .i64 0]) w.heap.size 3 (l.take (crN wr n ax).toNat) (crN wr n ax) (.returned (.tuple #[.agg #[.slice none 0 0,.int .i64 0],.int .i64 3]))from fun D=>⟨.slice none 0 0,[],by rw[X2a (by decide)],by rw[Yu (by decide)];exact Own.nil _ _ _ _ _⟩);have O:=yh (show ∀L,yw w (w1.setRow z L)from fun L=>D.trans (((yk z w1).setRow (.inl rfl) _).below (B:=w.heap.size) D.size (fun k E e=>by omega)));cases r
 ·obtain rfl:R=3:=by rw[J.out,M3 (.inl rfl)]
  go_wp2_with (refine yX 39 (.tmp 4) (.tmp 14) z #[.slice none 0 0,.int .i64 0] F ?_);refine yq2 (.tuple #[.agg #[.slice none 0 0,.int .i64 0],.int .i64 3]) (k:=4) (u:=5) (F.row _) underlying39 ?_;exact⟨ab (O _),O _⟩
 by_cases hk0:ax<0
 ·have ah:decide (ax<0)=true:=J2 hk0
  obtain rfl:R=3:=by rw[J.out,M3 (.inr hk0)]
  have Q:=yh hk0;clear hk0;go_wp2_with (refine yX 39 (.tmp 4) (.tmp 14) z #[.slice none 0 0,.int .i64 0] F ?_);refine yq2 (.tuple #[.agg #[.slice none 0 0,.int .i64 0],.int .i64 3]) (k:=4) (u:=5) (F.row _) underlying39 ?_;exact⟨ab (O _),O _⟩
 have ah:decide (ax<0)=false:=J3 hk0
 obtain rfl:R=0:=by rw[J.out,M2 (fun c=>c.elim (by simp) hk0)]
 have Q:=yh hk0;clear hk0;have g0:yJ w1 g 0 A n cap:=ag.cell rfl;have g1:yI w1 g 1 wr:=ag.cell rfl
 have hw:0≤wr∧wr≤(n:Int):=by
  have:=HR.out;rw[eq_comm,Bool.and_eq_true,decide_eq_true_eq,decide_eq_true_eq]at this;exact this
 obtain⟨k,E⟩:=Int.eq_ofNat_of_zero_le (show 0≤crN wr n ax by have:=Q.out;unfold crN;omega)
 have ak:k≤n:=by have:=Q.out;unfold crN at E;omega
 have an:wrap64 ((n:Int)-wr)=(n:Int)-wr:=by unfold wrap64;omega
 have aj:wrap64 (wr+min ax ((n:Int)-wr))=(k:Int):=by rw[←E];unfold wrap64 crN;have:=Q.out;omega
 have ac:=yh E;clear E;clear hw;go_upto_region 3 with(fail);go_cut [6] (fun p I=>p=.int .i64 (k:Int)∧w1=I)
 case first=>as_aux_lemma=>
  go_wp2_with fail;go_meet;exact⟨by rw[aj],rfl⟩
 obtain⟨rfl,rfl⟩:=hcut;clear an aj ah
 have aq:k≤cap:=by have:=HL.le;omega
 have ap:decide ((k:Int)<0)=false:=J3 (by omega);have HC:=yh (V0a A k cap (l.take k) w1 ((HL.bel D).pre ak) (by omega));have ar:=D.size;go_wp2_with fail;refine HC.mono ?_;rintro e w2 ⟨v,xs,rfl,Z,aa⟩;obtain⟨W,n5,Y,rfl,-⟩:=Z.sl Qp;have ai:=F.bel aa;have av:=F.lt;have au:=aa.size;have af:Kept (fun k=>k=z) w2 (w2.setRow z #[.slice W n5 Y,.int .i64 (k:Int)]):=(yk z w2).setRow (.inl rfl) _;have HO:=yh Z;clear Z;have ad:=yh af;clear af;clear HC;go_wp2_with (refine yX 39 (.tmp 4) (.tmp 32) z #[.slice W n5 Y,.int .i64 (k:Int)] ai ?_);refine yq2 (.tuple #[.agg #[.slice W n5 Y,.int .i64 (k:Int)],.int .i64 0]) (k:=4) (u:=5) (ai.row _) underlying39 ?_;refine⟨⟨_,xs,by rw[ac.out,Zv],?_⟩,?_⟩
 ·rw[ac.out,Int.toNat_natCast,QR];exact(HO.keepB Zy (fun j hj=>ad.block j (HO.lt j hj).2 (by have:=(HO.lt j hj).1;omega))).mono Qp (by omega)
 ·exact(D.trans (aa.mono D.size)).trans (ad.below (B:=w.heap.size) (by omega) (fun k E e=>by omega))
theorem ZYa (A B:Option Addr)(n cap m I:Nat)(l l2:List Don)(wr E:Int)(w:World)(h:Sl ZX 13 w All A n cap l)(Z:Sl ZX 13 w All B m I l2) :
  Calls prog 17 #[.agg #[.slice A n cap,.int .i64 wr],.agg #[.slice B m I,.int .i64 E]] w fun e w'=>e=.returned (.bool (decide (wr=E∧l=l2)))∧yw w w':=by
 obtain⟨r,hr⟩:=yE (decide (wr=E∧l=l2));rw[←hr];have Q:=yh hr;clear hr;have ao:=h.bd;have ac:=yh h.len;have ad:=yh Z.len;have H1:=yh h;clear h;have H2:=yh Z;clear Z;go_enter func17,ntmps17;go_upto_region 0 with(fail);go_cut [2,3,4] (fun p p2 _ wx=>∃g z,yp p g∧yp p2 z∧Blk wx g #[.slice A n cap,.int .i64 wr] 39∧Blk wx z #[.slice B m I,.int .i64 E] 39∧yw w wx)
 case first=>as_aux_lemma=>
  go_wp2_with fail;go_meet;exact⟨_,_,rfl,rfl,QE _ _ _,QF _ _ _,Zo _ _ _⟩
 obtain⟨g,z,rfl,rfl,U,V,hb⟩:=hcut;obtain⟨D,rfl⟩:=yE wc;have HG:=yh (fun X (J:yw D X)=>U.bel J);have HZ:=yh (fun X (J:yw D X)=>V.bel J);have F:=yh (fun X (J:yw D X)=>hb.trans (J.mono hb.size));have av:yw D D:=J4 _ _;have g0:yJ D g 0 A n cap:=U.cell rfl;have g1:yI D g 1 wr:=U.cell rfl;have z0:yJ D z 0 B m I:=V.cell rfl;have z1:yI D z 1 E:=V.cell rfl;clear U V hb;by_cases q1:wr=E;rotate_left
 ·obtain rfl:r=false:=by rw[Q.out,decide_eq_false_iff_not];exact fun c=>q1 c.1
  have ae:(wr !=E)=true:=by simpa using q1
  clear q1;go_wp2_with fail;go_ret;exact⟨rfl,F _ av⟩
 have ae:(wr !=E)=false:=by simpa using q1
 by_cases q2:n=m;rotate_left
 ·obtain rfl:r=false:=by rw[Q.out,decide_eq_false_iff_not];exact fun c=>q2 (by rw[←ac.out,←ad.out,c.2])
  have af:((n:Int) !=(m:Int))=true:=by simp;omega
  clear q1 q2;go_wp2_with fail;go_ret;exact⟨rfl,F _ av⟩
 subst q2;have ag:=yh q1
 have af:((n:Int) !=(n:Int))=false:=by simp
 clear q1;go_wp2_with fail;clear ae af g0 g1 z0 z1
 go_loopg [5] n (fun gk i wr=>∃k:Nat,k≤n∧n-k≤gk∧i=.int .i64 k∧Aside (∀j,j<k→l[j]? = l2[j]?)∧yw D wr)
 case atStart=>exact⟨0,M0 _,by omega,rfl,fun j hj=>absurd hj (by omega),av⟩
 case round=>
  clear av;obtain⟨k,hk,ap,rfl,HE,hb⟩:=hrel;have g0:yJ wr g 0 A n cap:=(HG _ hb).cell rfl;have z0:yJ wr z 0 B n I:=(HZ _ hb).cell rfl;by_cases hlt:k<n
  ·obtain⟨b,aq,x,rfl,hx,hi,hc⟩:=(H1.bel (F _ hb)).don hlt;obtain⟨c0,c1,c2,c3,c4,c5,c6,c7,c8,c9,ai,aj,ak⟩:=Q0a hc;obtain⟨b2,ar,y,rfl,hy,ah,ab⟩:=(H2.bel (F _ hb)).don hlt;obtain⟨d0,d1,d2,d3,d4,d5,d6,d7,d8,d9,al,am,an⟩:=Q0a ab;have aa:=fun W=>Q9c x y W;unfold Vk at aa;have HX:=yh hx;have Y:=yh hy;clear hx hy hi ah hc ab;have O:=yh (show YVb x y=decide (x=y)from rfl)
   cases hq:YVb x y with
   | true=>
    rw[hq]at O aa;clear hq;go_wp2_with fail;go_quiet (fail);go_wp2_with fail;go_roundg (n-(k+1))
    case measure=>omega
    case rel=>
     refine⟨k+1,by omega,by omega,by go_num,(show Aside _ from fun j hj=>?_),by first|exact hb|exact below_drewN hb _⟩;by_cases e:j=k
     ·subst e;rw[HX.out,Y.out,of_decide_eq_true O.out.symm]
     ·exact HE j (by omega)
   | false=>
    rw[hq]at O aa;clear hq
    obtain rfl:r=false:=by
     rw[Q.out,decide_eq_false_iff_not];rintro⟨-,c⟩;subst c;rw[HX.out]at Y;exact of_decide_eq_false O.out.symm (by have:=Y.out;injection this)
    go_wp2_with fail;go_quiet (fail);go_wp2_with fail;go_ret;exact⟨rfl,by first|exact F _ hb|exact F _ (below_drewN hb _)⟩
  ·obtain rfl:k=n:=by omega
   obtain rfl:r=true:=by
    rw[Q.out,decide_eq_true_eq];refine⟨ag,List.ext_getElem? fun j=>?_⟩;by_cases hj:j<k
    ·exact HE j hj
    ·rw[List.getElem?_eq_none (by rw[ac.out];omega),List.getElem?_eq_none (by rw[ad.out];omega)]
   go_wp2_with fail;go_ret;exact⟨rfl,F _ hb⟩
def stD (a:Ask):Int:=if a.til=0 then 2 else 1
def Zr (x:Sai) (a:Ask):Bkg:=if a.kind=2 then ⟨a.id,2,stD a,a.guests,a.level,-1,a.category,0,x.ship.legs,a.til,[]⟩else ⟨a.id,1,stD a,a.guests,a.level,a.cabin,a.category,a.frm,a.upto,a.til,[]⟩
theorem Z1a (x:Sai)(p:SaiV)(a:Ask)(g:Nat)(w:World)(hG:Blk w g (Qa x p) 129) :
  Calls prog 223 #[.pointer (some ⟨g,0,none⟩),.agg (QY a)] w fun e w'=>e=.returned (.agg (Qk (Zr x a) (.slice none 0 0)))∧yw w w':=by
 obtain⟨B,hB⟩:=yE (Zr x a);rw[←hB];have Y:=yh hB;clear hB;have V:=yh (fun X (hX:yw w X)=>show yI X g 0 x.ship.legs from(hG.bel hX).cell (j:=0) rfl);clear hG;go_enter func223,ntmps223;go_upto_region 0 with(fail);go_cut [3,4] (fun p2 p3 E=>∃c z,yp p2 c∧yp p3 z∧w.heap.size≤z∧AskAt E c a∧Blk E z M8 63∧yw w E)
 case first=>as_aux_lemma=>
  go_wp2_with fail;go_meet;exact⟨_,_,rfl,rfl,by omega,QE _ _ _,QF _ _ _,Zo _ _ _⟩
 obtain⟨c,z,rfl,rfl,hz,hC,hZ,A⟩:=hcut;obtain⟨c0,c1,c2,c3,c4,c5,c6,c7,c8,c9,ai⟩:=hC.all;obtain⟨J,rfl⟩:=yE wc;have aa:=yh A;clear A;have HZ:=yh hZ;clear hZ;have HC:=yh hC;clear hC;go_upto_region 1 with(fail);go_cut [5] (fun p E=>∃y,yp p y∧J.heap.size≤y∧Blk E y (Qk ⟨a.id,1,2,a.guests,a.level,a.cabin,a.category,a.frm,a.upto,a.til,[]⟩ (.slice none 0 0)) 63∧yw J E)
 case first=>
  clear V Y aa HZ;go_wp2_with fail;go_meet;exact⟨_,rfl,J5 _,Blk.new J _ _,Qi J _⟩
 obtain⟨y,rfl,U,I,A⟩:=hcut;obtain⟨W2,rfl⟩:=yE wc;have c1:=(HC.bel A).all.2.1;have c9:yI W2 c 9 a.til:=(HC.bel A).all.2.2.2.2.2.2.2.2.2.1;clear c0 c2 c3 c4 c5 c6 c7 c8 ai;obtain⟨st,af⟩:=yE (stD a);have W:=yh af;clear af;have Q:=yh (fun X (hX:yw J X)=>aa.trans (hX.mono aa.size));have ab:=A;have g0:yI W2 g 0 x.ship.legs:=V _ (Q _ A);have y2:yI W2 y 2 2:=I.cell rfl;have f2:W2.frozen? ⟨y,2,none⟩=false:=I.free 2;have D:=yh I;clear I;go_upto_region 2 with(fail);go_upto_if 23 with(fail);go_cut [5] (fun p E=>yp p y∧Blk E y (Qk ⟨a.id,1,st,a.guests,a.level,a.cabin,a.category,a.frm,a.upto,a.til,[]⟩ (.slice none 0 0)) 63∧yw J E)
 case first=>
  by_cases t0:a.til=0
  ·have t1:(a.til !=0)=false:=by simpa using t0
   obtain rfl:st=2:=by rw[W.out];unfold stD;rw[M3 t0]
   clear t0;go_wp2_with fail;go_meet;exact⟨rfl,D,ab⟩
  ·have t1:(a.til !=0)=true:=by simpa using t0
   obtain rfl:st=1:=by rw[W.out];unfold stD;rw[M2 t0]
   clear t0;go_wp2_with fail;go_meet;exact⟨rfl,D.set (j:=2) (.int .i64 1),ab.setCell U _⟩
 obtain⟨rfl,I,A⟩:=hcut;obtain⟨O,rfl⟩:=yE wc;clear ab g0 c1 c9 y2 D f2;have c1:yI O c 1 a.kind:=(HC.bel A).all.2.1;have g0:yI O g 0 x.ship.legs:=V _ (Q _ A);have D:=yh I;clear I;have ac:=yh A;clear A;go_upto_region 4 with(fail);go_upto_if 27 with(fail);go_cut [5] (fun p E=>yp p y∧Blk E y (Qk B (.slice none 0 0)) 63∧yw J E)
 case first=>
  by_cases k2:a.kind=2;rotate_left
  ·have t1:(a.kind==2)=false:=by simpa using k2
   have F:=Y.out;unfold Zr at F;rw[M2 k2]at F;have Z:=yh F;clear k2 F;go_wp2_with fail;go_meet;exact⟨rfl,by rw[Z.out,←W.out];exact D,ac⟩
  ·have t1:(a.kind==2)=true:=by simpa using k2
   have y1:yI O y 1 1:=D.cell rfl;have y5:yI O y 5 a.cabin:=D.cell rfl;have y7:yI O y 7 a.frm:=D.cell rfl;have y8:yI O y 8 a.upto:=D.cell rfl;have f1:=D.free 1;have f5:=D.free 5;have f7:=D.free 7;have f8:=D.free 8;have F:=Y.out;unfold Zr at F;rw[M3 k2]at F;have Z:=yh F;clear k2 F;go_wp2_with fail;go_region;go_wp2_with fail;go_meet;exact⟨rfl,by rw[Z.out,←W.out];exact((((D.set (j:=1) (.int .i64 2)).set (j:=5) (.int .i64 (-1))).set (j:=7) (.int .i64 0)).set (j:=8) (.int .i64 x.ship.legs)),((((ac.setCell U _).setCell U _).setCell U _).setCell U _).drew⟩
 obtain⟨rfl,I,A⟩:=hcut;have ag:=HZ.bel A;have aj:=HZ.lt;have ad:Kept (fun k=>k=z) wc (wc.setRow z (Qk B (.slice none 0 0))):=(yk z wc).setRow (.inl rfl) _;have ae:=((Q _ A).trans (ad.below (B:=w.heap.size) (Q _ A).size (fun k hk e=>by omega)));have ah:=yh ae;clear ae;clear ad A V Q;go_wp2_with (first|(refine yV (.tmp 5) I underlying63 ?_)|(refine yX 63 (.tmp 4) (.tmp 38) z (Qk B (.slice none 0 0)) ag ?_));refine yq (.agg (Qk B (.slice none 0 0))) (k:=4) (ag.row _) underlying63 ?_;exact⟨rfl,ah⟩
def QT (x:Sai) (i:Nat) (b:Bkg):Sai:={ x with bks:=x.bks.set i b }
def ZW (x:Sai) (t:Int):Bkg:=x.bks.getD (Ze x.bks t) default
def ZH (x:Sai) (t:Int):Bool:=ZA x.bks t && QB (ZW x t)
def Zoa (b:Bkg):Int:=if b.state=1 then 0 else 4
def YF (b:Bkg):Bkg:={ b with state:=2,til:=0 }
def Uaa (x:Sai) (b:Bkg) (a:Int):Bkg:={ b with fol:=b.fol++[⟨x.day,2,-a⟩] }
def Zda (x:Sai) (b:Bkg) (a:Int):Int:=if Qc a 1 100000000=false then 3 else if Zz b.fol<a then 4 else Qe (Uaa x b a).fol
def Zea (x:Sai) (b:Bkg) (day:Int):Int:=if b.state=2∧0<QV b.fol then Xq x.fares (QV b.fol) (max 0 (x.leaves-day))else 0
def ZV (x:Sai) (b:Bkg) (day:Int):Int:=if b.state=2∧100000000<QV b.fol then 3 else Qe (ZF b.fol day (Zea x b day))
def VR (x:Sai) (b:Bkg) (day:Int):Bkg:={ b with state:=3,til:=0,fol:=ZF b.fol day (Zea x b day) }
def QK (b:Bkg) (c:Int):Bkg:={ b with cab:=c }
noncomputable def Q9a (x:Sai) (i:Nat) (b:Bkg) (c:Int):Int:=
 if b.cab<0 then 4 else if c<0∨(x.ship.cabs.length:Int)≤c then 3 else if c=b.cab then 6 else if ofE x.ship (QK b c)≠0 then ofE x.ship (QK b c)else QX (QT x i (QK b c))
def YT (x:Sai) (t E:Int):Int:=if ZH x t=true then E else 5
noncomputable def chE (x:Sai) (t E:Int):Int:=if QD x≠0 then QD x else YT x t E
theorem UTa {x:Sai}{t E:Int}(h:QD x=0):chE x t E=YT x t E:=by unfold chE;rw[M2 (by simpa using h)]
noncomputable def ZTa (x:Sai) (t:Int):Int:=chE x t (Zoa (ZW x t))
def Qwa (x:Sai) (t:Int):Sai:=QT x (Ze x.bks t) (YF (ZW x t))
noncomputable def ZKa (x:Sai) (t a:Int):Int:=chE x t (Zda x (ZW x t) a)
def Qta (x:Sai) (t a:Int):Sai:=QT x (Ze x.bks t) (Uaa x (ZW x t) a)
noncomputable def ZCa (x:Sai) (t:Int):Int:=chE x t (ZV x (ZW x t) x.day)
def Qqa (x:Sai) (t:Int):Sai:=QT x (Ze x.bks t) (VR x (ZW x t) x.day)
noncomputable def ZGa (x:Sai) (t c:Int):Int:=chE x t (Q9a x (Ze x.bks t) (ZW x t) c)
def Qsa (x:Sai) (t c:Int):Sai:=QT x (Ze x.bks t) (QK (ZW x t) c)
theorem Z2a {S:Nat→Prop}{W X:World}{p:Addr}{v:Value}(hK:Kept S W X)(D:¬S p.block)(A:W.cell? p=some v):X.cell? p=some v:=(World.cell?_of_block (hK.block _ (World.block_lt_of_cell? W p A) D)).trans A
theorem Yo {B:Nat}{W X:World}{p:Addr}(A:Below B W X)(E:p.block<B)(D:W.frozen? p=false):X.frozen? p=false:=(A.frozen E).trans D
theorem Xo {l:List Bkg}{t:Int}(O:Xj l)(h:ZA l t=true):∃b,l[Ze l t]? = some b∧b.id=t∧Ze l t<l.length∧atI l t=(Ze l t:Int):=by
 unfold ZA at h;obtain⟨b,Q,F⟩:=List.any_eq_true.1 h;have F:=of_decide_eq_true F;obtain⟨i,D⟩:=List.getElem?_of_mem Q;have V:=(J0.1 D).1
 have J:ZXa l t i:=fun q c E A=>by have:=O q i c b E A D;omega
 have U:Xh l t i:=fun q c E A=>by
  rcases Nat.lt_or_ge i q with I|I
  ·have:=O i q b c I D A;omega
  ·obtain rfl:q=i:=by omega
   rw[D]at A;injection A with A;subst A;omega
 have W:=X5a (by omega) J U;rw[W];refine⟨b,D,F,V,?_⟩;refine VA (x:=b) ?_ D (J2 F);refine List.any_eq_false.2 fun c A=>?_;obtain⟨q,E⟩:=List.getElem?_of_mem A;have X:=(J0.1 E).1;rw[J8]at X;rw[List.getElem?_take,M3 (by omega)]at E;have:=J q c (by omega) E;simp;omega
theorem VTb {l:List Bkg}{t:Int}(h:ZA l t=false):atI l t=-1:=ZK h
theorem UE {x:Sai}{t:Int}(O:Xj x.bks)(h:ZH x t=true):∃b,x.bks[Ze x.bks t]? = some b∧b.id=t∧Ze x.bks t<x.bks.length∧atI x.bks t=(Ze x.bks t:Int)∧b.state≠3∧ZW x t=b:=by
 unfold ZH at h;obtain⟨J,A⟩:=Bool.and_eq_true_iff.1 h;obtain⟨b,D,E,F,I⟩:=Xo O J
 have e:ZW x t=b:=by unfold ZW;rw[J7,D];rfl
 refine⟨b,D,E,F,I,?_,e⟩;rw[e]at A;unfold QB at A
 simpa using A
theorem XAb {x:Sai}{t:Int}(D:Xj x.bks):(if ZH x t=true then (Ze x.bks t:Int)else -1)=if 0≤atI x.bks t∧(x.bks.getD (atI x.bks t).toNat default).state=3 then -1 else atI x.bks t:=by
 by_cases h:ZA x.bks t=true
 ·obtain⟨b,E,F,I,A⟩:=Xo D h;rw[A];simp only[Int.toNat_natCast];by_cases h3:(ZW x t).state=3
  ·have:ZH x t=false:=by unfold ZH QB;rw[J2 h3];simp
   rw[this,M2 (by simp),M3 ⟨by omega,h3⟩]
  ·have:ZH x t=true:=by unfold ZH QB;rw[J3 h3,h];rfl
   rw[this,M3 rfl,M2 (fun h=>h3 h.2)]
 ·have h:=Bool.eq_false_iff.2 h
  have:ZH x t=false:=by unfold ZH;rw[h];rfl
  rw[this,VTb h];simp
theorem X3b {l:List Bkg}{i:Nat}{b b':Bkg}(X:Xj l)(E:l[i]? = some b)(U:b'.id=b.id):Xj (l.set i b'):=by
 have V:=(J0.1 E).1
 have F:∀(k:Nat) (c:Bkg),(l.set i b')[k]? = some c→∃D,l[k]? = some D∧c.id=D.id:=fun k c A=>by
  by_cases hk:k=i
  ·subst hk;rw[List.getElem?_set_self V]at A;injection A with A;subst A;exact⟨b,E,U⟩
  ·rw[List.getElem?_set_ne (fun e=>hk e.symm)]at A;exact⟨c,A,rfl⟩
 intro p q c d W A Q;obtain⟨D,J,Y⟩:=F p c A;obtain⟨I,O,Z⟩:=F q d Q;have:=X p q D I W J O;omega
theorem Xxb {x:Fares}{c I n d:Int}(F:FareOk x c I)(A:0≤n)(J:n≤100000000):0≤Xq x n d∧Xq x n d≤100000000:=by
 unfold Xq
 split
 ·omega
 ·obtain⟨p,D⟩:=yE ((x.bands[(Z5a x d).toNat]?.getD default).part);rw[←D]
  have E:0≤p∧p≤100:=by
   rw[D];rcases h:x.bands[(Z5a x d).toNat]? with _|b
   ·decide
   ·have:=F.band b (J6 h)
    simpa using ⟨this.2.2.1,this.2.2.2⟩
  unfold UT;have O:0≤n*p:=Int.mul_nonneg A E.1;have Q:n*p≤n*100:=Int.mul_le_mul_of_nonneg_left E.2 A;omega
theorem XWb {x:Sai}{b:Bkg}{d:Int}(A:FareOk x.fares x.ship.cats.length x.ship.legs)(h:¬(b.state=2∧100000000<QV b.fol)):0≤Zea x b d∧Zea x b d≤100000000:=by
 unfold Zea
 split
 ·next hc=>exact Xxb A (by omega) (by have:=hc.1;omega)
 ·omega
theorem QKb {l:List Entry}{d p:Int}(h:Qe l=0)(A:0≤p)(D:p≤100000000):VV l d p=Qe (ZF l d p):=by
 unfold VV;rw[M2 (by simpa using h),M2 (by omega)]
theorem Qoc {x:Sai}{n d:Int}(E:ZI x.fares x.ship.cats.length x.ship.legs=0)(A:0≤n)(I:0≤d):Vib x.fares x.ship.cats.length x.ship.legs n d=if 100000000<n then 3 else 0:=by
 have F:X4a x.fares x.ship.cats.length x.ship.legs n=if 100000000<n then 3 else 0:=by
  unfold X4a;rw[M2 (by rw[E];simp)];by_cases h:100000000<n
  ·rw[M3 h,M2 (fun D=>by have:=Ql.1 D;omega)]
  ·rw[M2 h,M3 (Ql.2 ⟨A,by omega⟩)]
 unfold Vib;rw[F];by_cases h:100000000<n
 ·rw[M3 h,M3 (by decide)]
 ·rw[M2 h,M2 (by decide),M2 (by omega)]
section
variable {α:Type} {c:Cod α} {size:Nat} {e:TypeId} {w:World} {base g n cap:Nat} {l:List α} {xs:List Value}
theorem Own.putG (hg:Good c)(h:Own c size e w base (.slice (some ⟨g,0,none⟩) n cap) l xs){i j:Nat}{x x':α}{u:Value}(hx:l[i]? = some x)(X:j<size)
  (hc:∀cs,c (w.setCell ⟨g,i*size+j,none⟩ u) (QL base (.slice (some ⟨g,0,none⟩) n cap)) x cs→c (w.setCell ⟨g,i*size+j,none⟩ u) (QL base (.slice (some ⟨g,0,none⟩) n cap)) x' (cs.set j u)) :
  Own c size e (w.setCell ⟨g,i*size+j,none⟩ u) base (.slice (some ⟨g,0,none⟩) n cap) (l.set i x') (xs.set (i*size+j) u):=by
 have Z:=h.row;have hn:=h.len;subst hn;have hk:Kept (fun b=>b=g) w (w.setCell ⟨g,i*size+j,none⟩ u):=(yk g w).setCell (p:=⟨g,i*size+j,none⟩) (.inl rfl) u
 have Y:∀(x:α) (E:List Value),c w (QL base (.slice (some ⟨g,0,none⟩) l.length cap)) x E→c (w.setCell ⟨g,i*size+j,none⟩ u) (QL base (.slice (some ⟨g,0,none⟩) l.length cap)) x E:=fun x E h0=>
  hg.keep h0 fun b V O=>⟨hk.block b O (fun e=>by subst e;exact V.2 rfl),V⟩
 have W:i<l.length:=(J0.1 hx).1;have aa:xs.length=l.length*size:=Z.1
 have O:i*size+j<xs.length:=by have:=Zcc W X;omega
 refine⟨by rw[List.length_set];exact(Z.stored _ u).1,fun k y D=>?_⟩;by_cases hki:k=i
 ·subst hki;rw[List.getElem?_set_self W]at D;injection D with D;subst D;obtain⟨cs,F,J,I⟩:=h.el k x hx;refine⟨cs.set j u,hc _ (Y _ _ F),by simpa using J,fun q v A=>?_⟩;by_cases Q:q=j
  ·subst Q;rw[List.getElem?_set_self (by omega)]at A;rw[List.getElem?_set_self O];exact A
  ·rw[List.getElem?_set_ne (by omega)]at A;rw[List.getElem?_set_ne (by omega)];exact I q v A
 ·rw[List.getElem?_set_ne (by omega)]at D;obtain⟨cs,F,J,I⟩:=h.el k y D;refine⟨cs,Y _ _ F,J,fun q v A=>?_⟩
  have Q:q<size:=by have:=(J0.1 A).1;omega
  rw[List.getElem?_set_ne ?_]
  ·exact I q v A
  ·intro he;rcases Nat.lt_or_ge k i with U|U
   ·have:=Q2b U Q;omega
   ·have:=Q2b (show i<k by omega) X;omega
end
theorem QAa {w:World}{S:Nat→Prop}{b:Bkg}{cs:List Value}{s:Int}(h:VU w S b cs)(E:InI s):VU w S { b with state:=s } (cs.set 2 (.int .i64 s)):=by
 obtain⟨v,rfl,D,A⟩:=h;exact⟨v,rfl,D,A.id,A.kind,E,A.gst,A.cab,A.cat,A.frm,A.upto,A.til⟩
theorem URa {w:World}{S:Nat→Prop}{b:Bkg}{cs:List Value}{s:Int}(h:VU w S b cs)(E:InI s):VU w S { b with til:=s } (cs.set 9 (.int .i64 s)):=by
 obtain⟨v,rfl,D,A⟩:=h;exact⟨v,rfl,D,A.id,A.kind,A.state,A.gst,A.cab,A.cat,A.frm,A.upto,E⟩
theorem Yva {w:World}{S:Nat→Prop}{b:Bkg}{cs:List Value}{s:Int}(h:VU w S b cs)(E:InI s):VU w S { b with cab:=s } (cs.set 5 (.int .i64 s)):=by
 obtain⟨v,rfl,D,A⟩:=h;exact⟨v,rfl,D,A.id,A.kind,A.state,A.gst,E,A.cat,A.frm,A.upto,A.til⟩
theorem Ywa {w:World}{S:Nat→Prop}{b:Bkg}{cs:List Value}{v:Value}{f:List Entry}(h:VU w S b cs)(D:InnO Qm 3 140 w S v f):VU w S { b with fol:=f } (cs.set 10 v):=by
 obtain⟨F,rfl,E,A⟩:=h;exact⟨v,rfl,D,A.id,A.kind,A.state,A.gst,A.cab,A.cat,A.frm,A.upto,A.til⟩
section
variable {w0:World} {b0:Nat} {w:World} {base:Nat} {x:Sai} {p:SaiV} {g i:Nat} {b:Bkg}
theorem SaiW.put {j:Nat}{b':Bkg}{u:Value}(h:SaiW w0 b0 w base x p)(E:p.C=some ⟨g,0,none⟩)(W:x.bks[i]? = some b)(Y:j<11)
  (X:∀cs,VU (w.setCell ⟨g,i*11+j,none⟩ u) (QL w0.heap.size (.slice (some ⟨g,0,none⟩) p.nb p.cb)) b cs→VU (w.setCell ⟨g,i*11+j,none⟩ u) (QL w0.heap.size (.slice (some ⟨g,0,none⟩) p.nb p.cb)) b' (cs.set j u)) :
  SaiW w0 b0 (w.setCell ⟨g,i*11+j,none⟩ u) base (QT x i b') p:=by
 obtain⟨I,J,O,Q,A,xs,D⟩:=h;rw[E]at D;have Z:=(D.lt g rfl).1;have F:Kept (fun b=>b=g) w (w.setCell ⟨g,i*11+j,none⟩ u):=(yk g w).setCell (p:=⟨g,i*11+j,none⟩) (.inl rfl) u;refine⟨I,J,Nat.le_trans O F.size,fun k U V=>(F.block k (by omega) (by omega)).trans (Q k U V),⟨A.cats,A.cabs,A.leg,A.bands,A.a,A.t,A.d⟩,xs.set (i*11+j) u,?_⟩;rw[E];exact D.putG Zp W Y X
theorem SaiW.at (h:SaiW w0 b0 w base x p)(I:x.bks[i]? = some b):∃g A E D,p.C=some ⟨g,0,none⟩∧w0.heap.size≤g∧g<w.heap.size∧(∀j u,(Qk b (.slice A E D)).toList[j]? = some u→w.cell? ⟨g,i*11+j,none⟩=some u)∧
  (∀j,w.frozen? ⟨g,j,none⟩=false)∧Sl Qm 3 w All A E D b.fol∧BkIn b∧x.bks.length=p.nb:=by
 obtain⟨a1,a2,a3,a4,a5,xs,F⟩:=h;obtain⟨g,cap,Z,V,W⟩:=F.form (by have:=(J0.1 I).1;omega);injection Z with e1 e2 e3;rw[e1]at F;obtain⟨cs,O,hl,Q,U⟩:=F.cells I;obtain⟨v,rfl,X,J⟩:=O;obtain⟨A,E,D,rfl,Y⟩:=X.sl Qb Zb;exact⟨g,A,E,D,e1,V,W,Q,U,Y.all Qb (by omega),J,e2.symm⟩
theorem SaiW.neB {y:Nat}{cs:Array Value}{t:TypeId}(h:SaiW w0 b0 w base x p)(D:p.C=some ⟨g,0,none⟩)(E:Blk w y cs t)(F:t≠63):g≠y:=by
 obtain⟨I,J,O,Q,U,xs,A⟩:=h;rw[D]at A;exact fun e=>A.neTy E F (by rw[e];rfl)
end
theorem Uyc {w:World}{a o:Nat}{b:Bkg}{v:Value}(h:∀j u,(Qk b v).toList[j]? = some u→w.cell? ⟨a,o+j,none⟩=some u):yI w a o b.id∧yI w a (o+1) b.kind∧yI w a (o+2) b.state∧
  yI w a (o+3) b.gst∧w.cell? ⟨a,o+4,none⟩=some (.bool b.lev)∧yI w a (o+5) b.cab∧yI w a (o+6) b.cat∧yI w a (o+7) b.frm∧
  yI w a (o+8) b.upto∧yI w a (o+9) b.til∧w.cell? ⟨a,o+10,none⟩=some v:=
 ⟨h 0 _ rfl,h 1 _ rfl,h 2 _ rfl,h 3 _ rfl,h 4 _ rfl,h 5 _ rfl,h 6 _ rfl,h 7 _ rfl,h 8 _ rfl,h 9 _ rfl,h 10 _ rfl⟩
theorem set_set (x:Sai)(i:Nat)(b c:Bkg):QT (QT x i b) i c=QT x i c:=by unfold QT;rw[List.set_set]
theorem Yz {x:Sai}{i:Nat}{b c:Bkg}(h:x.bks[i]? = some c):(QT x i b).bks[i]? = some b:=List.getElem?_set_self (J0.1 h).1
abbrev Yya (x:Sai) (p:SaiV) (i:Nat):Array Value:=#[.int .i64 x.ship.legs,.int .i64 x.ship.souls,.slice p.A p.n p.cap,.slice p.B p.m p.cap2,.slice p.D p.nd p.cd,.int .i64 x.fares.alone,.int .i64 x.fares.third,.slice p.E p.ne p.ce,.int .i64 x.fares.down,.int .i64 x.day,.int .i64 x.leaves,.slice p.C p.nb p.cb,.bool x.closed,.int .i64 (i:Int)]
theorem ZTb {x:Sai}{p:SaiV}{i j:Nat}{u:Value}(h:(Qa x p)[j]? = some u):(Yya x p i)[j]? = some u:=by
 have A:j<13:=(Array.getElem?_eq_some_iff.1 h).1;rw[←h]
 rcases j with _|_|_|_|_|_|_|_|_|_|_|_|_|j<;>first|rfl|omega
theorem ZSb {w:World}{y:Nat}{x:Sai}{p:SaiV}{i:Nat}{t:TypeId}(h:Blk w y (Yya x p i) t):w.rangeAt y 0 (Qa x p).toList:=fun j u A=>by
 rw[Nat.zero_add];exact h.cell (ZTb (by simpa using A))
def Chg (w':World) (base:Nat) (x:Sai) (i:Nat) (v:Value):Prop:=∃(y:Nat) (p:SaiV) (w0:World) (b0:Nat),yp v y∧Blk w' y (Yya x p i) 158∧SaiW w0 b0 w' base x p∧w0.heap.size≤y
theorem Q4b (x:Sai)(p:SaiV)(i y g:Nat)(w:World)(A:Blk w y (Yya x p i) 158)(D:p.C=some ⟨g,0,none⟩)(J:i<p.nb)(_:p.nb≤16) :
  Calls prog 97 #[.pointer (some ⟨y,0,none⟩)] w fun e w'=>e=.returned (.pointer (some ⟨g,i*11,none⟩))∧yw w w':=by
 have F:yJ w y 11 (some ⟨g,0,none⟩) p.nb p.cb:=D ▸ A.cell rfl;have Q:yI w y 13 (i:Int):=A.cell rfl;have I:yw w w:=J4 _ _
 have O:(i:Int)<(p.nb:Int):=by omega
 obtain⟨U,E⟩:=yE p.nb;rw[←E]at F J O;clear A D E;go_enter func97,ntmps97;go_upto_region 1 with(fail);go_quiet (fail);go_wp2_with fail;go_ret;exact⟨rfl,below_drewN I _⟩
theorem UIb (x:Sai)(p:SaiV)(t:Int)(w:World)(hS:SaiR w x p)(ht:InI t) :
  Calls prog 179 #[.agg (Qa x p),.int .i64 t] w fun e w'=>∃v,e=.returned (.tuple #[v,.int .i64 (chE x t 0)])∧Q5c (chE x t 0) (Chg w' w.heap.size x (Ze x.bks t) v)∧yw w w':=by
 have ad:=yh (fun X I=>UG x p X I);have aa:=yh (fun X (ho:OkSai x) hl=>XY x p t X hl (QP ho.bs.rise) (ZEa ho) ho.bs.len ht);have an:=yh (fun X h ho=>UI x p X h ho);obtain⟨r,hr⟩:=yE (QD x);obtain⟨R,hR⟩:=yE (chE x t 0);obtain⟨O,ak⟩:=yE (ZH x t);obtain⟨hi,ac⟩:=yE (ZA x.bks t);have HR:=yh (show R=if r≠0 then r else if O=true then 0 else 5 by rw[hR,hr,ak];rfl);have ag:=yh (show O=(hi && QB (ZW x t))by rw[ak,ac];rfl);have ax:=yh ac;have az:=yh hr;rw[←hr]at ad;rw[←ac]at aa;rw[←hR];have HS:=yh hS;clear hr hR ak ac hS ht;obtain⟨A,n,cap,B,m,aA,D,nd,cd,E,ne,ce,C,nb,cb⟩:=p;simp only at aa;go_enter func179,ntmps179;go_upto_region 0 with(fail);go_cut [2,4,5] (fun p p2 Q wx=>∃g,yp p g∧p2=.pointer none∧Q=.int .i64 0∧Blk wx g (Qa x ⟨A,n,cap,B,m,aA,D,nd,cd,E,ne,ce,C,nb,cb⟩) 32∧yw w wx)
 case first=>as_aux_lemma=>
  go_wp2_with fail;go_meet;exact⟨_,rfl,rfl,rfl,Zk _ _,Qi _ _⟩
 obtain⟨g,rfl,rfl,rfl,hG,ai⟩:=hcut;obtain⟨V,rfl⟩:=yE wc;have F:=yh (fun X (I:yw V X)=>ai.trans (I.mono ai.size));have Z:=yh (fun X (I:yw V X)=>hG.bel I);have aP:=yh (fun X (I:yw V X)=>HS.bel (F X I));have hb:yw V V:=J4 _ _;clear hG ai;have HC:=yh (ad _ (aP _ hb));go_wp2_with (refine yV (.tmp 2) (Z _ hb) underlying32 ?_);refine yM HC fun w1 aO=>?_;replace hb:=hb.trans (aO.mono hb.size);clear aO HC ad;by_cases q0:r=0;rotate_left
 ·obtain rfl:R=r:=by rw[HR.out,M3 q0]
  have aM:(R !=0)=true:=by simpa using q0
  have Q0:=yh q0;clear q0;go_wp2_with fail;go_ret2;exact⟨_,rfl,fun h=>absurd h Q0,F _ hb⟩
 have U:=yh (Zm (az.symm.trans q0));have ah:=yh (HR.trans (M2 (by rw[q0];simp)));subst q0;have HC:=yh (aa _ U (aP _ hb).bks);go_wp2_with (refine yV (.tmp 2) (Z _ hb) underlying32 ?_);refine HC.mono ?_;rintro e w2 ⟨k,rfl,hk,au,aO⟩;replace hb:=hb.trans (aO.mono hb.size);have am:=yh au;clear aO HC aa au;cases hi
 ·obtain rfl:O=false:=by rw[ag.out];rfl
  obtain rfl:R=5:=by rw[ah.out];rfl
  go_wp2_with fail;go_ret2;exact⟨_,rfl,fun h=>absurd h (by decide),F _ hb⟩
 obtain⟨b,J,h2,h3,h4⟩:=Xo (QP U.bs.rise) ax.symm;have h5:=ZEa U b (J6 J);obtain rfl:k=Ze x.bks t:=am ⟨by omega,by omega⟩;have al:=yh (show ZW x t=b by unfold ZW;rw[J7,J];rfl);obtain⟨k,aj⟩:=yE (Ze x.bks t);rw[←aj]at J h3 ⊢;have ay:=yh aj;clear h2 h4 h5 am hk aj;have aD:nb=x.bks.length:=HS.bks.len.symm
 have aw:k<nb:=by omega
 have aE:=U.bs.len;have aI:(0:Int)≤(k:Int):=Int.natCast_nonneg _
 have aJ:(k:Int)<(nb:Int):=by omega
 obtain⟨ab,aG,b',A3,n3,c3,hA,hx,hF,hI,ar⟩:=(aP _ hb).bks.bkg aw
 obtain rfl:b'=b:=by rw[hx]at J;injection J
 simp only at hA;subst hA;have aF:yJ w2 g 11 (some ⟨ab,aG,none⟩) nb cb:=(Z _ hb).cell rfl;obtain⟨y0,y1,y2,y3,y4,y5,y6,y7,y8,y9,aH⟩:=Uyc ar;have af:=yh (fun W=>YK b' (.slice A3 n3 c3) W);have ae:=yh (show O=QB b' by rw[ag.out,al.out];rfl);obtain⟨ll,av⟩:=yE (QB b');rw[←av]at af ae;obtain rfl:O=ll:=ae.out;clear J h3 hx hF hI ar ae ag al aD av aw aE;go_wp2_with fail;refine yM (af _) fun w3 aO=>?_;replace hb:=hb.trans (aO.mono hb.size);clear aO af aF y0 y1 y2 y3 y4 y5 y6 y7 y8 y9 aH;cases O
 ·obtain rfl:R=5:=by rw[ah.out];rfl
  go_wp2_with fail;go_ret2;exact⟨_,rfl,fun h=>absurd h (by decide),F _ hb⟩
 obtain rfl:R=0:=by rw[ah.out];rfl
 have HC:=yh (an _ (aP _ hb) U);go_wp2_with (refine yV (.tmp 2) (Z _ hb) underlying32 ?_);refine HC.mono ?_;rintro e Y ⟨Q,rfl,aB,aq⟩;obtain⟨v0,b0,ap⟩:=aB;have aK:=hb.size;have aL:=(F _ hb).size;replace hb:=hb.trans (aq.mono hb.size);have ao:=yh ap;clear ap;clear aq HC an;go_wp2_with fail;go_ret2
 have aC:SaiW v0 b0 (Y.alloc (.cells (Yya x Q k) 158)) w.heap.size x Q:=by
  obtain⟨a1,a2,a3,a4,a5,xs,a6⟩:=ao.bel (Qi Y (.cells (Yya x Q k) 158));exact⟨by omega,a2,a3,a4,a5,xs,a6⟩
 exact⟨_,rfl,fun _=>by rw[←ay.out];exact⟨Y.heap.size,Q,v0,b0,rfl,Blk.new Y _ _,aC,by obtain⟨_,_,a3,_⟩:=ao.out;exact a3⟩,(F _ hb).trans ((Qi Y _).mono (F _ hb).size)⟩
def Qpa (x:Sai) (i:Nat) (b:Bkg) (day:Int):Sai:=if ZV x b day=0 then QT x i (VR x b day)else x
theorem UXa {x:Sai}{i:Nat}{b:Bkg}{day:Int}(h:ZV x b day=0):Qpa x i b day=QT x i (VR x b day):=M3 h
theorem YPa {x:Sai}{i:Nat}{b:Bkg}{day:Int}(h:¬ZV x b day=0):Qpa x i b day=x:=M2 h
theorem V5a (w0:World)(b0:Nat)(x:Sai)(p:SaiV)(i g y:Nat)(b:Bkg)(day:Int)(base:Nat)(w:World)(hW:SaiW w0 b0 w base x p)(hC:p.C=some ⟨g,0,none⟩)
  (hY:∀j u,(Qa x p)[j]? = some u→w.cell? ⟨y,j,none⟩=some u) (hb:x.bks[i]? = some b) (aq:ZI x.fares x.ship.cats.length x.ship.legs=0) (aN:Qc x.leaves 0 9999=true) (aS:x.bks.length≤16) (ar:Qe b.fol=0) (hd:0≤day∧day≤9999) :
  Calls prog 102 #[.pointer (some ⟨y,0,none⟩),.int .i64 (i:Int),.int .i64 day] w fun e w'=>e=.returned (.int .i64 (ZV x b day))∧SaiW w0 b0 w' base (Qpa x i b day) p∧Kept (fun k=>k=g) w w':=by
 obtain⟨g',A3,n3,c3,aF,bb,au,aK,aM,hF,hI,a0⟩:=hW.at hb
 obtain rfl:g'=g:=by rw[aF]at hC;injection hC with h;injection h
 have ad:=hW.sai;have Y:=yh (fun X hF=>Yla p.D p.nd p.cd x.fares p.E p.ne p.ce x.ship.cats.length x.ship.legs (QV b.fol) (max 0 (x.leaves-day)) X hF);have ah:=yh (fun X h=>V3a A3 n3 c3 b.fol X h (Z7 ar));have af:=yh (fun X h (h1:InI (Zea x b day))=>Qsb A3 n3 c3 b.fol day (Zea x b day) X h (.of (by omega) (by omega)) h1);have aL:=Vz aq;have be:=Ql.1 aN;obtain⟨O,U⟩:=yE (QV b.fol);obtain⟨Q,Z⟩:=yE (Zea x b day);obtain⟨W,hE⟩:∃r,r=ZV x b day:=⟨_,rfl⟩;obtain⟨lt,av⟩:=yE (Xq x.fares (QV b.fol) (max 0 (x.leaves-day)));obtain⟨pe,ax⟩:=yE (Vib x.fares x.ship.cats.length x.ship.legs (QV b.fol) (max 0 (x.leaves-day)));obtain⟨L,hL⟩:=yE (ZF b.fol day (Zea x b day));obtain⟨am,ap⟩:∃r,r=Qe (ZF b.fol day (Zea x b day)):=⟨_,rfl⟩;have HE:=yh (show W=if b.state=2∧100000000<O then 3 else am by rw[hE,U,ap];rfl);have HP:=yh (show Q=if b.state=2∧0<O then lt else 0 by rw[Z,U,av];rfl);have aC:=yh (show ¬(b.state=2∧100000000<O)→0≤Q∧Q≤100000000 from fun h=>by rw[Z];rw[U]at h;exact XWb aL h);have aD:=yh (show 0<O→pe=if 100000000<O then 3 else 0 from fun h=>by rw[ax,U];rw[U]at h;exact Qoc aq (by omega) (by omega));have aA:=yh (show 0≤Q→Q≤100000000→VV b.fol day Q=am from fun h0 h1=>by rw[ap];rw[Z]at h0 h1 ⊢;exact QKb ar h0 h1);have al:=yh (show W=0→Qpa x i b day=QT x i { b with state:=3,til:=0,fol:=L }from fun h=>by rw[UXa (hE.symm.trans h),hL];rfl);have aj:=yh (show ¬W=0→Qpa x i b day=x from fun h=>YPa (fun h2=>h (hE.trans h2)));obtain⟨GS,an⟩:=yE (Qpa x i b day);rw[←ax,←av,←U]at Y;rw[←U]at ah;rw[←Z]at af;rw[←Z]at hL;rw[←hL]at af;rw[←hE,←an];rw[←an]at al aj;have a2:IntKind.i64.wrap (x.leaves-day)=x.leaves-day:=IntWalk.i64_in _ (by omega);have HW:=yh hW;have aB:=yh (fun X (hX:yw w X)=>ad.fares.below hX);have HF:=yh hF;have aQ:=yh (show x.ship.cats.length=p.n from ad.cats.len);have J:=yh hY;have ag:=yh aK;have ai:=yh aM;have ae:=yh hb;have HI:=yh hI;have bc:(0:Int)≤(i:Int):=Int.natCast_nonneg _;have aZ:=(J0.1 hb).1
 have aY:(i:Int)<(p.nb:Int):=by omega
 have a1:p.nb≤16:=by omega
 have aX:p.n≤9223372036854775807:=ad.cats.bd;rw[aQ.out]at Y;clear U Z hE av ax hL ap an aL hW ad hF hY aK aM hb hI aq aN aS ar aF a0 aZ;obtain⟨A,n,cap,B,m,a6,D,nd,cd,E,ne,ce,C,nb,cb⟩:=p;obtain⟨id,bg,state,ba,lev,a5,a7,a9,upto,til,fol⟩:=b;simp only at hC Y aY a1 aX HE HP aC aA al;subst hC;have a3:yJ w y 11 (some ⟨g',0,none⟩) nb cb:=J.out 11 _ rfl;have b2:yI w g' (i*11+2) state:=ag.out 2 _ rfl;have ac:yJ w g' (i*11+10) A3 n3 c3:=ag.out 10 _ rfl;have aE:=yh (show ∀X,yw w X→(fun w'=>yI w' y 0 x.ship.legs∧yJ w' y 2 A n cap∧yJ w' y 4 D nd cd∧yI w' y 5 x.fares.alone∧yI w' y 6 x.fares.third∧yJ w' y 7 E ne ce∧yI w' y 8 x.fares.down∧yI w' y 10 x.leaves) X from fun X hX=>⟨Qh hX (J.out 0 _ rfl),Qh hX (J.out 2 _ rfl),Qh hX (J.out 4 _ rfl),Qh hX (J.out 5 _ rfl),Qh hX (J.out 6 _ rfl),Qh hX (J.out 7 _ rfl),Qh hX (J.out 8 _ rfl),Qh hX (J.out 10 _ rfl)⟩);have az:=yh (show ∀X,yw w X→yI X g' (i*11+2) state from fun X hX=>Qh hX b2);have ay:=yh (show ∀X,yw w X→yJ X g' (i*11+10) A3 n3 c3 from fun X hX=>Qh hX ac);have hb:yw w w:=J4 _ _;go_enter func102,ntmps102;go_wp2_with fail;refine yM (ah _ HF) fun w1 aH=>?_;replace hb:=hb.trans (aH.mono hb.size);clear aH ah b2 ac a3;have b2:=az _ hb;by_cases qA:state=2∧100000000<O
 ·obtain rfl:W=3:=by rw[HE.out,M3 qA]
  obtain⟨rfl,F⟩:=qA;have q3:decide (0<O)=true:=J2 (by omega)
  obtain rfl:pe=3:=by rw[aD.out (by omega),M3 F]
  have HG:=yh (aj (by decide));go_upto_region 5 with(fail);replace hb:=hb.drew;go_region_held3 (fun w'=>w'.cell? ⟨y,0,none⟩=some (.int .i64 x.ship.legs)∧w'.cell? ⟨y,2,none⟩=some (.slice A n cap)∧w'.cell? ⟨y,4,none⟩=some (.slice D nd cd)∧w'.cell? ⟨y,5,none⟩=some (.int .i64 x.fares.alone)∧w'.cell? ⟨y,6,none⟩=some (.int .i64 x.fares.third)∧w'.cell? ⟨y,7,none⟩=some (.slice E ne ce)∧w'.cell? ⟨y,8,none⟩=some (.int .i64 x.fares.down)∧w'.cell? ⟨y,10,none⟩=some (.int .i64 x.leaves)) (first|exact aE _ hb|go_keep) (first|(go_at_call 90;refine yM (Y _ (aB _ hb)) fun w5 aa=>?_;replace hb:=hb.trans (aa.mono hb.size);clear aa));go_wp2_with fail;go_ret;exact⟨rfl,by rw[HG.out];exact HW.bel hb,Kept.of_below hb (fun k I h=>by omega)⟩
 have aR:=yh (aC qA)
 obtain rfl:W=am:=by rw[HE.out,M2 qA]
 obtain⟨W1,aT⟩:=yE w1;subst aT;obtain⟨tv,aO⟩:=yE (decide (state=2) && decide (0<O));have ab:=yh aO;clear aO;go_upto_region 4 with(fail);go_cut [33] (fun q wx=>q=.bool tv∧W1=wx)
 case first=>as_aux_lemma=>
  by_cases F:state=2
  ·obtain rfl:tv=decide (0<O):=by rw[ab.out,J2 F];rfl
   subst F;go_wp2_with fail;go_meet;exact⟨rfl,rfl⟩
  ·obtain rfl:tv=false:=by rw[ab.out,J3 F];rfl
   have q4:(state==2)=false:=by simpa using F
   clear F;go_wp2_with fail;go_meet;exact⟨rfl,rfl⟩
 obtain⟨rfl,rfl⟩:=hcut;go_upto_if 33 with(fail);go_cut [8] (fun q wx=>q=.int .i64 Q∧yw w wx)
 case first=>
  cases tv
  ·obtain rfl:Q=0:=by
    rw[HP.out];refine M2 fun h=>?_;have:=ab.out;rw[J2 h.1,J2 h.2]at this;cases this
   go_wp2_with fail;go_meet;exact⟨rfl,hb⟩
  ·obtain⟨h1,h2⟩:=Bool.and_eq_true_iff.1 ab.symm;have F:=of_decide_eq_true h1;have q3:=of_decide_eq_true h2
   obtain rfl:pe=0:=by rw[aD.out q3,M2 (fun h=>qA ⟨F,h⟩)]
   obtain rfl:Q=lt:=by rw[HP.out,M3 ⟨F,q3⟩]
   clear h1 h2 F q3 qA;go_upto_region 5 with(fail);replace hb:=hb.drew;go_region_held3 (fun w'=>w'.cell? ⟨y,0,none⟩=some (.int .i64 x.ship.legs)∧w'.cell? ⟨y,2,none⟩=some (.slice A n cap)∧w'.cell? ⟨y,4,none⟩=some (.slice D nd cd)∧w'.cell? ⟨y,5,none⟩=some (.int .i64 x.fares.alone)∧w'.cell? ⟨y,6,none⟩=some (.int .i64 x.fares.third)∧w'.cell? ⟨y,7,none⟩=some (.slice E ne ce)∧w'.cell? ⟨y,8,none⟩=some (.int .i64 x.fares.down)∧w'.cell? ⟨y,10,none⟩=some (.int .i64 x.leaves)) (first|exact aE _ hb|go_keep) (first|(go_at_call 90;refine yM (Y _ (aB _ hb)) fun w5 aa=>?_;replace hb:=hb.trans (aa.mono hb.size);clear aa));go_wp2_with fail;go_meet;exact⟨rfl,hb⟩
 obtain⟨rfl,aI⟩:=hcut;replace hb:=aI;obtain⟨p0,p1⟩:=aR.out;have aP:=yh (aA p0 p1);have ac:=ay _ hb;have HC:=yh (af _ (HF.bel hb) (.of (by omega) (by omega)));clear aI b2 qA Y a2;obtain⟨W2,rfl⟩:=yE wc;go_wp2_with fail;refine HC.mono ?_;rw[aP.out];rintro e V ⟨v,xs,rfl,hO,aJ⟩;have bf:=hb.size;replace hb:=hb.trans (aJ.mono hb.size);clear aJ HC ac;have HO:=yh hO;clear hO;by_cases q5:W=0;rotate_left
 ·have q6:(W !=0)=true:=by simpa using q5
  have HG:=yh (aj q5);clear q5;go_wp2_with fail;go_ret;exact⟨rfl,by rw[HG.out];exact HW.bel hb,Kept.of_below hb (fun k I h=>by omega)⟩
 have ao:Own Qm 3 140 V W2.heap.size v L xs:=by
  have:=HO.out
  rwa [q5,QR]at this
 have HG:=yh (al q5);subst q5;obtain⟨A5,n5,c5,rfl,_⟩:=ao.sl Qb;have f2:V.frozen? ⟨g',i*11+2,none⟩=false:=Yo hb au (ai _);have f9:V.frozen? ⟨g',i*11+9,none⟩=false:=Yo hb au (ai _);have a8:V.frozen? ⟨g',i*11+10,none⟩=false:=Yo hb au (ai _);have c2:=az _ hb;have c9:yI V g' (i*11+9) til:=Qh hb (ag.out 9 _ rfl);have a4:=ay _ hb;have HB:=yh hb;have ak:=yh ao;clear hb ao;go_wp2_with fail;go_ret;have aU:=HW.bel HB;have aV:=aU.put rfl ae (j:=2) (by omega) (u:=.int .i64 3) (fun cs h=>QAa h (.of (by decide) (by decide)));have aW:=aV.put rfl (Yz ae) (j:=9) (by omega) (u:=.int .i64 0) (fun cs h=>URa h (.of (by decide) (by decide)));have hK:Kept (fun k=>k=g') V (((V.setCell ⟨g',i*11+2,none⟩ (.int .i64 3)).setCell ⟨g',i*11+9,none⟩ (.int .i64 0)).setCell ⟨g',i*11+10,none⟩ (.slice A5 n5 c5)):=VX V g' [(i*11+2,.int .i64 3),(i*11+9,.int .i64 0),(i*11+10,.slice A5 n5 c5)]
 have aw:∀k,(Value.slice A5 n5 c5).ownBlock=some k→W2.heap.size≤k∧k≠g':=fun k I=>by have:=ak.lt k I;exact⟨this.1,by omega⟩
 have aG:=aW.put rfl (Yz (Yz ae)) (j:=10) (by omega) (u:=.slice A5 n5 c5) (fun cs h=>Ywa (f:=L) h ⟨xs,(ak.keepB Zb (fun k I=>hK.block k (ak.lt k I).2 (aw k I).2)).mono Qb (M0 _),fun k I=>⟨by have:=(aw k I).1;omega,fun e=>(aw k I).2 (by injection e)⟩⟩);rw[set_set,set_set]at aG;exact⟨rfl,by rw[HG.out];exact aG,(Kept.of_below HB (fun k I h=>by omega)).trans hK⟩
def Uwb (f:Nat) (lb:Array Value) (K:World→Prop) (x:Sai) (i:Nat) (E:Int) (X:Sai):Prop:=
 ∀(w0:World) (b0 y g:Nat) (p:SaiV) (base:Nat) (w:World),K w→SaiW w0 b0 w base x p→Blk w y (Yya x p i) 158→p.C=some ⟨g,0,none⟩→
  Calls prog f (#[.pointer (some ⟨y,0,none⟩)]++lb) w fun e w'=>e=.returned (.int .i64 E)∧Q5c E (SaiW w0 b0 w' base X p)∧Kept (fun k=>k=g) w w'
theorem ZBb (x:Sai)(i:Nat)(b:Bkg)(F:x.bks[i]? = some b)(ag:x.bks.length≤16):Uwb 96 #[] (fun _=>True) x i (Zoa b) (QT x i (YF b)):=by
 intro w0 b0 y g p base w _ U hY O
 show Calls prog 96 #[.pointer (some ⟨y,0,none⟩)] w _
 obtain⟨D,A3,n3,c3,E,ah,ac,V,W,hF,hI,af⟩:=U.at F
 obtain rfl:D=g:=by rw[E]at O;injection O with h;injection h
 have ae:=(J0.1 F).1;have aa:=yh (Q4b x p i y D w hY E (by omega) (by omega));obtain⟨R,Q⟩:=yE (Zoa b);rw[←Q];have J:=yh (show R=if b.state=1 then 0 else 4 from Q);have HW:=yh U;have HC:=yh E;have Z:=yh F;obtain⟨Y,X⟩:=yE b.state
 have c2:w.cell? ⟨D,i*11+2,none⟩=some (.int .i64 Y):=by rw[X];exact V 2 _ rfl
 have c9:yI w D (i*11+9) b.til:=V 9 _ rfl;have f2:=W (i*11+2);have f9:=W (i*11+9);rw[←X]at J;clear Q U hY O E F V W hF hI af ae X;go_enter func96,ntmps96;go_wp2_with fail;refine yM aa fun w1 A=>?_;replace c2:=Qh A c2;replace c9:=Qh A c9;replace f2:=Yo A ac f2;replace f9:=Yo A ac f9;have I:=yh A;clear A;clear aa;by_cases q1:Y=1
 ·obtain rfl:R=0:=by rw[J.out,M3 q1]
  subst q1;go_wp2_with fail;go_ret;have ad:=(HW.bel I).put HC Z (j:=2) (by omega) (u:=.int .i64 2) (fun cs h=>QAa h (.of (by decide) (by decide)));have ab:=ad.put HC (Yz Z) (j:=9) (by omega) (u:=.int .i64 0) (fun cs h=>URa h (.of (by decide) (by decide)));rw[set_set]at ab;exact⟨rfl,fun _=>ab,(Kept.of_below I (fun k hk h=>by omega)).trans (VX w1 D [(i*11+2,.int .i64 2),(i*11+9,.int .i64 0)])⟩
 ·obtain rfl:R=4:=by rw[J.out,M2 q1]
  have q2:(Y !=1)=true:=by simpa using q1
  clear q1;go_wp2_with fail;go_ret;exact⟨rfl,fun h=>absurd h (by decide),Kept.of_below I (fun k hk h=>by omega)⟩
def AmtK (q:Nat) (a:Int) (w:World):Prop:=Blk w q #[.int .i64 a] 3
theorem AmtK.bel {q:Nat}{a:Int}{w w':World}(h:AmtK q a w)(A:yw w w'):AmtK q a w':=Blk.bel h A
theorem Vhb (x:Sai)(i:Nat)(b:Bkg)(a:Int)(q:Nat)(ha:InI a)(A:x.bks[i]? = some b)(aA:x.bks.length≤16)(ah:Qe b.fol=0)(ar:Qc x.day 0 9999=true):Uwb 98 #[.pointer (some ⟨q,0,none⟩)] (AmtK q a) x i (Zda x b a) (QT x i (Uaa x b a)):=by
 intro w0 b0 y g p base w hQ hW hY hC
 show Calls prog 98 #[.pointer (some ⟨y,0,none⟩),.pointer (some ⟨q,0,none⟩)] w _
 obtain⟨E,F,V,J,aa,aK,aD,aq,au,hF,hI,aG⟩:=hW.at A
 obtain rfl:E=g:=by rw[aa]at hC;injection hC with h;injection h
 have aE:=(J0.1 A).1;have aC:=Ql.1 ar;have aj:=yh (Q4b x p i y E w hY aa (by omega) (by omega));have ac:=yh (fun X h=>XKa F V J b.fol X h (Z7 ah));have ab:=yh (fun X h (h1:InI (-a))=>YFb F V J b.fol x.day 2 (-a) X h (.of (by omega) (by omega)) (.of (by decide) (by decide)) h1);obtain⟨R,hR⟩:=yE (Zda x b a);obtain⟨du,ag⟩:=yE (Zz b.fol);obtain⟨ce,af⟩:=yE (Qe (b.fol++[⟨x.day,2,-a⟩]));obtain⟨L,hL⟩:=yE (b.fol++[⟨x.day,2,-a⟩])
 have am:QCb b.fol ⟨x.day,2,-a⟩=ce:=by unfold QCb;rw[M3 ah,af]
 have HR:=yh (show R=if Qc a 1 100000000=false then 3 else if du<a then 4 else ce by rw[hR,ag,af];rfl);have HX:=yh (show QT x i (Uaa x b a)=QT x i { b with fol:=L }by rw[hL];rfl);rw[am,←hL]at ab;rw[←ag]at ac;rw[←hR,HX.out];have HW:=yh hW;have HC:=yh aa;have ax:=yh A;have HF:=yh hF;have az:=yh (au (i*11+10));have aP:=yh (show ∀X,yw w X→yJ X E (i*11+10) F V J from fun X Q=>Qh Q (aq 10 _ rfl));have HA:=yh (show ∀X,yw w X→yI X q 0 a from fun X Q=>(AmtK.bel hQ Q).cell rfl);have ay:=yh (show ∀X,yw w X→yI X y 9 x.day from fun X Q=>(hY.bel Q).cell rfl)
 have aI : -1000≤x.day:=by omega
 have aJ:x.day≤10000:=by omega
 clear hR ag af hL am hW hY hC aa A aq au hF hI aG aE hQ aC ar ah aA;have A:yw w w:=J4 _ _;go_enter func98,ntmps98;go_wp2_with fail;refine yM aj fun w1 an=>?_;replace A:=A.trans (an.mono A.size);clear an aj;have a0:=HA _ A;by_cases q1:a<1
 ·obtain rfl:R=3:=by rw[HR.out,M3 (by unfold Qc;simp;omega)]
  go_wp2_with fail;go_ret;exact⟨rfl,fun h=>absurd h (by decide),Kept.of_below A (fun k D h=>by omega)⟩
 by_cases q2:100000000<a
 ·obtain rfl:R=3:=by rw[HR.out,M3 (by unfold Qc;simp;omega)]
  go_wp2_with fail;go_ret;exact⟨rfl,fun h=>absurd h (by decide),Kept.of_below A (fun k D h=>by omega)⟩
 have ak:=yh (HR.trans (M2 (by unfold Qc;simp;omega)));have al:=aP _ A;go_upto_region 4 with(fail);obtain⟨tv,av⟩:=yE (decide (du<a));have ae:=yh av;clear av;go_cut [16] (fun v wx=>v=.bool tv∧yw w wx)
 case first=>
  replace A:=A.drew;go_region_held3 (fun w'=>w'.cell? ⟨q,0,none⟩=some (.int .i64 a)∧w'.cell? ⟨E,i*11+10,none⟩=some (.slice F V J)) (first|exact⟨HA _ A,aP _ A⟩|go_keep) (first|(go_at_call 99;refine yM (ac _ (HF.bel A)) fun w5 U=>?_;replace A:=A.trans (U.mono A.size);clear U));go_wp2_with fail;go_meet;exact⟨by rw[ae.out],A⟩
 obtain⟨rfl,ao⟩:=hcut;obtain⟨I,rfl⟩:=yE wc;replace A:=ao;clear ao ac a0 al;cases tv;rotate_left
 ·obtain rfl:R=4:=by rw[ak.out,M3 (of_decide_eq_true ae.out.symm)]
  go_wp2_with fail;go_ret;exact⟨rfl,fun h=>absurd h (by decide),Kept.of_below A (fun k D h=>by omega)⟩
 obtain rfl:R=ce:=by rw[ak.out,M2 (of_decide_eq_false ae.out.symm)]
 go_upto_region 6 with(fail);go_cut [5,6] (fun v v2 wx=>v2=.int .i64 R∧(∃xs,Own Qm 3 140 wx I.heap.size v (okL R L) xs)∧yw I wx)
 case first=>
  have aF:InI (-a):=.of (by omega) (by omega);have aL:IntKind.i64.wrap (-a)=-a:=IntWalk.i64_in _ (by omega);replace A:=A.drew;go_region_held3 (fun w'=>w'.cell? ⟨q,0,none⟩=some (.int .i64 a)∧w'.cell? ⟨E,i*11+10,none⟩=some (.slice F V J)∧w'.cell? ⟨y,9,none⟩=some (.int .i64 x.day)) (first|exact⟨HA _ A,aP _ A,ay _ A⟩|go_keep) (first|(go_at_call 100;refine(ab _ (HF.bel A) aF).mono ?_;rintro e w5 ⟨v,xs,rfl,hO,U⟩;replace A:=A.trans (U.mono A.size)));go_wp2_with fail;go_meet;exact⟨rfl,⟨_,hO⟩,((J4 _ I).drew).trans U⟩
 obtain⟨rfl,⟨xs,hO⟩,ap⟩:=hcut;obtain⟨Y,rfl⟩:=yE wc;have aM:=A.size;replace A:=A.trans (ap.mono A.size);clear ap ab;have HO:=yh hO;clear hO;by_cases q5:R=0;rotate_left
 ·have q6:(R==0)=false:=by simpa using q5
  have Q5:=yh q5;clear q5;go_wp2_with fail;go_ret;exact⟨rfl,fun h=>absurd h Q5,Kept.of_below A (fun k D h=>by omega)⟩
 have O:=HO.out;rw[q5,QR]at O;subst q5;obtain⟨W,n5,Z,aw,_⟩:=O.sl Qb;rw[aw]at O;subst aw;have aH:Y.frozen? ⟨E,i*11+10,none⟩=false:=Yo A aD az;have al:=aP _ A;have HB:=yh A;have ad:=yh O;clear A O HO;go_wp2_with fail;go_ret;have hK:Kept (fun k=>k=E) Y (Y.setCell ⟨E,i*11+10,none⟩ (.slice W n5 Z)):=VX Y E [(i*11+10,.slice W n5 Z)]
 have ai:∀k,(Value.slice W n5 Z).ownBlock=some k→I.heap.size≤k∧k≠E:=fun k D=>by have:=ad.lt k D;exact⟨this.1,by omega⟩
 have aN:w0.heap.size≤I.heap.size:=by obtain⟨_,_,a3,_⟩:=HW.out;omega
 have aB:=(HW.bel HB).put HC ax (j:=10) (by omega) (u:=.slice W n5 Z) (fun cs h=>Ywa (f:=L) h ⟨xs,(ad.keepB Zb (fun k D=>hK.block k (ad.lt k D).2 (ai k D).2)).mono Qb (M0 _),fun k D=>⟨by have:=(ai k D).1;omega,fun e=>(ai k D).2 (by injection e)⟩⟩);exact⟨rfl,fun _=>aB,(Kept.of_below HB (fun k D h=>by omega)).trans hK⟩
theorem QXb (x:Sai)(i:Nat)(b:Bkg)(A:x.bks[i]? = some b)(Y:x.bks.length≤16)(ab:Qe b.fol=0)(Z:Qc x.day 0 9999=true)(ad:Qc x.leaves 0 9999=true)(aa:ZI x.fares x.ship.cats.length x.ship.legs=0) :
  Uwb 101 #[] (fun _=>True) x i (ZV x b x.day) (QT x i (VR x b x.day)):=by
 intro w0 b0 y g p base w _ U hY J
 show Calls prog 101 #[.pointer (some ⟨y,0,none⟩)] w _
 have W:=yh (fun X (D:yw w X)=>V5a w0 b0 x p i g y b x.day base X (U.bel D) J (fun j u hu=>(hY.bel D).cell (ZTb hu)) A aa ad Y ab (Ql.1 Z));obtain⟨E,F⟩:=yE (ZV x b x.day);have ah:=yh (show E=0→Qpa x i b x.day=QT x i (VR x b x.day)from fun h=>UXa (F.symm.trans h));obtain⟨GS,O⟩:=yE (Qpa x i b x.day);rw[←F,←O]at W;rw[←O]at ah;rw[←F];have c9:yI w y 9 x.day:=hY.cell rfl;have ae:yI w y 13 (i:Int):=hY.cell rfl;have I:=yh (show ∀X,yw w X→yI X y 9 x.day∧yI X y 13 (i:Int)from fun X D=>⟨Qh D c9,Qh D ae⟩);have ac:¬y=g:=fun h=>U.neB J hY (by decide) h.symm;clear F O U hY J A Y ab Z ad aa;have A:yw w w:=J4 _ _;go_enter func101,ntmps101;go_upto_region 1 with(fail);replace A:=A.drew;go_region_held3 (fun w'=>w'.cell? ⟨y,9,none⟩=some (.int .i64 x.day)∧w'.cell? ⟨y,13,none⟩=some (.int .i64 (i:Int))) (first|exact af|exact I _ A|go_keep) (first|(go_at_call 102;refine(W _ A).mono ?_;rintro e w5 ⟨rfl,V,Q⟩;have af:=And.intro (Z2a Q ac (I _ A).1) (Z2a Q ac (I _ A).2);replace V:=yh V));go_wp2_with fail;go_ret;exact⟨rfl,fun h=>by rw[←ah.out h];exact V.out,(Kept.of_below A (fun k hk h=>by omega)).trans Q⟩
theorem Q6b (x:Sai)(i:Nat)(b:Bkg)(c:Int)(q:Nat)(hc:InI c)(D:x.bks[i]? = some b)(ho:OkSai x):Uwb 103 #[.pointer (some ⟨q,0,none⟩)] (AmtK q c) x i (Q9a x i b c) (QT x i (QK b c)):=by
 intro w0 b0 y g p base w hQ hW hY hC
 show Calls prog 103 #[.pointer (some ⟨y,0,none⟩),.pointer (some ⟨q,0,none⟩)] w _
 obtain⟨F,A3,n3,c3,a2,aY,aU,J,aE,hF,hI,aX⟩:=hW.at D
 obtain rfl:F=g:=by rw[a2]at hC;injection hC with h;injection h
 have aW:=(J0.1 D).1;have aB:=ho.bs.len;have ar:=yh (Q4b x p i y F w hY a2 (by omega) (by omega));have aV:¬y=F:=fun h=>hW.neB a2 hY (by decide) h.symm;obtain⟨R,hR⟩:=yE (Q9a x i b c);obtain⟨I,ae⟩:=yE (QK b c);obtain⟨Y,af⟩:=yE (ofE x.ship I);obtain⟨X,E⟩:=yE (QT x i I);obtain⟨rm,ap⟩:=yE (QX X);have hM:x.ship.cabs.length=p.m:=hW.sai.cabs.len;have HR:=yh (show R=if b.cab<0 then 4 else if c<0∨(p.m:Int)≤c then 3 else if c=b.cab then 6 else if Y≠0 then Y else rm by rw[hR,ap,E,af,ae,←hM];rfl)
 have ai:=yh (fun W (h:SaiR W X p) (h0:Y=0)=>UKa X p W h (by rw[E];exact ho.bs.ship) (fun d hd=>by
  rw[E]at hd;rcases List.mem_or_eq_of_mem_set hd with h1|h1
  ·rw[E];exact ho.bs.bk d h1
  ·subst h1;rw[E];exact ZZa (af.symm.trans h0)) (by rw[E];show(x.bks.set i I).length≤16;rw[List.length_set];exact aB))
 have ah:=yh (fun Z n4 c4 W aT aS hF=>QBa x.ship p.A p.n p.cap p.B p.m p.cap2 I Z n4 c4 W aT aS ho.bs.ship hF)
 have av:=yh (fun W (aR:yw w W)=>show SaiW w0 b0 (W.setCell ⟨F,i*11+5,none⟩ (.int .i64 c)) base X p from by
  rw[E,ae];exact(hW.bel aR).put a2 D (j:=5) (by omega) (u:=.int .i64 c) (fun cs h=>Yva h hc))
 rw[←ap]at ai;rw[←af]at ah;rw[←hR,←ae,←E];have aO:=yh (show X.bks[i]? = some I by rw[E];exact Yz D);have aA:=yh (show X.ship=x.ship by rw[E];rfl);have aN:=yh (show Qa X p=Qa x p by rw[E];rfl);have HC:=yh a2;obtain⟨cb,an⟩:=yE b.cab;have ab:=yh (show ∀X,yw w X→X.cell? ⟨F,i*11+5,none⟩=some (.int .i64 cb)from fun X E=>by rw[an];exact Qh E (J 5 _ rfl));have aq:=yh (aE (i*11+5));have HA:=yh (show ∀X,yw w X→yI X q 0 c from fun X E=>(AmtK.bel hQ E).cell rfl);have ak:=yh (show ∀X,yw w X→Blk X y (Yya x p i) 158 from fun X E=>hY.bel E);rw[←an]at HR;have aZ:(0:Int)≤(p.m:Int):=Int.natCast_nonneg _;have a4:=hW.sai.cabs.bd;clear hR ap E af ae hM hW hY hC a2 D J aE hF hI aX aW hQ aB ho an;have D:yw w w:=J4 _ _;go_enter func103,ntmps103;go_wp2_with fail;refine yM ar fun w1 aD=>?_;replace D:=D.trans (aD.mono D.size);clear aD ar;have c5:=ab _ D;by_cases q1:cb<0
 ·obtain rfl:R=4:=by rw[HR.out,M3 q1]
  have q2:decide (cb<0)=true:=J2 q1;go_wp2_with fail;go_ret;exact⟨rfl,fun h=>absurd h (by decide),Kept.of_below D (fun k hk h=>by omega)⟩
 have aw:=yh (HR.trans (M2 q1));have q2:decide (cb<0)=false:=J3 q1;clear q1;obtain⟨W1,aP⟩:=yE w1;subst aP;go_upto_region 4 with(fail);have a0:=HA _ D;have y3:yJ W1 y 3 p.B p.m p.cap2:=(ak _ D).cell rfl;obtain⟨tv,aF⟩:=yE (decide (c<0∨(p.m:Int)≤c));have aa:=yh aF;clear aF;go_cut [14] (fun v Q=>v=.bool tv∧yw w Q)
 case first=>
  by_cases q3:c<0
  ·have q4:decide (c<0)=true:=J2 q3;go_quiet (fail);go_wp2_with fail;go_meet;exact⟨by rw[aa.out,J2 (show c<0∨(p.m:Int)≤c from .inl q3)],below_drewN D _⟩
  ·have q4:decide (c<0)=false:=J3 q3;by_cases q5:(p.m:Int)≤c
   ·have q6:decide ((p.m:Int)≤c)=true:=J2 q5;go_quiet (fail);go_wp2_with fail;go_meet;exact⟨by rw[aa.out,J2 (show c<0∨(p.m:Int)≤c from .inr q5)],below_drewN D _⟩
   ·have q6:decide ((p.m:Int)≤c)=false:=J3 q5;go_quiet (fail);go_wp2_with fail;go_meet;exact⟨by rw[aa.out,J3 (show ¬(c<0∨(p.m:Int)≤c)by omega)],below_drewN D _⟩
 obtain⟨rfl,O⟩:=hcut;replace D:=O;clear O a0 y3 c5;cases tv;rotate_left
 ·obtain rfl:R=3:=by rw[aw.out,M3 (of_decide_eq_true aa.out.symm)]
  go_wp2_with fail;go_ret;exact⟨rfl,fun h=>absurd h (by decide),Kept.of_below D (fun k hk h=>by omega)⟩
 have ax:=yh (aw.trans (M2 (of_decide_eq_false aa.out.symm)));obtain⟨W2,rfl⟩:=yE wc;have c5:=ab _ D;have a0:=HA _ D;go_upto_region 6 with(fail);obtain⟨aH,aG⟩:=yE (decide (c=cb));have aj:=yh aG;clear aG;go_cut [28] (fun v Q=>v=.bool aH∧yw w Q)
 case first=>
  go_quiet (fail);go_wp2_with fail;go_meet;exact⟨by rw[aj.out];congr 1,below_drewN D _⟩
 obtain⟨rfl,O⟩:=hcut;replace D:=O;clear O a0 c5;cases aH;rotate_left
 ·obtain rfl:R=6:=by rw[ax.out,M3 (of_decide_eq_true aj.out.symm)]
  go_wp2_with fail;go_ret;exact⟨rfl,fun h=>absurd h (by decide),Kept.of_below D (fun k hk h=>by omega)⟩
 have ay:=yh (ax.trans (M2 (of_decide_eq_false aj.out.symm)));obtain⟨W3,rfl⟩:=yE wc;have c5:=ab _ D;have a0:=HA _ D;have f5:W3.frozen? ⟨F,i*11+5,none⟩=false:=Yo D aU aq;go_upto_region 8 with(fail);go_cut [] (fun Q=>SaiW w0 b0 Q base X p∧Kept (fun k=>k=F) w Q)
 case first=>
  go_wp2_with fail;go_meet;exact⟨av _ D,(Kept.of_below D (fun k hk h=>by omega)).trans (VX W3 F [(i*11+5,.int .i64 c)])⟩
 obtain⟨ac,am⟩:=hcut;obtain⟨U,aQ⟩:∃V,V=wc:=⟨_,rfl⟩;subst aQ;have a3:=(ak w (J4 _ _)).kept am aV;obtain⟨g9,Z,n4,c4,al,_,_,J,_,aC,_,_⟩:=ac.at aO
 obtain rfl:F=g9:=by have:=HC.out;rw[this]at al;injection al with h;injection h
 have ag:=ac.sai;have aI:=yh (fun W (E:yw U W)=>ah Z n4 c4 W (by have:=ag.cats.bel E;rwa [aA.out]at this) (by have:=ag.cabs.bel E;rwa [aA.out]at this) (aC.bel E));have aL:=yh (fun W (E:yw U W)=>ai W (ag.bel E));have az:=yh ac;have ao:=ZSb a3;rw[←aN.out]at ao;have aK:=yh (show ∀W,yw U W→W.rangeAt y 0 (Qa X p).toList from fun W E j u hu=>Qh E (ao j u hu));have aM:=yh (show ∀W,yw U W→(fun w'=>yI w' y 0 x.ship.legs∧yI w' y 1 x.ship.souls∧yJ w' y 2 p.A p.n p.cap∧yJ w' y 3 p.B p.m p.cap2∧yI w' F (i*11) I.id∧yI w' F (i*11+1) I.kind∧yI w' F (i*11+2) I.state∧yI w' F (i*11+3) I.gst∧w'.cell? ⟨F,i*11+4,none⟩=some (.bool I.lev)∧yI w' F (i*11+5) I.cab∧yI w' F (i*11+6) I.cat∧yI w' F (i*11+7) I.frm∧yI w' F (i*11+8) I.upto∧yI w' F (i*11+9) I.til∧yJ w' F (i*11+10) Z n4 c4) W from fun W E=>⟨Qh E (a3.cell rfl),Qh E (a3.cell rfl),Qh E (a3.cell rfl),Qh E (a3.cell rfl),Qh E (J 0 _ rfl),Qh E (J 1 _ rfl),Qh E (J 2 _ rfl),Qh E (J 3 _ rfl),Qh E (J 4 _ rfl),Qh E (J 5 _ rfl),Qh E (J 6 _ rfl),Qh E (J 7 _ rfl),Qh E (J 8 _ rfl),Qh E (J 9 _ rfl),Qh E (J 10 _ rfl)⟩);have au:=yh am;clear am;clear a3 al J aC ag ao av ah ai ab HA ak aq ac a0 f5 c5 D;have D:yw U U:=J4 _ _;go_upto_region 9 with(fail);go_cut [5] (fun v Q=>v=.int .i64 Y∧yw U Q)
 case first=>
  replace D:=D.drew;go_region_held3 (fun w'=>w'.cell? ⟨y,0,none⟩=some (.int .i64 x.ship.legs)∧w'.cell? ⟨y,1,none⟩=some (.int .i64 x.ship.souls)∧w'.cell? ⟨y,2,none⟩=some (.slice p.A p.n p.cap)∧w'.cell? ⟨y,3,none⟩=some (.slice p.B p.m p.cap2)∧w'.cell? ⟨F,i*11,none⟩=some (.int .i64 I.id)∧w'.cell? ⟨F,i*11+1,none⟩=some (.int .i64 I.kind)∧w'.cell? ⟨F,i*11+2,none⟩=some (.int .i64 I.state)∧w'.cell? ⟨F,i*11+3,none⟩=some (.int .i64 I.gst)∧w'.cell? ⟨F,i*11+4,none⟩=some (.bool I.lev)∧w'.cell? ⟨F,i*11+5,none⟩=some (.int .i64 I.cab)∧w'.cell? ⟨F,i*11+6,none⟩=some (.int .i64 I.cat)∧w'.cell? ⟨F,i*11+7,none⟩=some (.int .i64 I.frm)∧w'.cell? ⟨F,i*11+8,none⟩=some (.int .i64 I.upto)∧w'.cell? ⟨F,i*11+9,none⟩=some (.int .i64 I.til)∧w'.cell? ⟨F,i*11+10,none⟩=some (.slice Z n4 c4)) (first|exact aM _ D|go_keep) (first|(go_at_call 104;refine yM (aI _ D) fun w5 ad=>?_;replace D:=D.trans (ad.mono D.size);clear ad));go_wp2_with fail;go_meet;exact⟨rfl,D⟩
 obtain⟨rfl,O⟩:=hcut;replace D:=O;clear O;by_cases q5:Y=0;rotate_left
 ·obtain rfl:R=Y:=by rw[ay.out,M3 q5]
  have q6:(R !=0)=true:=by simpa using q5
  clear q5;go_wp2_with fail;go_ret;exact⟨rfl,fun h=>az.bel D,au.trans (Kept.of_below D (fun k hk h=>by omega))⟩
 obtain rfl:R=rm:=by rw[ay.out,M2 (by rw[q5];simp)]
 have HC:=yh (aL _ D q5);have aJ:=yh (aK _ D);subst q5;go_wp2_with (refine wpList_load_mid rfl 32 (.tmp 53) rfl y 0 rfl _ _ aJ underlying32 rfl (by kernel_rfl) ?_);refine yM HC fun w5 ad=>?_;replace D:=D.trans (ad.mono D.size);go_wp2_with fail;go_ret;exact⟨rfl,fun h=>az.bel D,au.trans (Kept.of_below D (fun k hk h=>by omega))⟩
theorem ZRb {x:Sai}{t:Int}(h:chE x t 0=0):QD x=0∧ZH x t=true∧∀E,chE x t E=E:=by
 unfold chE at h;by_cases h1:QD x≠0
 ·rw[M3 h1]at h;exact absurd h h1
 ·rw[M2 h1]at h;unfold YT at h;by_cases h2:ZH x t=true
  ·exact⟨Decidable.not_not.1 h1,h2,fun E=>by unfold chE;rw[M2 h1];unfold YT;rw[M3 h2]⟩
  ·rw[M2 h2]at h;omega
theorem ZJc {x:Sai}{t E:Int}(h:¬chE x t 0=0):chE x t E=chE x t 0:=by
 unfold chE YT at h ⊢;by_cases h1:QD x≠0
 ·rw[M3 h1,M3 h1]
 ·rw[M2 h1]at h ⊢;rw[M2 h1];by_cases h2:ZH x t=true
  ·rw[M3 h2]at h;exact absurd rfl h
  ·rw[M2 h2,M2 h2]
theorem Yj (f:Nat)(lb:Array Value)(K:World→Prop)(x:Sai)(p:SaiV)(t I:Int)(X:Sai)(w:World)(hS:SaiR w x p)(ht:InI t)(eg:∀aj w,(callFunc f aj).run prog w=.ok (.enter f aj) w)
  (hK:K w) (ak:∀V V',K V→yw V V'→K V') (U:OkSai x→ZH x t=true→Uwb f lb K x (Ze x.bks t) I X) (an:∀p,Qa X p=Qa x p) :
  Calls prog 95 #[.agg (Qa x p),.int .i64 t,.func (.func f) #[] lb] w fun e w'=>YM w' w.heap.size (chE x t I) X e∧yw w w':=by
 have ac:=yh (fun X hX=>UIb x p t X hX ht);obtain⟨r,O⟩:=yE (chE x t 0);obtain⟨R,Z⟩:=yE (chE x t I);have aA:=yh (show r=0→R=I from fun h=>by rw[Z];exact(ZRb (O.symm.trans h)).2.2 I);have aB:=yh (show ¬r=0→R=r from fun h=>by rw[Z,O];exact ZJc (fun Y=>h (O.trans Y)))
 have ah:=yh (show r=0→Uwb f lb K x (Ze x.bks t) I X∧OkSai x∧∃b,x.bks[Ze x.bks t]? = some b from fun h=>by
  obtain⟨h1,Y,_⟩:=ZRb (O.symm.trans h);obtain⟨b,hb,_⟩:=UE (QP (Zm h1).bs.rise) Y
  exact⟨U (Zm h1) Y,Zm h1,b,hb⟩)
 rw[←O]at ac;rw[←Z];have HS:=yh hS;have HK:=yh hK;have aF:=yh an;have ax:=yh ak;clear O Z hS hK ak U ht an;obtain⟨A,n,cap,B,m,aG,D,nd,cd,E,ne,ce,C,nb,cb⟩:=p;go_enter func95,ntmps95;go_upto_region 0 with(fail);go_cut [3,6,7] (fun p p2 F wx=>∃g z,yp p g∧yp p2 z∧F=.int .i64 0∧w.heap.size≤z∧Blk wx g (Qa x ⟨A,n,cap,B,m,aG,D,nd,cd,E,ne,ce,C,nb,cb⟩) 32∧Blk wx z M9 32∧yw w wx)
 case first=>as_aux_lemma=>
  go_wp2_with fail;go_meet;exact⟨_,_,rfl,rfl,rfl,by omega,QE _ _ _,QF _ _ _,Zo _ _ _⟩
 obtain⟨g,z,rfl,rfl,rfl,hz,hG,hZ,aa⟩:=hcut;obtain⟨W1,rfl⟩:=yE wc;have J:=yh (fun X (hX:yw W1 X)=>aa.trans (hX.mono aa.size));have HG:=yh (fun X (hX:yw W1 X)=>hG.bel hX);have HZ:=yh (fun X (hX:yw W1 X)=>hZ.bel hX);have aT:z<W1.heap.size:=hZ.lt;have aD:=yh (fun X (hX:yw W1 X)=>HS.bel (J X hX))
 have ai:=yh (show ∀(E':Int) V,¬E'=0→yw W1 V→YM (V.setRow z (Qa Qf Qg)) w.heap.size E' X (.returned (.tuple #[.agg (Qa Qf Qg),.int .i64 E']))∧yw w (V.setRow z (Qa Qf Qg))from fun E' V h0 hX=>by
  have ab:yw w (V.setRow z (Qa Qf Qg)):=((J V hX).trans (((yk z V).setRow (.inl rfl) _).below (B:=w.heap.size) (J V hX).size (fun k hk e=>by omega)))
  exact⟨⟨Qf,Qg,rfl,(Ul h0 _).symm,Vw _ _ ab.size⟩,ab⟩)
 have hb:yw W1 W1:=J4 _ _;have aQ:=aa.size;have ay:=yh (fun X (hX:yw W1 X)=>ax _ _ HK (show yw w X from J X hX));clear hG hZ aa;have HC:=yh (ac _ (aD _ hb));go_wp2_with (refine yV (.tmp 3) (HG _ hb) underlying32 ?_);refine HC.mono ?_;rintro e w1 ⟨v,rfl,au,ap⟩;have ag:=yh au;clear au;replace hb:=hb.trans (ap.mono hb.size);clear ap HC ac;by_cases q0:r=0;rotate_left
 ·obtain rfl:R=r:=aB q0
  have q1:(R==0)=false:=by simpa using q0
  have q2:(R !=0)=true:=by simpa using q0
  have Q0:=yh q0;have aV:=HZ _ hb;clear q0;go_wp2_with (refine yX 32 (.tmp 6) (.tmp 23) z (Qa Qf Qg) aV ?_);refine yq2 (.tuple #[.agg (Qa Qf Qg),.int .i64 R]) (k:=6) (u:=7) (aV.row _) underlying32 ?_;exact ai _ _ Q0 hb
 obtain⟨U,aM,b,aq⟩:=ah q0;obtain rfl:R=I:=aA q0;obtain⟨y,F,w0,b0,rfl,hY,Q,aS⟩:=ag q0;obtain⟨g3,_,_,_,ad,aO,aP,_⟩:=Q.at aq;have aK:¬y=g3:=fun h=>Q.neB ad hY (by decide) h.symm;have ar:=yh (U w0 b0 y g3 F _ w1 (ay _ hb) Q hY ad);have aN:=hb.size
 have aR:W1.heap.size≤w0.heap.size:=by obtain⟨a1,a2,_⟩:=Q;omega
 have aL:¬z=g3:=by omega
 have HY:=yh hY;have ao:=HZ _ hb;clear U aM aq Q ad ag ah hY;subst q0;go_wp2_with fail;refine ar.out.mono ?_;rintro e W ⟨rfl,av,ae⟩;have az:=yh av;clear av;have af:=ao.kept ae aL;have aI:=HY.kept ae aK;have aJ:yw W1 W:=hb.trans (ae.below (B:=W1.heap.size) aN (fun k hk e=>by omega));clear hb ao HY ar;have hb:=aJ;by_cases q5:R=0;rotate_left
 ·have q6:(R !=0)=true:=by simpa using q5
  have Q5:=yh q5;have aV:=af;clear q5;go_wp2_with (refine yX 32 (.tmp 6) (.tmp 23) z (Qa Qf Qg) aV ?_);refine yq2 (.tuple #[.agg (Qa Qf Qg),.int .i64 R]) (k:=6) (u:=7) (aV.row _) underlying32 ?_;exact ai _ _ Q5 hb
 have am:=az q5;have aw:=ZSb aI;have aE:=yh am;clear am;subst q5;have aC:=yh aw;clear aw;go_wp2_with (first|(refine wpList_load_mid rfl 32 (.tmp 27) rfl y 0 rfl _ _ aC underlying32 rfl (by kernel_rfl) ?_)|(refine yX 32 (.tmp 6) (.tmp 28) z (Qa x F) af ?_));refine yq2 (.tuple #[.agg (Qa x F),.int .i64 0]) (k:=6) (u:=7) (af.row _) underlying32 ?_;have al:Kept (fun k=>k=z) W (W.setRow z (Qa x F)):=(yk z W).setRow (.inl rfl) _;have ab:=((J _ hb).trans (al.below (B:=w.heap.size) (J _ hb).size (fun k hk e=>by omega)));have aH:SaiO W W1.heap.size X F:=⟨w0,b0,aE⟩;exact⟨⟨X,F,by rw[aF.out],(Uf _).symm,(aH.kept al (fun k hk e=>by omega)).mono (by omega)⟩,ab⟩
theorem VOb (x:Sai)(p:SaiV)(t:Int)(w:World)(hS:SaiR w x p)(ht:InI t) :
  Calls prog 34 #[.agg (Qa x p),.int .i64 t] w fun e w'=>YM w' w.heap.size (ZTa x t) (Qwa x t) e∧yw w w':=by
 have Z:=yh (fun V hX=>Yj 96 #[] (fun _=>True) x p t (Zoa (ZW x t)) (Qwa x t) V hX ht (enters_of func96 (by kernel_rfl) rfl) trivial (fun _ _ _ _=>trivial) (fun X hl=>by
  obtain⟨b,h1,_,_,_,_,he⟩:=UE (QP X.bs.rise) hl;unfold Qwa;rw[he]
  exact ZBb x _ b h1 X.bs.len) (fun _=>rfl))
 obtain⟨A,n,cap,B,m,aa,D,nd,cd,E,ne,ce,C,nb,cb⟩:=p;go_enter func34,ntmps34;go_upto_region 0 with(fail);go_cut [2,4,5] (fun p p2 p3 J=>∃g z,yp p g∧yp p2 z∧p3=.int .i64 0∧w.heap.size≤z∧Blk J g (Qa x ⟨A,n,cap,B,m,aa,D,nd,cd,E,ne,ce,C,nb,cb⟩) 32∧Blk J z M9 32∧yw w J)
 case first=>as_aux_lemma=>
  go_wp2_with fail;go_meet;exact⟨_,_,rfl,rfl,rfl,by omega,QE _ _ _,QF _ _ _,Zo _ _ _⟩
 obtain⟨g,z,rfl,rfl,rfl,hz,U,hZ,hb⟩:=hcut;have O:=yh (Z _ (hS.bel hb));go_wp2_with (refine yV (.tmp 2) U underlying32 ?_);refine O.mono ?_;rintro e I ⟨⟨y,p',rfl,Y,W⟩,F⟩;have ab:=hZ.bel F;have ad:=hZ.lt;have ac:=hb.size;replace hb:=hb.trans (F.mono hb.size);have Q:=yh ab;have HO:=yh W;clear W;have HY:=yh Y;clear Y;clear U hZ F O;go_wp2_with (refine yX 32 (.tmp 4) (.tmp 9) z (Qa y p') Q ?_);refine yq2 (.tuple #[.agg (Qa y p'),.int .i64 _]) (k:=4) (u:=5) (Q.row _) underlying32 ?_;have af:Kept (fun k=>k=z) I (I.setRow z (Qa y p')):=(yk z I).setRow (.inl rfl) _;exact⟨⟨y,p',rfl,HY,(HO.kept af (fun k hk e=>by omega)).mono ac⟩,hb.trans (af.below (B:=w.heap.size) hb.size (fun k hk e=>by omega))⟩
theorem Yha (x:Sai)(p:SaiV)(t:Int)(w:World)(hS:SaiR w x p)(ht:InI t) :
  Calls prog 36 #[.agg (Qa x p),.int .i64 t] w fun e w'=>YM w' w.heap.size (ZCa x t) (Qqa x t) e∧yw w w':=by
 have aa:=yh (fun V hX=>Yj 101 #[] (fun _=>True) x p t (ZV x (ZW x t) x.day) (Qqa x t) V hX ht (enters_of func101 (by kernel_rfl) rfl) trivial (fun _ _ _ _=>trivial) (fun ho hl=>by
  obtain⟨b,h1,_,_,_,_,he⟩:=UE (QP ho.bs.rise) hl;unfold Qqa;rw[he]
  exact QXb x _ b h1 ho.bs.len (ho.bs.bk b (J6 h1)).fol ho.day ho.leaves ho.fares) (fun _=>rfl))
 obtain⟨A,n,cap,B,m,ab,D,nd,cd,E,ne,ce,C,nb,cb⟩:=p;go_enter func36,ntmps36;go_upto_region 0 with(fail);go_cut [2,4,5] (fun p p2 p3 O=>∃g z,yp p g∧yp p2 z∧p3=.int .i64 0∧w.heap.size≤z∧Blk O g (Qa x ⟨A,n,cap,B,m,ab,D,nd,cd,E,ne,ce,C,nb,cb⟩) 32∧Blk O z M9 32∧yw w O)
 case first=>as_aux_lemma=>
  go_wp2_with fail;go_meet;exact⟨_,_,rfl,rfl,rfl,by omega,QE _ _ _,QF _ _ _,Zo _ _ _⟩
 obtain⟨g,z,rfl,rfl,rfl,hz,W,F,hb⟩:=hcut;have Q:=yh (aa _ (hS.bel hb));go_wp2_with (refine yV (.tmp 2) W underlying32 ?_);refine Q.mono ?_;rintro e J ⟨⟨y,p',rfl,Z,Y⟩,I⟩;have ac:=F.bel I;have ae:=F.lt;have ad:=hb.size;replace hb:=hb.trans (I.mono hb.size);have U:=yh ac;have HO:=yh Y;clear Y;have HY:=yh Z;clear Z;clear W F I Q;go_wp2_with (refine yX 32 (.tmp 4) (.tmp 9) z (Qa y p') U ?_);refine yq2 (.tuple #[.agg (Qa y p'),.int .i64 _]) (k:=4) (u:=5) (U.row _) underlying32 ?_;have X:Kept (fun k=>k=z) J (J.setRow z (Qa y p')):=(yk z J).setRow (.inl rfl) _;exact⟨⟨y,p',rfl,HY,(HO.kept X (fun k hk e=>by omega)).mono ad⟩,hb.trans (X.below (B:=w.heap.size) hb.size (fun k hk e=>by omega))⟩
theorem YKb (x:Sai)(p:SaiV)(t a:Int)(w:World)(hS:SaiR w x p)(ht:InI t)(ha:InI a) :
  Calls prog 35 #[.agg (Qa x p),.int .i64 t,.int .i64 a] w fun e w'=>YM w' w.heap.size (ZKa x t a) (Qta x t a) e∧yw w w':=by
 have aa:=yh (fun q V hX I=>Yj 98 #[.pointer (some ⟨q,0,none⟩)] (AmtK q a) x p t (Zda x (ZW x t) a) (Qta x t a) V hX ht (enters_of func98 (by kernel_rfl) rfl) I (fun _ _ h hb=>h.bel hb) (fun ho hl=>by
  obtain⟨b,W,_,_,_,_,he⟩:=UE (QP ho.bs.rise) hl;unfold Qta;rw[he]
  exact Vhb x _ b a q ha W ho.bs.len (ho.bs.bk b (J6 W)).fol ho.day) (fun _=>rfl))
 obtain⟨A,n,cap,B,m,ab,D,nd,cd,E,ne,ce,C,nb,cb⟩:=p;go_enter func35,ntmps35;go_upto_region 0 with(fail);go_cut [3,5,6,7] (fun p pq p2 p3 F=>∃g q z,yp p g∧yp pq q∧yp p2 z∧p3=.int .i64 0∧w.heap.size≤z∧Blk F g (Qa x ⟨A,n,cap,B,m,ab,D,nd,cd,E,ne,ce,C,nb,cb⟩) 32∧AmtK q a F∧Blk F z M9 32∧yw w F)
 case first=>as_aux_lemma=>
  go_wp2_with fail;go_meet;exact⟨_,_,_,rfl,rfl,rfl,rfl,by omega,Vc _ _ _ _,Vd _ _ _ _,Ve _ _ _ _,X0 _ _ _ _⟩
 obtain⟨g,q,z,rfl,rfl,rfl,rfl,hz,X,I,J,hb⟩:=hcut;have U:=yh (aa q _ (hS.bel hb) I);go_wp2_with (refine yV (.tmp 3) X underlying32 ?_);refine U.mono ?_;rintro e Q ⟨⟨y,p',rfl,hy,Z⟩,O⟩;have ac:=J.bel O;have ae:=J.lt;have ad:=hb.size;replace hb:=hb.trans (O.mono hb.size);have ag:=yh ac;have HO:=yh Z;clear Z;have HY:=yh hy;clear hy;clear X J O U;go_wp2_with (refine yX 32 (.tmp 6) (.tmp 12) z (Qa y p') ag ?_);refine yq2 (.tuple #[.agg (Qa y p'),.int .i64 _]) (k:=6) (u:=7) (ag.row _) underlying32 ?_;have Y:Kept (fun k=>k=z) Q (Q.setRow z (Qa y p')):=(yk z Q).setRow (.inl rfl) _;exact⟨⟨y,p',rfl,HY,(HO.kept Y (fun k hk e=>by omega)).mono ad⟩,hb.trans (Y.below (B:=w.heap.size) hb.size (fun k hk e=>by omega))⟩
theorem VKb (x:Sai)(p:SaiV)(t a:Int)(w:World)(hS:SaiR w x p)(ht:InI t)(ha:InI a) :
  Calls prog 37 #[.agg (Qa x p),.int .i64 t,.int .i64 a] w fun e w'=>YM w' w.heap.size (ZGa x t a) (Qsa x t a) e∧yw w w':=by
 have aa:=yh (fun q V hX F=>Yj 103 #[.pointer (some ⟨q,0,none⟩)] (AmtK q a) x p t (Q9a x (Ze x.bks t) (ZW x t) a) (Qsa x t a) V hX ht (enters_of func103 (by kernel_rfl) rfl) F (fun _ _ h hb=>h.bel hb) (fun Y hl=>by
  obtain⟨b,h1,_,_,_,_,he⟩:=UE (QP Y.bs.rise) hl;unfold Qsa;rw[he]
  exact Q6b x _ b a q ha h1 Y) (fun _=>rfl))
 obtain⟨A,n,cap,B,m,ab,D,nd,cd,E,ne,ce,C,nb,cb⟩:=p;go_enter func37,ntmps37;go_upto_region 0 with(fail);go_cut [3,5,6,7] (fun p pq p2 p3 wx=>∃g q z,yp p g∧yp pq q∧yp p2 z∧p3=.int .i64 0∧w.heap.size≤z∧Blk wx g (Qa x ⟨A,n,cap,B,m,ab,D,nd,cd,E,ne,ce,C,nb,cb⟩) 32∧AmtK q a wx∧Blk wx z M9 32∧yw w wx)
 case first=>as_aux_lemma=>
  go_wp2_with fail;go_meet;exact⟨_,_,_,rfl,rfl,rfl,rfl,by omega,Vc _ _ _ _,Vd _ _ _ _,Ve _ _ _ _,X0 _ _ _ _⟩
 obtain⟨g,q,z,rfl,rfl,rfl,rfl,hz,hG,F,I,hb⟩:=hcut;have Q:=yh (aa q _ (hS.bel hb) F);go_wp2_with (refine yV (.tmp 3) hG underlying32 ?_);refine Q.mono ?_;rintro e O ⟨⟨y,p',rfl,Z,X⟩,J⟩;have ac:=I.bel J;have ae:=I.lt;have ad:=hb.size;replace hb:=hb.trans (J.mono hb.size);have U:=yh ac;have HO:=yh X;clear X;have HY:=yh Z;clear Z;clear hG I J Q;go_wp2_with (refine yX 32 (.tmp 6) (.tmp 12) z (Qa y p') U ?_);refine yq2 (.tuple #[.agg (Qa y p'),.int .i64 _]) (k:=6) (u:=7) (U.row _) underlying32 ?_;have W:Kept (fun k=>k=z) O (O.setRow z (Qa y p')):=(yk z O).setRow (.inl rfl) _;exact⟨⟨y,p',rfl,HY,(HO.kept W (fun k hk e=>by omega)).mono ad⟩,hb.trans (W.below (B:=w.heap.size) hb.size (fun k hk e=>by omega))⟩
def Xpa (x:Sai) (t:Int):Int:=if ZH x t=true then (Ze x.bks t:Int)else -1
theorem Yq (x:Sai)(p:SaiV)(t:Int)(w:World)(hl:Sl ZP 11 w All p.C p.nb p.cb x.bks)(hr:Xj x.bks) :
  Calls prog 200 #[.agg (Qa x p),.int .i64 t] w fun e w'=>e=.returned (.int .i64 (Xpa x t))∧yw w w':=by
 have I:=yh (fun X hl=>XL x p t X hl);obtain⟨ai,J⟩:=yE (atI x.bks t);obtain⟨R,V⟩:=yE (Xpa x t);have HR:=yh (show R=if 0≤ai∧(x.bks.getD ai.toNat default).state=3 then -1 else ai by rw[V,J];exact XAb hr)
 have ae:=yh (show ai=-1∨∃(k:Nat) (b:Bkg),ai=(k:Int)∧x.bks[k]? = some b from by
  rw[J];by_cases h:ZA x.bks t=true
  ·obtain⟨b,h1,_,_,h4⟩:=Xo hr h;exact .inr ⟨_,b,h4,h1⟩
  ·exact .inl (VTb (Bool.eq_false_iff.2 h)))
 rw[←J]at I;rw[←V];have HL:=yh hl;have HN:=yh hl.len;have ag:=hl.bd;clear J V hl hr;obtain⟨A,n,cap,B,m,af,D,nd,cd,E,ne,ce,C,Q,cb⟩:=p;simp only at I ag HN;go_enter func200,ntmps200;go_upto_region 0 with(fail);go_cut [2,4] (fun q _ wx=>∃g,yp q g∧Blk wx g (Qa x ⟨A,n,cap,B,m,af,D,nd,cd,E,ne,ce,C,Q,cb⟩) 32∧yw w wx)
 case first=>as_aux_lemma=>
  go_wp2_with fail;go_meet;exact⟨_,rfl,Zk _ _,Qi _ _⟩
 obtain⟨g,rfl,F,hb⟩:=hcut;have HC:=yh (I _ (HL.bel hb));go_wp2_with (refine yV (.tmp 2) F underlying32 ?_);refine yM HC fun w1 W=>?_;replace F:=F.bel W;replace hb:=hb.trans (W.mono hb.size);clear W HC I;rcases ae.out with h0|⟨k,b,hk,O⟩
 ·obtain rfl:R=-1:=by rw[HR.out,M2 (by omega)];exact h0
  subst h0;go_wp2_with fail;go_ret;exact⟨rfl,hb⟩
 ·have ac:=(J0.1 O).1
  have ah:k<Q:=by rw[←HN.out];exact ac
  obtain⟨ab,ad,b',A3,n3,c3,hA,Z,hF,hI,am⟩:=(HL.bel hb).bkg ah
  obtain rfl:b'=b:=by rw[Z]at O;injection O
  try simp only at hA
  subst hA;obtain⟨U,Y⟩:=yE b'.state
  have y2:w1.cell? ⟨ab,ad+k*11+2,none⟩=some (.int .i64 U):=by rw[Y];exact am 2 _ rfl
  have an:yJ w1 g 11 (some ⟨ab,ad,none⟩) Q cb:=F.cell rfl
  have aa:=yh (show R=if U=3 then -1 else (k:Int)by
   rw[HR.out,hk];simp only[Int.toNat_natCast,J7,Z,Option.getD_some];rw[Y];by_cases h:b'.state=3
   ·rw[M3 h,M3 ⟨Int.natCast_nonneg _,h⟩]
   ·rw[M2 h,M2 (fun h2=>h h2.2)])
  have aj:(0:Int)≤(k:Int):=Int.natCast_nonneg _
  have ak:(k:Int)<(Q:Int):=by omega
  subst hk;clear F O Z hF hI am Y ac;by_cases q1:U=3
  ·obtain rfl:R=-1:=by rw[aa.out,M3 q1]
   subst q1;go_wp2_with fail;go_ret;exact⟨rfl,hb⟩
  ·obtain rfl:R=(k:Int):=by rw[aa.out,M2 q1]
   have q2:(U==3)=false:=by simpa using q1
   clear q1;go_wp2_with fail;go_ret;exact⟨rfl,hb⟩
theorem Yy (K:World→Prop)(x:Sai)(p:SaiV)(i:Nat)(b:Bkg)(I:Option Addr)(O J:Nat)(L:List (List Value))(w:World)(hS:∀X,K X→SaiR X x p)(hP:∀X,K X→Pts ZP X L x.bks)(hf:∀X,K X→Sl Qm 3 X All I O J b.fol)(hw:K w)(ae:Sl (ZY 11) 11 w All p.C p.nb p.cb L)
  (hI:BkIn b) (hi:i<x.bks.length) (aT:x.bks.length≤16) :
  Calls prog 201 #[.agg (Qa x p),.int .i64 (i:Int),.agg (Qk b (.slice I O J))] w fun e w'=>∃q Z,e=.returned (.agg (Qa (QT x i b) Z))∧w.heap.size≤q∧q<w'.heap.size∧(∀X,K X→X.heap[q]? = w'.heap[q]?→SaiR X (QT x i b) Z∧Pts ZP X (L.set i (Qk b (.slice I O J)).toList) (x.bks.set i b)∧Sl (ZY 11) 11 X All Z.C Z.nb Z.cb (L.set i (Qk b (.slice I O J)).toList))∧Z.nb=p.nb∧Z.C=some ⟨q,0,none⟩∧yw w w':=by
 obtain⟨A,n,cap,B,m,Q,D,nd,U,E,Y,V,C,nb,cb⟩:=p;simp only at ae;have aj:L.length=nb:=ae.len
 have aB:x.bks.length=nb:=by rw[←aj];exact(hP w hw).len.symm
 have ba:nb≤16:=by omega
 have HS:=yh hS;clear hS;have HF:=yh hf;clear hf;have HI:=yh hI;clear hI;have aP:=yh ae;clear ae;have aR:=yh hP;clear hP;have ah:=yh aj;clear aj;have aL:=yh aB;clear aB;have a8:(0:Int)≤(i:Int):=Int.natCast_nonneg _
 have a9:(i:Int)<(nb:Int):=by have:=aL.out;omega
 clear aT;go_enter func201,ntmps201;go_upto_region 0 with(fail);go_cut [3,5,6] (fun p p2 p3 F=>∃g h z,yp p g∧yp p2 h∧yp p3 z∧w.heap.size≤g∧w.heap.size≤h∧w.heap.size≤z∧g≠h∧g≠z∧h≠z∧Blk F g (Qa x ⟨A,n,cap,B,m,Q,D,nd,U,E,Y,V,C,nb,cb⟩) 32∧Blk F h (Qk b (.slice I O J)) 63∧Blk F z M9 32∧yw w F)
 case first=>as_aux_lemma=>
  go_wp2_with fail;go_meet;exact⟨_,_,_,rfl,rfl,rfl,J5 _,by omega,by omega,by omega,by omega,by omega,Vc _ _ _ _,Vd _ _ _ _,Ve _ _ _ _,X0 _ _ _ _⟩
 obtain⟨g,h,z,rfl,rfl,rfl,hg,hh,hz,a3,a5,a7,hG,hH,hZ,hb⟩:=hcut;obtain⟨W2,rfl⟩:=yE wc;have aI:=hb.size
 have aC:(([]:List (List Value)).length+nb)*104≤140737488355328:=by simp;omega
 have ax:=aP.bel (hb.trans ((Qi W2 (.cells #[] 63)).mono aI));have a4:=hG.lt;have a6:=hH.lt;have bb:=hZ.lt;have ag:=yh (hG.bel (Qi W2 (.cells #[] 63)));have ar:(W2.alloc (.cells #[] 63)).cell? ⟨g,11,none⟩=some (.slice C nb cb):=ag.cell rfl;have HB:=yh hb;clear hb;have ap:=yh ax;clear ax;have HH:=yh hH;clear hH;have HZ:=yh hZ;clear hZ;clear hG;go_upto_region 1 with(fail);go_cut [] (fun F=>∃q cp xs,W2.heap.size≤q∧Own (ZY 11) 11 63 F W2.heap.size (.slice (some ⟨q,0,none⟩) nb cp) L xs∧Blk F g (Qa x ⟨A,n,cap,B,m,Q,D,nd,U,E,Y,V,(some ⟨q,0,none⟩),nb,cp⟩) 32∧Kept (fun k=>k=g∨W2.heap.size≤k) W2 F)
 case first=>
  go_wp2_with (at_builtin;go_loud (refine QC (t:=30) (e:=63) (bytes:=104) rfl (.tmp 7) (.tmp 9) rfl Xk (QW 11) rfl (Own.made W2 (ZY 11) 11 63 W2.heap.size #[] 0 (J5 _) (by simp[maxLen]) rfl) rfl ap (fun _ _ hc=>hc) aC (by omega) (by simp) ?_;intro v' w3 a1 am al _;obtain⟨q,cp,hv,hq,aF⟩:=am.form (by rw[show([]++L:List (List Value)).length=nb from ah.out];omega);rw[show([]++L:List (List Value)).length=nb from ah.out]at hv;subst hv;have W:=ag.grown al (show some g≠some W2.heap.size from fun e=>by injection e;omega);have bc:w3.cell? ⟨g,11,none⟩=some (.slice C nb cb):=W.cell rfl;have mf:w3.frozen? ⟨g,11,none⟩=false:=W.free 11;have aa:=yh W;have aQ:=yh am;have aN:=yh al;clear W am al));go_meet;have aV:yw W2 w3:=QA (Qi W2 _) (Own.made W2 (ZY 11) 11 63 W2.heap.size #[] 0 (J5 _) (by simp[maxLen]) rfl) aN (by simp);have aU:Kept (fun k=>k=g) w3 (w3.setCell ⟨g,11,none⟩ (.slice (some ⟨q,0,none⟩) nb cp)):=(yk g _).setCell (p:=⟨g,11,none⟩) (.inl rfl) _;exact⟨q,cp,a1,hq,ZM (XDa 11) aQ (by simp[Value.ownBlock];omega) _,aa.set (j:=11) _,(Kept.of_below aV (fun k hk h=>.inr h)).trans (aU.mono fun k _ hk=>.inl hk)⟩
 obtain⟨q,cp,xs,hq,hO,W,ac⟩:=hcut;obtain⟨W3,rfl⟩:=yE wc;have aw:=HH.kept ac (by omega);have ay:=HZ.kept ac (by omega)
 have aZ:q≠g:=by omega
 have aG:q≠z:=by omega
 have aa:=yh W;clear W;have aO:=yh aw;clear aw;have aS:=yh ay;clear ay;have ao:=yh ac;clear ac;have HO:=yh hO;clear hO;clear ar aC ag ap;go_upto_region 2 with(fail);go_cut [] (fun F=>(∃xs,Own (ZY 11) 11 63 F W2.heap.size (.slice (some ⟨q,0,none⟩) nb cp) (L.set i (Qk b (.slice I O J)).toList) xs)∧Kept (fun k=>k=q) W3 F)
 case first=>
  have aD:i<L.length:=by rw[ah.out];omega
  obtain⟨a2,-,l1,a0,aJ⟩:=HO.range (J1 aD);have ar:yJ W3 g 11 (some ⟨q,0,none⟩) nb cp:=aa.cell rfl;have HT:=yh aJ;clear l1 a0 aJ;go_wp2_with (first|(refine yV (.tmp 5) aO underlying63 ?_)|(refine wpList_store_mid rfl 63 (.tmp 16) (.tmp 15) rfl q (i*11) (Qk b (.slice I O J)) rfl rfl HT (by kernel_rfl) (Ud _ _ _ _) ?_));go_meet;exact⟨⟨_,HO.setEl (QW 11) aD rfl ⟨rfl,rfl,Zya _ _ _ _⟩⟩,UR q _ _ _⟩
 obtain⟨⟨bd,ak⟩,ad⟩:=hcut;obtain⟨W4,rfl⟩:=yE wc;have av:=aa.kept ad (fun e=>aZ e.symm);have az:=aS.kept ad (fun e=>aG e.symm);have aF:=(ak.lt q rfl).2;have aA:yw w W4:=(HB.trans (ao.below (B:=w.heap.size) HB.size (fun k hk e=>by omega))).trans (ad.below (B:=w.heap.size) (by have:=ao.size;omega) (fun k hk e=>by omega));obtain⟨A8,n8,c8,aK,af⟩:=ak.sl (QW 11);simp only[Value.slice.injEq]at aK;obtain⟨rfl,rfl,rfl⟩:=aK;replace af:=af.all (QW 11) (by omega);have aM:=yh av;clear av;have aq:=yh az;clear az;have ab:=yh af;clear af;have an:=yh aA;clear aA;clear ak ad;go_wp2_with (first|(refine yV (.tmp 3) aM underlying32 ?_)|(refine yX 32 (.tmp 6) (.tmp 17) z (Qa x ⟨A,n,cap,B,m,Q,D,nd,U,E,Y,V,(some ⟨q,0,none⟩),nb,cp⟩) aq ?_));refine yq (.agg (Qa (QT x i b) ⟨A,n,cap,B,m,Q,D,nd,U,E,Y,V,(some ⟨q,0,none⟩),nb,cp⟩)) (k:=6) (aq.row _) underlying32 ?_;have ai:Kept (fun k=>k=z) W4 (W4.setRow z (Qa x ⟨A,n,cap,B,m,Q,D,nd,U,E,Y,V,(some ⟨q,0,none⟩),nb,cp⟩)):=(yk z _).setRow (.inl rfl) _;have aW:yw w (W4.setRow z (Qa x ⟨A,n,cap,B,m,Q,D,nd,U,E,Y,V,(some ⟨q,0,none⟩),nb,cp⟩)):=an.trans (ai.below (B:=w.heap.size) an.size (fun k hk e=>by omega));refine⟨q,⟨A,n,cap,B,m,Q,D,nd,U,E,Y,V,(some ⟨q,0,none⟩),nb,cp⟩,rfl,Nat.le_trans aI hq,Nat.lt_of_lt_of_le aF ai.size,fun X hX aY=>?_,rfl,rfl,aW⟩
 have aH:Sl (ZY 11) 11 X All (some ⟨q,0,none⟩) nb cp (L.set i (Qk b (.slice I O J)).toList):=by
  refine⟨ab.len,ab.le,ab.max,fun k y hy=>?_⟩;obtain⟨b',o',cs,au,_,hc,hl,aX⟩:=ab.rd k y hy;simp only[Option.some.injEq,Addr.mk.injEq,and_true]at au;obtain⟨rfl,rfl⟩:=au;refine⟨q,0,cs,rfl,trivial,hc,hl,fun j u hu=>?_⟩;have h0:=aX j u hu;exact(World.cell?_of_block (aY.trans (ai.block q (ZT h0) aG))).trans h0
 have aE:=(aR X hX).set i (x:=b) (cs:=(Qk b (.slice I O J)).toList) ⟨I,O,J,rfl,HF X hX,HI⟩;exact⟨⟨(HS X hX).cats,(HS X hX).cabs,(HS X hX).fares,aH.unraw aE⟩,aE,aH⟩
theorem V9 (K:World→Prop)(x:Sai)(p:SaiV)(i:Nat)(b:Bkg)(D:Option Addr)(F E:Nat)(L:List (List Value))(w:World)(Z:∀X,K X→SaiR X x p)(Y:∀X,K X→Pts ZP X L x.bks)(hf:∀X,K X→Sl Qm 3 X All D F E b.fol)(hw:K w)(aa:Sl (ZY 11) 11 w All p.C p.nb p.cb L)
  (W:BkIn b) (hi:i<x.bks.length) (J:x.bks.length≤16) :
  Calls prog 201 #[.agg (Qa x p),.int .i64 (i:Int),.agg (Qk b (.slice D F E))] w fun e w'=>∃q A,e=.returned (.agg (Qa (QT x i b) A))∧w.heap.size≤q∧q<w'.heap.size∧(∀X,K X→X.heap[q]? = w'.heap[q]?→SaiR X (QT x i b) A)∧yw w w':=by
 refine(Yy K x p i b D F E L w Z Y hf hw aa W hi J).mono ?_;rintro e w' ⟨q,A,I,O,Q,U,_,_,V⟩;exact⟨q,A,I,O,Q,fun X hX hq=>(U X hX hq).1,V⟩
end Go.Proofs.YtjdcokpmgionjaaGreat
