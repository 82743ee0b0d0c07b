/-
  Words, laws and contracts: DeskR.
-/
import Derived.Test.YtjdcokpmgionjaaGreatBun35
import Derived.BigQuiet
set_option linter.unusedSimpArgs false
set_option linter.unusedVariables false
set_option maxRecDepth 100000
set_option maxHeartbeats 20000000
namespace Go.Proofs.YtjdcokpmgionjaaGreat
open Go.RowKit Go.Shelf
instance askK:CodK Xua 11:=⟨.of_flat (fun _ _ _ _ _ _ h=>h) fun h u hu=>by obtain⟨rfl,_⟩:=h;simp[Q1]at hu;rcases hu with rfl | rfl | rfl | rfl | rfl | rfl | rfl | rfl | rfl | rfl | rfl<;>rfl,by omega⟩
def Qzb:Cod Ans:=fun _ _ x cs=>cs=(QK x).toList
theorem VRa:VV Qzb:=fun _ _ _ _ _ _ h=>h
theorem Q6a:Good Qzb:=.of_flat VRa fun h u A=>by subst h;simp[QK]at A;rcases A with rfl | rfl<;>rfl
instance an2K:CodK Qzb 2:=⟨Q6a,by omega⟩
theorem V9b:ElemOf Tryz.prog 40 55 2 16:=.mk' Tryz.underlying40 (z:=.agg #[.int .i64 0,.int .i64 0]) (by kernel_rfl) rfl (by omega)
theorem UGc {w:World}{a o:Nat}{x:Ask}(h:∀j u,(Q1 x).toList[j]? = some u→w.cell? ⟨a,o+j,none⟩=some u):yI w a o x.number∧yI w a (o+1) x.kind∧yI w a (o+2) x.id∧
  yI w a (o+3) x.guests∧w.cell? ⟨a,o+4,none⟩=some (.bool x.level)∧yI w a (o+5) x.cabin∧yI w a (o+6) x.category∧yI w a (o+7) x.frm∧
  yI w a (o+8) x.upto∧yI w a (o+9) x.til∧yI w a (o+10) x.amount:=
 ⟨h 0 _ rfl,h 1 _ rfl,h 2 _ rfl,h 3 _ rfl,h 4 _ rfl,h 5 _ rfl,h 6 _ rfl,h 7 _ rfl,h 8 _ rfl,h 9 _ rfl,h 10 _ rfl⟩
theorem Sl.askE {w:World}{S:Nat→Prop}{A:Option Addr}{n cap:Nat}{l:List Ask}(h:Sl Xua 11 w S A n cap l){k:Nat}(J:k < n):∃b Q x,A=some ⟨b,Q,none⟩∧l[k]? = some x∧Xb x∧∀j u,(Q1 x).toList[j]? = some u→w.cell? ⟨b,Q+k*11+j,none⟩=some u:=by
 have O:=h.len;obtain⟨b,Q,I,D,-,⟨rfl,F⟩,-,E⟩:=h.rd k (l[k]'(by omega)) (List.getElem?_eq_getElem (by omega));exact⟨b,Q,_,D,List.getElem?_eq_getElem (by omega),F,E⟩
theorem ZWa {w:World}{S:Nat→Prop}{A:Option Addr}{n cap:Nat}{l:List Ask}(h:Sl Xua 11 w S A n cap l):∀a∈l,Xb a:=fun a E=>by
 obtain⟨i,D,rfl⟩:=List.mem_iff_getElem.1 E;obtain⟨_,_,x,_,I,F,_⟩:=h.askE (k:=i) (by rw[←h.len];exact D);rw[List.getElem?_eq_getElem D]at I
 injection I with I
 rw[I];exact F
theorem UBc (w:World)(S:Nat→Prop)(d:Ans)(t:TypeId)(A:S w.heap.size):Sl Qzb 2 (w.alloc (.cells (QK d) t)) S (some ⟨w.heap.size,0,none⟩) 1 1 [d]:=Sl.lit1 w S t d (QK d).toList rfl A
theorem Xna (x:Sai)(p:SaiV)(A:Option Addr)(n cap:Nat)(l:List Ask)(w:World)(hS:SaiR w x p)(hl:Sl Xua 11 w All A n cap l)(hx:Qp x=0) :
  Calls Tryz.prog 14 #[.agg (Qa x p),.slice A n cap] w fun e w'=>(∃A1 n1 F v,e=.returned (.tuple #[.agg #[.slice A1 n1 F,.int .i64 (n1:Int)],v,.bool true])∧Sl ZL 13 w' All A1 n1 F (tkD x l (min n 20)))∧yw w w':=by
 have ak:=yh (ZWa hl);have al:=yh (show l.length=n from hl.len);have ai:=yh (fun k (hk:k≤n)=>X0a hx (ZWa hl) k (by rw[hl.len];exact hk));have bP:=hl.bd;have HS:=yh (fun V (hV:yw w V)=>hS.bel hV);have HL:=yh (fun V (hV:yw w V)=>hl.bel hV);have HX:=yh hx;have af:=yh (fun a X=>Xz a X)
 have ao:=yh (fun A1 n1 F k (a:Ask) X (hX:SaiR X x p) (h1:Sl ZL 13 X All A1 n1 F (tkD x l k)) (hn:n1=(tkD x l k).length) (hk:k < n) (bb:k < 20) (ha:Xb a) (hc:QU a=0)=>show Calls Tryz.prog 53 #[.agg (Qa x p),.agg #[.slice A1 n1 F,.int .i64 (n1:Int)],.string ⟨(VM a).toArray⟩] X fun e w'=>(∃v xs N,e=.returned (.tuple #[.agg #[v,.int .i64 ((VS x (tkD x l k) a).length:Int)],.agg (QK N),.int .i64 0])∧Own ZL 13 106 w' X.heap.size v (VS x (tkD x l k) a) xs)∧yw X w' from by
  obtain⟨h3,h4⟩:=ai.out k (by omega);obtain⟨N,hN⟩:=VOb (a:=a) HX.out h3 (by omega) hc;rw[←hn]at hN;have hd:=QBa hc;have:=Qsa QNa Xv x p A1 n1 F (tkD x l k) (n1:Int) (VM a) X hX h1 (fun y hy d hd hc=>VX hy (h3.mem d hd).1.1 hc) (by rw[hd];exact fun y hy _=>VX hy ha hc) (by rw[hd];exact fun _=>ha) (by rw[hd];exact fun y hy _=>ZUa hy (VX hy ha hc));rw[hN]at this;refine this.mono ?_;rintro e w' ⟨⟨v,xs,an,rfl,bO,hO⟩,I⟩;exact⟨⟨v,xs,an,rfl,hO⟩,I⟩)
 clear hS hl hx;obtain⟨AA,nn,aZ,B,m,aY,D,nd,cd,E,ne,ce,C,nb,cb⟩:=p
 go_enter Tryz.func14,Tryz.ntmps14
 go_upto_region 0 with(fail)
 go_cut [2,4,5,6] (fun p p2 p3 p4 wx=>∃g z,p=.pointer (some ⟨g,0,none⟩)∧p2=.pointer (some ⟨z,0,none⟩)∧p3=.slice none 0 0∧p4=.bool false∧w.heap.size≤z∧Blk wx g (Qa x ⟨AA,nn,aZ,B,m,aY,D,nd,cd,E,ne,ce,C,nb,cb⟩) 32∧Blk wx z #[.slice none 0 0,.int .i64 0] 39∧yw w wx)
 case first=>
  clear ao ai ak al HS HL HX af
  go_wp2_with fail
  go_meet
  exact⟨_,_,rfl,rfl,rfl,rfl,by omega,QA _ _ _,QB _ _ _,Zh _ _ _⟩
 obtain⟨g,z,rfl,rfl,rfl,rfl,bY,hG,hZ,I⟩:=hcut;obtain⟨J,bv⟩:∃V,V=wc:=⟨_,rfl⟩;subst bv;have HT:=yh (fun X (hX:yw J X)=>I.trans (hX.mono I.size));have HG:=yh (fun X (hX:yw J X)=>hG.bel hX);have HZ:=yh (fun X (hX:yw J X)=>hZ.bel hX);have bZ:=hZ.lt;have bU:=I.size;clear hG hZ I
 go_upto_region 1 with(fail)
 go_cut [7] (fun p wx=>∃h,p=.pointer (some ⟨h,0,none⟩)∧J.heap.size≤h∧Blk wx h #[.slice none 0 0,.int .i64 0] 39∧yw J wx)
 case first=>
  clear ao ai ak al HS HL HX af HT HG HZ
  go_wp2_with fail
  go_meet
  exact⟨_,rfl,Nat.le_refl _,Za _ _,Qf _ _⟩
 obtain⟨h,rfl,bQ,hH,I⟩:=hcut;obtain⟨W2,bw⟩:∃V,V=wc:=⟨_,rfl⟩;subst bw;have aD:=yh hH;have aB:=yh I;have bR:=hH.lt;have aP:=I.size;clear hH I
 go_wp2_with fail
 go_loopg [8,9] n (fun gx o i wr=>∃(k:Nat) (A1:Option Addr) (n1 F:Nat) (Y:Value),k≤n∧k≤20∧n - k≤gx∧i=.int .i64 (k:Int)∧Y=o∧Hid (∃xs,Own ZL 13 106 wr J.heap.size (.slice A1 n1 F) (tkD x l k) xs)∧Hid (Blk wr h #[.slice A1 n1 F,.int .i64 (n1:Int)] 39)∧Hid (∃Q xs,Own Qzb 2 55 wr J.heap.size Y Q xs∧Q.length≤k)∧yw J wr)
 case atStart=>exact⟨0,none,0,0,_,Nat.zero_le _,by omega,by omega,rfl,rfl,yh ⟨[],Own.nil _ _ _ _ _⟩,aD.out,yh ⟨[],[],Own.nil _ _ _ _ _,Nat.le_refl _⟩,aB.out⟩
 case round=>
  obtain⟨k,A1,n1,F,Y,hk,bF,bE,rfl,rfl,HD,HH,HO,I⟩:=hrel;obtain⟨W5,bx⟩:∃W,W=wr:=⟨_,rfl⟩;subst bx;have h5:=I.size
  by_cases hlt:k < n∧k < 20
  rotate_left
  ·have hm:k=min n 20:=by omega
   have hh:=HH.out;have hz:=HZ.out _ I
   have aI:=fun us=>(Kept.refl (fun j=>j=z) W5).setRow (.inl rfl) us
   have aR:=yh (fun us=>show Sl ZL 13 (W5.setRow z us) All A1 n1 F (tkD x l (min n 20))from by
    obtain⟨xs,hO⟩:=HD.out;rw[←hm];obtain⟨_,_,_,he,hs⟩:=(hO.kept Qm (aI us) (fun j U e=>by omega)).sl Qm
    injection he with e1 e2 e3
    subst e1 e2 e3;exact hs.all Qm (by omega))
   have aX:=yh (fun us=>show yw w (W5.setRow z us)from(HT.out _ I).trans ((aI us).below (B:=w.heap.size) (HT.out _ I).size (fun j U e=>by omega)))
   have bu:(k < n∧¬k < 20)∨¬k < n:=by omega
   clear bE hm ao ai ak al HS HL HX af HG HD HO aI hlt bF hk
   rcases bu with⟨d1,d2⟩ | d1
   ·skip
    go_wp2_with (first | (refine wpList_load_row rfl 39 (.tmp 7) rfl h rfl 39 _ (0,0) _ hh Tryz.underlying39 rfl (by kernel_rfl) ?_) | (refine wpList_store_row rfl 39 (.tmp 4) (.tmp 51) rfl z #[.slice A1 n1 F,.int .i64 (n1:Int)] rfl rfl 39 _ hz (by kernel_rfl) rfl (by simp[Value.oneCell']) ?_))
    refine bodyPost_ret (v:=.tuple #[.agg #[.slice A1 n1 F,.int .i64 (n1:Int)],Y,.bool true]) ((hz.row _).ret3 (k:=4) (u:=5) (v:=6) (by kernel_rfl) rfl rfl rfl Tryz.underlying39 (by kernel_rfl) (by kernel_rfl)) rfl ?_;exact⟨⟨A1,n1,F,Y,rfl,aR.out _⟩,aX.out _⟩
   ·skip
    go_wp2_with (first | (refine wpList_load_row rfl 39 (.tmp 7) rfl h rfl 39 _ (0,0) _ hh Tryz.underlying39 rfl (by kernel_rfl) ?_) | (refine wpList_store_row rfl 39 (.tmp 4) (.tmp 51) rfl z #[.slice A1 n1 F,.int .i64 (n1:Int)] rfl rfl 39 _ hz (by kernel_rfl) rfl (by simp[Value.oneCell']) ?_))
    refine bodyPost_ret (v:=.tuple #[.agg #[.slice A1 n1 F,.int .i64 (n1:Int)],Y,.bool true]) ((hz.row _).ret3 (k:=4) (u:=5) (v:=6) (by kernel_rfl) rfl rfl rfl Tryz.underlying39 (by kernel_rfl) (by kernel_rfl)) rfl ?_;exact⟨⟨A1,n1,F,Y,rfl,aR.out _⟩,aX.out _⟩
  obtain⟨bc,bb⟩:=hlt;have d1:decide ((k:Int) < (n:Int))=true:=decide_eq_true (by omega);have d2:decide ((k:Int) < 20)=true:=decide_eq_true (by omega);have d3:decide (0≤(k:Int))=true:=decide_eq_true (by omega);have d4:decide ((k:Int) < 0)=false:=decide_eq_false (by omega);obtain⟨ba,b1,a,rfl,ha,a6,a5⟩:=(HL.out _ (HT.out _ I)).askE bc;obtain⟨c0,b7,O,c3,c4,c5,c6,c7,c8,c9,bt⟩:=UGc a5;obtain⟨ce,aM⟩:∃r,r=QU a:=⟨_,rfl⟩;have aq:=af.out a W5;rw[←aM]at aq;obtain⟨bs,ap⟩:∃b,b=okL ce (VM a):=⟨_,rfl⟩;rw[←ap]at aq
  dsimp only[Q1]at aq
  have aS:=yh aq;have HA:=yh ha;have aA:=yh a6;have au:=yh aM;have aC:=yh ap;clear ha a6 a5 aM ap aq
  go_wp2_with fail
  refine aS.out.mono ?_;rintro e w6 ⟨rfl,aj⟩;have bH:=aj.size;have aw:=yh (Qlb (x:=x) HA.out);have ab:=yh (I.trans (aj.mono I.size));have ag:=yh (HH.out.bel aj);have av:=yh (show ∃xs,Own ZL 13 106 w6 J.heap.size (.slice A1 n1 F) (tkD x l k) xs from HD.out.imp fun xs h=>h.bel aj)
  have ax:=yh (show ∃Q xs,Own Qzb 2 55 w6 J.heap.size Y Q xs∧Q.length≤k from by
   obtain⟨Q,xs,h1,h2⟩:=HO.out;exact⟨Q,xs,h1.bel aj,h2⟩)
  clear c0 b7 O c3 c4 c5 c6 c7 c8 c9 bt d1 d2 d3 d4 aS HH HD HO I aj bH
  by_cases q0:ce=0
  rotate_left
  ·have q1:(ce != 0)=true:=by simpa using q0
   have a8:=au.out
   have bf:tkD x l (k+1)=tkD x l k:=by
    rw[aw.out];unfold VS;rw[if_pos (by rw[←a8];exact q0)]
   have am:=yh bf;clear bf a8 q0
   go_wp2_with fail
   go_roundg (n - (k+1))
   case measure=>omega
   case rel=>
    refine⟨k+1,A1,n1,F,Y,by omega,by omega,by omega,by go_num,rfl,?_,ag.out,?_,ab.out⟩
    ·rw[am.out];exact av.out
    ·obtain⟨Q,xs,h1,h2⟩:=ax.out;exact⟨Q,xs,h1,by omega⟩
  subst q0;have ap:bs=VM a:=aC.out.trans (QG _);subst ap;obtain⟨b0,bG⟩:∃q,q=n1:=⟨_,rfl⟩;obtain⟨D',aH⟩:∃q,q=VS x (tkD x l k) a:=⟨_,rfl⟩
  have bk:∀X,yw w6 X→Calls Tryz.prog 53 #[.agg (Qa x ⟨AA,nn,aZ,B,m,aY,D,nd,cd,E,ne,ce,C,nb,cb⟩),.agg #[.slice A1 n1 F,.int .i64 (n1:Int)],.string ⟨(VM a).toArray⟩] X fun e w'=>(∃v xs N,e=.returned (.tuple #[.agg #[v,.int .i64 (D'.length:Int)],.agg (QK N),.int .i64 0])∧Own ZL 13 106 w' X.heap.size v D' xs)∧yw X w':=fun X hX=>by
   obtain⟨xs,hO⟩:=av.out;obtain⟨_,_,_,he,hs⟩:=(hO.bel hX).sl Qm
   injection he with e1 e2 e3
   subst e1 e2 e3;have aP:=hs.all Qm (by omega);rw[aH];exact ao.out A1 n1 F k a X (HS.out _ (HT.out _ (ab.out.trans (hX.mono ab.out.size)))) aP aP.len.symm bc bb aA.out au.out.symm
  have be:tkD x l (k+1)=D':=aw.out.trans aH.symm;have am:=yh be;have aF:=yh bk;clear bk aH be bG ao;have aN:=HG.out _ ab.out;have aO:=ag.out
  go_upto_region 8 with(fail)
  go_cut [11,12,13] (fun e q r wx=>e=.int .i64 0∧(∃s t A2 n2 O N xs,q=.pointer (some ⟨s,0,none⟩)∧r=.pointer (some ⟨t,0,none⟩)∧w6.heap.size≤s∧w6.heap.size≤t∧n2=D'.length∧Blk wx s #[.slice A2 n2 O,.int .i64 (n2:Int)] 39∧Blk wx t (QK N) 55∧Own ZL 13 106 wx w6.heap.size (.slice A2 n2 O) D' xs)∧yw w6 wx)
  case first=>
   have aW:=yh (aF.out w6 (Below.refl _ _));clear ai ak al HS HL HX af HT HG HZ aD aB HA aA au aC aw ab ag av ax aF am
   go_wp2_with (first | (refine wpList_load_row rfl 32 (.tmp 2) rfl g rfl 32 _ (0,0) _ aN Tryz.underlying32 rfl (by kernel_rfl) ?_) | (refine wpList_load_row rfl 39 (.tmp 7) rfl h rfl 39 _ (0,0) _ aO Tryz.underlying39 rfl (by kernel_rfl) ?_))
   refine aW.out.mono ?_;rintro e w8 ⟨⟨v,xs,N,rfl,hO⟩,ad⟩;obtain⟨A2,n2,O,rfl,hs⟩:=hO.sl Qm;obtain rfl:D'.length=n2:=hs.len;obtain⟨n2,az⟩:∃m,m=D'.length:=⟨_,rfl⟩;rw[←az]at hO ⊢;have b3:=yh hO;have aa:=yh ad;have bp:=yh az;clear hO ad hs az aW aN aO;have aV:=yh (show ∀g,g=w8.heap.size→Blk ((w8.alloc (.cells #[.slice none 0 0,.int .i64 0] 39)).alloc (.cells #[.int .i64 0,.int .i64 0] 55)) g #[.slice none 0 0,.int .i64 0] 39 from fun g hg=>by subst hg;exact(Blk.new w8 _ _).old _);have aU:=yh (show ∀g,g=w8.heap.size+1→Blk (((w8.alloc (.cells #[.slice none 0 0,.int .i64 0] 39)).alloc (.cells #[.int .i64 0,.int .i64 0] 55)).setRow w8.heap.size #[.slice A2 n2 O,.int .i64 (n2:Int)]) g #[.int .i64 0,.int .i64 0] 55 from fun g hg=>by subst hg;exact(Blk.new1 w8 _ _ _).rowOther (by omega) _)
   go_wp2_with (first | (refine wpList_store_row rfl 39 (.tmp 12) (.tmp 39) rfl w8.heap.size #[.slice A2 n2 O,.int .i64 (n2:Int)] rfl rfl 39 _ (aV.out _ rfl) (by kernel_rfl) rfl (by simp[Value.oneCell']) ?_) | (refine wpList_store_row rfl 55 (.tmp 13) (.tmp 40) rfl (w8.heap.size+1) (QK N) rfl rfl 55 _ (aU.out _ rfl) (by kernel_rfl) rfl (by simp[Value.oneCell']) ?_))
   go_meet
   have a7:yw w8 ((((w8.alloc (.cells #[.slice none 0 0,.int .i64 0] 39)).alloc (.cells #[.int .i64 0,.int .i64 0] 55)).setRow w8.heap.size #[.slice A2 n2 O,.int .i64 (n2:Int)]).setRow (w8.heap.size+1) (QK N)):=below_setRow (below_setRow (Zh w8 _ _) (Nat.le_refl _) _) (by omega) _;have bj:=aa.out.size;exact⟨rfl,⟨_,_,A2,n2,O,N,xs,rfl,rfl,bj,by omega,bp.out,((aV.out _ rfl).row _).rowOther (by omega) _,(aU.out _ rfl).row _,b3.out.bel a7⟩,aa.out.trans (a7.mono aa.out.size)⟩
  obtain⟨rfl,⟨s,t,A2,n2,O,N,xs,rfl,rfl,bV,bX,az,aJ,a4,b5⟩,ad⟩:=hcut;obtain⟨W8,bz⟩:∃V,V=wc:=⟨_,rfl⟩;subst bz;have bj:=ad.size;have bS:=ag.out.lt;have ar:=ag.out.bel ad;have bh:=ar.row #[.slice A2 n2 O,.int .i64 (n2:Int)];have b4:=(Kept.refl (fun j=>j=h) W8).setRow (.inl rfl) #[.slice A2 n2 O,.int .i64 (n2:Int)];have bC:=ad;have aa:=yh (ab.out.trans (ad.mono ab.out.size));have br:=yh aJ;have aG:=yh a4;have ah:=yh b5
  have b3:=yh (show ∃Q xs,Own Qzb 2 55 W8 J.heap.size Y Q xs∧Q.length≤k∧∀j,Y.ownBlock=some j→j < w6.heap.size from by
   obtain⟨Q,xs,h1,h2⟩:=ax.out;exact⟨Q,xs,h1.bel ad,h2,fun j U=>(h1.lt j U).2⟩)
  clear a4 b5 bC ab ag av ax aF aN aO
  go_upto_region 11 with(fail)
  go_cut [] (fun wx=>Blk wx h #[.slice A2 n2 O,.int .i64 (n2:Int)] 39∧Kept (fun j=>j=h) W8 wx)
  case first=>
   clear ai ak al HS HL HX af HT HG HZ aD aB HA aA au aC aw am aa aG ah b3
   go_wp2_with (first | (refine wpList_load_row rfl 39 (.tmp 12) rfl s rfl 39 _ (0,0) _ aJ Tryz.underlying39 rfl (by kernel_rfl) ?_) | (refine wpList_store_row rfl 39 (.tmp 7) (.tmp 46) rfl h #[.slice A2 n2 O,.int .i64 (n2:Int)] rfl rfl 39 _ ar (by kernel_rfl) rfl (by simp[Value.oneCell']) ?_))
   go_meet
   exact⟨bh,b4⟩
  obtain⟨b6,ac⟩:=hcut;obtain⟨Z,bA⟩:∃V,V=wc:=⟨_,rfl⟩;subst bA;have bI:=ac.size
  have bW:s≠h:=by omega
  have bK:t≠h:=by omega
  obtain⟨Q,b2,ay,bT,bl⟩:=b3.out;have a3:=ay.keepB VRa (fun j U=>ac.block j (ay.lt j U).2 (fun e=>ay.neTy ar (by decide) (by rw[U,e])));have a2:=ah.out.keepB ZC (fun j U=>ac.block j (ah.out.lt j U).2 (fun e=>ah.out.neTy ar (by decide) (by rw[U,e])));have aK:=aG.out.kept ac bK;have aL:yw J Z:=aa.out.trans (ac.below (B:=J.heap.size) aa.out.size (fun j U e=>by omega));have bi:=aL.size;have a0:yI Z t 0 N.errno:=aK.cell rfl;have a1:yI Z t 1 N.owed:=aK.cell rfl;have aE:=yh (a3.below Q6a (Qf Z (.cells (QK N) 55)));have bo:=yh (UBc Z All N 55 trivial)
  have bD:(Q.length+1)*16≤140737488355328:=by omega
  have bJ:J.heap.size≤(Z.alloc (.cells (QK N) 55)).heap.size:=Nat.le_trans bi (by simp);have aT:=yh (b6.bel (Qf Z (.cells (QK N) 55)));have bn:=yh (a2.below Qm (Qf Z (.cells (QK N) 55)));have bm:=yh (show Apart (.slice A2 n2 O) Y from fun j U e=>by have h1:=(ah.out.lt j U).1;have h2:=bl j e;omega);have aQ:=yh (aL.trans ((Qf Z (.cells (QK N) 55)).mono bi));have bN:=aa.out.size
  have bL:J.heap.size≤w6.heap.size:=by omega
  clear bI ac b6 ay a3 a2 aK aL bl bh b4 ar aJ br aG ah b3 aa
  go_upto_region 12 with(fail)
  go_wp2_with (at_builtin;refine QC (t:=40) (e:=55) (bytes:=16) rfl (.tmp 47) (.tmp 49) rfl V9b Q6a rfl aE.out rfl bo.out (fun _ _ hc=>hc) bD (by omega) bJ ?_;intro v' w' bM bg a9 bB;have bq:=yh bg;have ae:=yh a9;clear bg a9 bB a0 a1)
  go_roundg (n - (k+1))
  case measure=>omega
  case rel=>
   have ac:Kept (fun j=>J.heap.size≤j) (Z.alloc (.cells (QK N) 55)) w':=⟨ae.out.os,ae.out.tape,ae.out.output,ae.out.size,fun j U hn=>ae.out.block j U (fun e=>hn (aE.out.lt j e.symm).1)⟩;refine⟨k+1,A2,n2,O,v',by omega,by omega,by omega,by go_num,rfl,?_,?_,?_,?_⟩
   ·rw[am.out];exact⟨xs,(bn.out.grownF ZC ae.out bm.out).mono Qm bL⟩
   ·exact aT.out.grown ae.out (fun e=>aE.out.neTy aT.out (by decide) e.symm)
   ·exact⟨_,bM,bq.out,by rw[List.length_append];simp;omega⟩
   ·exact aQ.out.trans (ac.below (B:=J.heap.size) aQ.out.size (fun j U e=>by omega))
end Go.Proofs.YtjdcokpmgionjaaGreat
