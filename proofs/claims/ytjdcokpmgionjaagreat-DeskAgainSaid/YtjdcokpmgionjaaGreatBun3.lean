/-
  Words, laws and contracts: ShipE, ShipF, ShipJ, ShipK, ShipN.
-/
import Derived.Test.YtjdcokpmgionjaaGreatBun2
import Derived.Deep.CutBlock
import Derived.BigRegion
set_option linter.unusedSimpArgs false
set_option linter.unusedVariables false
set_option maxRecDepth 100000
set_option maxHeartbeats 20000000
namespace Go.Proofs.YtjdcokpmgionjaaGreat
open Go.RowKit Go.Shelf
theorem YOa:∀(n:Nat) (l:List Int),l.Nodup→(∀x∈l,0≤x∧x < n)→l.length≤n
 | 0,[],_,_=>Nat.le_refl _
 | 0,x::l,_,h=>by have:=h x (by simp);omega
 | n+1,l,hn,h=>by
  have D:=YOa n (l.erase (n:Int)) (hn.erase _) (fun x A=>by
   have E:=h x (List.mem_of_mem_erase A)
   have F:x≠(n:Int):=(List.Nodup.mem_erase_iff hn).1 A |>.1
   omega)
  have I:l.length≤(l.erase (n:Int)).length+1:=by rw[List.length_erase];split<;>omega
  omega
theorem Qmc {n:Int}{l:List Int}(h:Qh (Uo n l) l.length=0):(∀x∈l,0≤x∧x < n)∧(l.length:Int)≤max n 0:=by
 have A:∀k (A:k < l.length),(0≤l[k]∧l[k] < n)∧l[k]∉l.take k:=fun k A=>by
  have:=UA h k A;unfold Uo at this;rw[Z1 A]at this
  by_cases h1:Qc l[k] 0 (n - 1)=false
  ·rw[if_pos h1]at this;omega
  ·rw[if_neg h1]at this
   have Q:=Qj.1 (by simpa using h1)
   by_cases h3:(l.take k).contains l[k]=true
   ·rw[if_pos h3]at this;omega
   ·exact⟨by omega,by simpa using h3⟩
 have E:∀x∈l,0≤x∧x < n:=fun x D=>by
  obtain⟨k,J,rfl⟩:=List.getElem_of_mem D;exact(A k J).1
 refine⟨E,?_⟩
 have O:l.Nodup:=by
  unfold List.Nodup;rw[List.pairwise_iff_getElem];intro i j U I V F;exact(A j I).2 (by rw[←F];exact List.mem_take_iff_getElem.2 ⟨i,by omega,rfl⟩)
 have:=YOa n.toNat l O (fun x D=>by have:=E x D;omega);omega
theorem Zna {cats:List Cat}{nms:List (List UInt8)}(I:cats.length≤5)(h:Qh (nmE nms (VY cats)) cats.length=0):OkCats cats:=by
 have A:∀c∈cats,(∀x∈c.high,0≤x∧x < cats.length)∧(c.high.length:Int)≤max (cats.length:Int) 0:=fun c A=>by
  obtain⟨k,E,rfl⟩:=List.getElem_of_mem A;have:=UA h k E;unfold nmE at this
  by_cases h1:U3 (nms.getD k [])=false
  ·rw[if_pos h1]at this;omega
  ·rw[if_neg h1]at this
   by_cases h2:(nms.take k).contains (nms.getD k [])=true
   ·rw[if_pos h2]at this;omega
   ·rw[if_neg h2]at this
    unfold VY at this;rw[Z1 E]at this;exact Qmc this
 refine⟨I,fun l F x J=>?_,fun c D=>by have:=(A c D).2;omega⟩;unfold QS at F;obtain⟨c,D,rfl⟩:=List.mem_map.1 F;have:=(A c D).1 x J
 simpa [QS] using this
theorem Qhb:ElemOf Tryz.prog 211 9 1 16:=.mk' Tryz.underlying211 (z:=Zb []) (by kernel_rfl) rfl (by omega)
theorem YBb (w:World)(S:Nat→Prop)(x:List UInt8)(t:TypeId)(D:x.length≤maxLen)(A:S w.heap.size):Sl VFa 1 (w.alloc (.cells #[Zb x] t)) S (some ⟨w.heap.size,0,none⟩) 1 1 [x]:=
 Sl.lit1 w S t x [Zb x] ⟨rfl,D⟩ A
theorem Blk.grown {w w':World}{b:Nat}{A:Array Value}{t:TypeId}{row:Option Nat}(h:Blk w b A t)(D:w.grownBy w' row)(E:some b≠row):Blk w' b A t:=(D.block b h.lt E).trans h
theorem Vza (x:Shp)(A:Option Addr)(n cap:Nat)(B:Option Addr)(m Z:Nat)(w:World)(U:Sl Um 2 w All A n cap x.cats)(hb:Sl ZW 4 w All B m Z x.cabs) :
  Calls Tryz.prog 77 #[.agg #[.int .i64 x.legs,.int .i64 x.souls,.slice A n cap,.slice B m Z]] w fun e w'=>e=.returned (.int .i64 (ZJ x))∧yw w w':=by
 obtain⟨bD,Y,cats,J⟩:=x;simp only at U hb ⊢;have ac:=U.len;have an:=hb.len;obtain⟨r,D⟩:∃r,r=ZJ ⟨bD,Y,cats,J⟩:=⟨_,rfl⟩;rw[←D];have HR:=yh D;clear D;have aw:=yh ac;clear ac;have aI:=yh an;clear an;have HC:=yh U;clear U;have aT:=yh hb;clear hb
 go_enter Tryz.func77,Tryz.ntmps77
 go_upto_region 0 with(fail)
 go_cut [1,2] (fun p _ E=>∃g,p=.pointer (some ⟨g,0,none⟩)∧ShpAt E g bD Y A n cap B m Z∧yw w E)
 case first=>as_aux_lemma=>
  go_wp2_with fail
  go_meet
  exact⟨_,rfl,Za _ _,Qf _ _⟩
 obtain⟨g,rfl,hG,hb⟩:=hcut;obtain⟨g0,g1,g2,g3⟩:=hG.all
 have ai:=fun W=>USa bD W
 have au:=fun W=>UD Y 1 60 W
 unfold Xq at ai
 cases b1:Qc bD 1 7
 ·have D:r=3:=by rw[HR.out];unfold ZJ;rw[if_pos (.inl b1)]
  subst D;rw[b1]at ai;clear b1
  go_wp2_with fail
  refine(ai _).mono ?_;rintro e w9 ⟨rfl,rfl⟩
  go_wp2_with fail
  go_ret
  exact⟨rfl,hb⟩
 have a9:=yh b1;rw[b1]at ai;clear b1
 go_wp2_with fail
 refine(ai _).mono ?_;rintro e w9 ⟨rfl,rfl⟩;clear ai
 cases b2:Qc Y 1 60
 ·have D:r=3:=by rw[HR.out];unfold ZJ;rw[if_pos (.inr b2)]
  subst D;rw[b2]at au;clear b2
  go_wp2_with fail
  refine(au _).mono ?_;rintro e w9 ⟨rfl,rfl⟩
  go_wp2_with fail
  go_ret
  exact⟨rfl,hb⟩
 have ap:=HR.out;unfold ZJ at ap;rw[if_neg (by rw[a9.out,b2];simp)]at ap;simp only[aw.out,aI.out]at ap;have ay:=yh ap;clear ap;rw[b2]at au;clear b2
 go_wp2_with fail
 refine(au _).mono ?_;rintro e w9 ⟨rfl,rfl⟩;clear au
 by_cases h0:5 < n
 ·have D:r=2:=by rw[ay.out,if_pos (.inl h0)]
  subst D
  go_wp2_with fail
  go_ret
  exact⟨rfl,hb⟩
 by_cases h1:12 < m
 ·have D:r=2:=by rw[ay.out,if_pos (.inr h1)]
  subst D
  go_wp2_with fail
  go_ret
  exact⟨rfl,hb⟩
 have az:=yh (ay.out.trans (if_neg (by omega)))
 by_cases h2:n=0
 ·have D:r=5:=by rw[az.out,if_pos (.inl h2)]
  subst D;subst h2
  go_wp2_with fail
  go_ret
  exact⟨rfl,hb⟩
 by_cases h3:m=0
 ·have D:r=5:=by rw[az.out,if_pos (.inr h3)]
  subst D;subst h3
  go_wp2_with fail
  go_ret
  exact⟨rfl,hb⟩
 have aW:=yh (az.out.trans (if_neg (by omega)));have d1:decide ((5:Int) < (n:Int))=false:=decide_eq_false (by omega);have d2:decide ((12:Int) < (m:Int))=false:=decide_eq_false (by omega)
 have d3:((n:Int) == 0)=false:=by simpa using h2
 have d4:((m:Int) == 0)=false:=by simpa using h3
 go_upto_region 7 with(fail)
 go_cut [3,4] (fun p v E=>∃h,p=.pointer (some ⟨h,0,none⟩)∧v=.slice none 0 0∧g < h∧w.heap.size≤h∧Blk E h #[.slice none 0 0] 211∧ShpAt E g bD Y A n cap B m Z∧yw w E)
 case first=>as_aux_lemma=>
  go_wp2_with fail
  go_meet
  exact⟨_,rfl,rfl,hG.lt,hb.size,Za _ _,hG.bel (Qf _ _),hb.trans ((Qf _ _).mono hb.size)⟩
 obtain⟨h,rfl,rfl,bm,bs,hH,aA,a3⟩:=hcut;clear hG hb g0 g1 g2 g3 d1 d2 d3 d4;obtain⟨g0,g1,g2,g3⟩:=aA.all;have ac:=aw.out;have HH:=yh hH;have HG:=yh aA;have aE:=yh a3;have bo:=Blk.lt aA;have bq:=Blk.lt hH;obtain⟨W1,bj⟩:∃W1,W1=wc:=⟨_,rfl⟩;subst bj;obtain⟨BS,a2⟩:∃BS,BS=W1.heap.size:=⟨_,rfl⟩;clear hH aA a3
 have bp:h < BS:=by omega
 have aJ:=yh a2;clear a2
 go_upto_block 1 with(fail)
 go_cut [46] (fun _ E=>∃(v:Value) (xs:List Value),Blk E h #[v] 211∧Own VFa 1 9 E BS v (Qu cats) xs∧Below h W1 E)
 case first=>as_aux_lemma=>
  go_wp2_with fail
  go_loopg [46] n (fun gk i wr=>∃(k:Nat) (v:Value) (xs:List Value),k≤n∧n - k≤gk∧i=.int .i64 k∧Blk wr h #[v] 211∧Own VFa 1 9 wr BS v ((Qu cats).take k) xs∧Below h W1 wr)
  case atStart=>exact⟨0,_,[],Nat.zero_le _,by omega,rfl,HH.out,by rw[List.take_zero];exact Own.nil _ _ _ _ _,Below.refl _ _⟩
  case round=>
   obtain⟨k,v,xs,hk,bn,rfl,aa,F,hb⟩:=hrel
   by_cases hlt:k < n
   ·obtain⟨b,bv,x,c0,c1,rfl,hx,⟨A2,n2,bi,ao,br,av⟩,e0,e1⟩:=(HC.out.keep (w':=wr) (S':=All) ZB (by omega) (fun q _ V=>⟨(hb.block q (by omega)).trans (aE.out.block q V),trivial⟩)).at2 hlt
    simp only[List.cons.injEq,and_true]at ao;obtain⟨rfl,rfl⟩:=ao;have HT:=yh (show(Qu cats).take (k+1)=(Qu cats).take k++[x.name]from Qn (by unfold Qu;rw[List.getElem?_map,hx];rfl));have HL:=yh (show((Qu cats).take k).length=k by rw[List.length_take];unfold Qu;rw[List.length_map];omega);have aM:=yh av;have bA:=aa.lt;have bt:=yh hb.size
    have bu:BS≤wr.heap.size:=by have:=aJ.out;have:=bt.out;omega
    have aH:=yh aa;have ab:=yh F;clear hx br av aa F
    go_upto_region 10 with(fail)
    go_cut [6] (fun p E=>∃q,p=.pointer (some ⟨q,0,none⟩)∧Blk E q #[Zb x.name,.slice A2 n2 bi] 134∧yw wr E)
    case first=>as_aux_lemma=>
     go_wp2_with fail
     go_meet
     exact⟨_,rfl,Za _ _,Qf _ _⟩
    obtain⟨q,rfl,V,bC⟩:=hcut;have al:=hb.trans (bC.mono (by omega));have I:=al.alloc (by have:=bC.size;omega) (.cells #[Zb x.name] 9);have q0:wc.cell? ⟨q,0,none⟩=some (Zb x.name):=V.cell rfl;have aO:=aH.out.bel bC;have h0:wc.cell? ⟨h,0,none⟩=some v:=aO.cell rfl;have ak:=(ab.out.bel bC).bel (Qf wc (.cells #[Zb x.name] 9));have a6:=aO.bel (Qf wc (.cells #[Zb x.name] 9))
    have ar:BS≤(wc.alloc (.cells #[Zb x.name] 9)).heap.size:=by have:=aJ.out;have:=I.size;omega
    have ae:=yh ak;have aF:=yh I;have ba:=yh a6;clear hb bC al I aO ak a6 V
    go_wp2_with (at_builtin;refine QC (t:=211) (e:=9) (bytes:=16) rfl (.tmp 50) (.tmp 53) rfl Qhb Z0 rfl ae.out rfl (YBb _ All x.name 9 aM.out trivial) (fun _ _ U=>U) (by rw[HL.out];omega) (by omega) ar ?_;intro v' w' aS ad ah _;obtain⟨A5,n5,c5,rfl,_⟩:=ad.sl Z0;have aB:=ba.out.grown ah (fun e=>by have:=(ae.out.lt h e.symm).1;omega);have bx:w'.cell? ⟨h,0,none⟩=some v:=aB.cell rfl;have bz:=aB.free 0;have aG:=yh (aF.out.grown ah (Nat.le_trans (by omega) ar) (fun j hj=>by have:=(ae.out.lt j hj).1;omega));have bb:=yh aB;have ax:=yh ad;clear ah aB ad)
    go_roundg (n - (k+1))
    case measure=>omega
    case rel=>exact⟨k+1,_,aS,by omega,by omega,by go_num,bb.out.set _,by rw[HT.out];exact QY Xla ax.out (fun e=>by have:=(ax.out.lt h e).1;omega) _,aG.out.setCell (Nat.le_refl _) _⟩
   ·obtain rfl:k=n:=by omega
    have HT:=yh (show(Qu cats).take k=Qu cats from List.take_of_length_le (by unfold Qu;rw[List.length_map];omega));rw[HT.out]at F;have aH:=yh aa;have ab:=yh F;have HB:=yh hb;clear aa F hb
    go_wp2_with fail
    go_meet
    exact⟨v,xs,aH.out,ab.out,HB.out⟩
 obtain⟨v,xs,aa,F,hb⟩:=hcut;obtain⟨A3,O,c3,rfl,aQ⟩:=F.sl Z0
 obtain rfl:O=n:=by rw[←aQ.len];unfold Qu;rw[List.length_map];exact aw.out
 have a0:=yh (aQ.all Z0 (by omega));have aj:=yh (aE.out.trans (hb.mono bs));have aK:=yh (show ShpAt wc g bD Y A O cap B m Z from(hb.block g bm).trans HG.out);have aU:=yh aa;obtain⟨W2,bk⟩:∃W2,W2=wc:=⟨_,rfl⟩;subst bk;clear F aQ aa hb HG HH aE g0 g1 g2 g3 bo bq aJ bp;obtain⟨g0,g1,g2,g3⟩:=aK.out.all;have an:=aI.out
 go_upto_block 3 with(fail)
 go_cut [4,59] (fun v _ E=>∃(xs:List Value),Own VFa 1 9 E W2.heap.size v (Qt J) xs∧yw W2 E)
 case first=>as_aux_lemma=>
  go_wp2_with fail
  go_loopg [4,59] m (fun gk v i wr=>∃(k:Nat) (xs:List Value),k≤m∧m - k≤gk∧i=.int .i64 k∧Own VFa 1 9 wr W2.heap.size v ((Qt J).take k) xs∧yw W2 wr)
  case atStart=>exact⟨0,[],Nat.zero_le _,by omega,rfl,by rw[List.take_zero];exact Own.nil _ _ _ _ _,Below.refl _ _⟩
  case round=>
   obtain⟨k,xs,hk,bn,rfl,F,hb⟩:=hrel
   by_cases hlt:k < m
   ·obtain⟨b,bv,x,c0,c1,c2,bw,rfl,hx,⟨ao,av,_,_⟩,e0,e1,e2,e3⟩:=(aT.out.bel (aj.out.trans (hb.mono aj.out.size))).at4 hlt
    simp only[List.cons.injEq,and_true]at ao;obtain⟨rfl,rfl,rfl,rfl⟩:=ao;have HT:=yh (show(Qt J).take (k+1)=(Qt J).take k++[x.name]from Qn (by unfold Qt;rw[List.getElem?_map,hx];rfl));have HL:=yh (show((Qt J).take k).length=k by rw[List.length_take];unfold Qt;rw[List.length_map];omega);have aM:=yh av;have ab:=yh F;obtain⟨A5,n5,c5,rfl,_⟩:=F.sl Z0;have bu:=hb.size;clear hx av F
    go_upto_region 15 with(fail)
    go_cut [8] (fun p E=>∃q,p=.pointer (some ⟨q,0,none⟩)∧Blk E q #[Zb x.name,.int .i64 x.cat,.int .i64 x.ber,.bool x.lev] 136∧yw wr E)
    case first=>as_aux_lemma=>
     go_wp2_with fail
     go_meet
     exact⟨_,rfl,Za _ _,Qf _ _⟩
    obtain⟨q,rfl,V,bC⟩:=hcut;have al:=hb.trans (bC.mono (by omega));have I:=al.alloc (by have:=bC.size;omega) (.cells #[Zb x.name] 9);have q0:wc.cell? ⟨q,0,none⟩=some (Zb x.name):=V.cell rfl;have ak:=(ab.out.bel bC).bel (Qf wc (.cells #[Zb x.name] 9));have ar:W2.heap.size≤(wc.alloc (.cells #[Zb x.name] 9)).heap.size:=I.size;have ae:=yh ak;have aF:=yh I;clear hb bC al I ak V
    go_wp2_with (at_builtin;refine QC (t:=211) (e:=9) (bytes:=16) rfl (.tmp 63) (.tmp 66) rfl Qhb Z0 rfl ae.out rfl (YBb _ All x.name 9 aM.out trivial) (fun _ _ U=>U) (by rw[HL.out];omega) (by omega) ar ?_;intro v' w' aS ad ah _;obtain⟨A6,n6,c6,rfl,_⟩:=ad.sl Z0;have aG:=yh (aF.out.grown ah ar (fun j hj=>(ae.out.lt j hj).1));have ax:=yh ad;clear ah ad)
    go_roundg (m - (k+1))
    case measure=>omega
    case rel=>exact⟨k+1,aS,by omega,by omega,by go_num,by rw[HT.out];exact ax.out,aG.out⟩
   ·obtain rfl:k=m:=by omega
    have HT:=yh (show(Qt J).take k=Qt J from List.take_of_length_le (by unfold Qt;rw[List.length_map];omega));rw[HT.out]at F;have ab:=yh F;have HB:=yh hb;clear F hb
    go_wp2_with fail
    go_meet
    exact⟨xs,ab.out,HB.out⟩
 obtain⟨xs,F,hb⟩:=hcut;obtain⟨A4,n4,c4,rfl,aR⟩:=F.sl Z0
 obtain rfl:n4=m:=by rw[←aR.len];unfold Qt;rw[List.length_map];exact aI.out
 have Q:=yh (aj.out.trans (hb.mono aj.out.size));have bg:=yh (aR.all Z0 (by omega));have aL:=yh (aK.out.bel hb);have bh:=yh (a0.out.bel hb);have aN:=aU.out.bel hb;have a1:yJ wc h 0 A3 O c3:=aN.cell rfl;have aV:=yh aN;have ac:=aw.out;clear F aR hb aN aj a0 aK aU g0 g1 g2 g3;obtain⟨W3,bl⟩:∃W3,W3=wc:=⟨_,rfl⟩;subst bl
 have mv:∀{X:World} {p q:Nat} {v:Value},yw W3 X→W3.cell? ⟨p,q,none⟩=some v→X.cell? ⟨p,q,none⟩=some v:=fun hX U=>(World.cell?_of_block (a:=⟨_,_,none⟩) (hX.block _ (Ub U))).trans U
 have aC:=V9a A3 O c3 (Qu cats) 159 #[.pointer (some ⟨g,0,none⟩),.pointer (some ⟨h,0,none⟩)] (VY cats) W3 bh.out (enters_of Tryz.func159 (by kernel_rfl) rfl)
  (fun k w1 hk ag=>by simpa using Qrb bD Y A O cap cats B n4 Z g h k A3 c3 w1 (HC.out.bel (Q.out.trans (ag.mono Q.out.size))) (aL.out.bel ag) (mv ag (aV.out.cell rfl)) hk (by omega))
 have aD:=fun W (hX:yw W3 W)=>V9a A4 n4 c4 (Qt J) 162 #[.pointer (some ⟨g,0,none⟩)] (fun k=>Y4 O (J.getD k default)) W (bg.out.bel hX) (enters_of Tryz.func162 (by kernel_rfl) rfl)
  (fun k w1 hk ag=>by simpa using Qsb bD Y A O cap J B n4 Z g k w1 ((aT.out.bel (Q.out.trans (hX.mono Q.out.size))).bel ag) ((aL.out.bel hX).bel ag) hk (by omega))
 rw[show(Qu cats).length=O by unfold Qu;rw[List.length_map];exact ac]at aC;rw[show(Qt J).length=n4 by unfold Qt;rw[List.length_map];exact an]at aD;obtain⟨e1,aP⟩:∃e1,e1=Qh (nmE (Qu cats) (VY cats)) O:=⟨_,rfl⟩;obtain⟨e2,a7⟩:∃e2,e2=Qh (nmE (Qt J) (fun k=>Y4 O (J.getD k default))) n4:=⟨_,rfl⟩;obtain⟨q,V⟩:∃q,q=Yu (QS cats) O:=⟨_,rfl⟩;have aq:=aW.out;rw[←aP]at aC aq;rw[←a7]at aD aq;rw[←V]at aq;have be:=yh (fun(h0:e1=0)=>Zna (cats:=cats) (nms:=Qu cats) (by omega) (by rw[ac,←aP];exact h0));have aZ:=yh (fun W hW ho=>VCb bD Y A O cap cats (.slice B n4 Z) W hW ho);rw[←V]at aZ;have bc:=yh aC;clear aC;have bd:=yh aD;clear aD;have aX:=yh aq;clear aq;clear HR ay az aW aP a7 V mv ac an h0 h1 h2 h3 a1;have a1:yJ W3 h 0 A3 O c3:=aV.out.cell rfl
 go_wp2_with fail
 refine bc.out.mono ?_;rintro e w5 ⟨rfl,I⟩
 by_cases hz:e1=0
 ·subst hz
  obtain⟨g0,g1,g2,g3⟩:=(aL.out.bel I).all;have a8:=aZ.out w5 (HC.out.bel (Q.out.trans (I.mono Q.out.size))) (be.out rfl);have bf:=yh a8;clear a8;have aY:=yh (show r=if q=true then 4 else e2 from aX.out.trans (if_neg (by simp)))
  go_wp2_with fail
  refine bf.out.mono ?_;rintro e w6 ⟨rfl,a4⟩;have af:=I.trans (a4.mono I.size);clear g0 g1 g2 g3 I a4
  cases q
  ·have D:r=e2:=aY.out
   subst D
   go_wp2_with fail
   refine(bd.out _ af).mono ?_;rintro e w8 ⟨rfl,a5⟩;have am:=yh (Q.out.trans ((af.trans (a5.mono af.size)).mono Q.out.size));clear a5 af
   go_wp2_with fail
   go_ret
   exact⟨rfl,am.out⟩
  ·have D:r=4:=aY.out
   subst D;have am:=yh (Q.out.trans (af.mono Q.out.size));clear af
   go_wp2_with fail
   go_ret
   exact⟨rfl,am.out⟩
 ·have D:r=e1:=aX.out.trans (if_pos hz)
  subst D
  have bB:(r == 0)=false:=by simpa using hz
  have am:=yh (Q.out.trans (I.mono Q.out.size));clear hz I
  go_wp2_with fail
  go_ret
  exact⟨rfl,am.out⟩
def Zua (C:List (List Int)) (a b:Nat):Bool:=decide (a=b) || decide (Srv C a b)
structure OkShp (x:Shp):Prop where
 legs:Qc x.legs 1 7=true
 souls:Qc x.souls 1 60=true
 cats5:x.cats.length≤5
 cats0:0 < x.cats.length
 cabs12:x.cabs.length≤12
 cabs0:0 < x.cabs.length
 ok:OkCats x.cats
 rnd:∀k,¬Srv (QS x.cats) k k
 names:Qh (nmE (Qu x.cats) (VY x.cats)) x.cats.length=0
 cabs:Qh (nmE (Qt x.cabs) (fun k=>Y4 x.cats.length (x.cabs.getD k default))) x.cabs.length=0
theorem QJa (cats:List Cat):(QS cats).length=cats.length:=by unfold QS;rw[List.length_map]
theorem U6a {x:Shp}(h:ZJ x=0):OkShp x:=by
 unfold ZJ at h
 by_cases h1:Qc x.legs 1 7=false∨Qc x.souls 1 60=false
 ·rw[if_pos h1]at h;omega
 rw[if_neg h1]at h
 by_cases h2:5 < x.cats.length∨12 < x.cabs.length
 ·rw[if_pos h2]at h;omega
 rw[if_neg h2]at h
 by_cases h3:x.cats.length=0∨x.cabs.length=0
 ·rw[if_pos h3]at h;omega
 rw[if_neg h3]at h
 by_cases h4:Qh (nmE (Qu x.cats) (VY x.cats)) x.cats.length≠0
 ·rw[if_pos h4]at h;exact absurd h h4
 rw[if_neg h4]at h
 by_cases h5:Yu (QS x.cats) x.cats.length=true
 ·rw[if_pos h5]at h;omega
 rw[if_neg h5]at h;have A:=Zna (cats:=x.cats) (nms:=Qu x.cats) (by omega) (by simpa using h4);refine⟨?_,?_,by omega,by omega,by omega,by omega,A,fun k=>Vzb A.inC (by rw[QJa];simpa using h5) k,by simpa using h4,h⟩
 ·cases hh:Qc x.legs 1 7
  ·exact absurd (.inl hh) h1
  ·rfl
 ·cases hh:Qc x.souls 1 60
  ·exact absurd (.inr hh) h1
  ·rfl
theorem Y5b (F I:Int)(A:Option Addr)(n cap:Nat)(cats:List Cat)(J:Value)(a b:Nat)(w:World)(h:Sl Um 2 w All A n cap cats)(Z:OkCats cats)(ha:a < n)(hb:b < n) :
  Calls Tryz.prog 173 #[.agg #[.int .i64 F,.int .i64 I,.slice A n cap,J],.int .i64 (a:Int),.int .i64 (b:Int)] w fun e w'=>e=.returned (.bool (Zua (QS cats) a b))∧yw w w':=by
 have hl:=h.len;have h5:=Z.five
 have aj:n≤5:=by omega
 have al:=fun W hW=>VPa F I A n cap cats J b W hW Z hb
 have ac:=yh al;clear al;have af:=yh h;obtain⟨r,hr⟩:∃r,r=Zua (QS cats) a b:=⟨_,rfl⟩;rw[←hr];have U:=yh hr;clear hr;clear h hl h5
 go_enter Tryz.func173,Tryz.ntmps173
 go_upto_region 0 with(fail)
 go_cut [3,6] (fun p _ wx=>∃g,p=.pointer (some ⟨g,0,none⟩)∧Blk wx g #[.int .i64 F,.int .i64 I,.slice A n cap,J] 25∧yw w wx)
 case first=>as_aux_lemma=>
  go_wp2_with fail
  go_meet
  exact⟨_,rfl,Za _ _,Qf _ _⟩
 obtain⟨g,rfl,D,E⟩:=hcut;have c0:yI wc g 0 F:=D.cell rfl;have c1:yI wc g 1 I:=D.cell rfl;have c2:yJ wc g 2 A n cap:=D.cell rfl;have c3:wc.cell? ⟨g,3,none⟩=some J:=D.cell rfl
 by_cases he:a=b
 ·subst he
  have hr:r=true:=by rw[U.out];unfold Zua;rw[decide_eq_true rfl];rfl
  subst hr
  go_wp2_with fail
  go_ret
  exact⟨rfl,E⟩
 ·have ak:((a:Int) == (b:Int))=false:=by rw[beq_eq_false_iff_ne];omega
  have ae:=yh (show r=decide (Srv (QS cats) a b)by rw[U.out];unfold Zua;rw[decide_eq_false he];rfl);have Y:=ac.out wc (af.out.bel E);have ad:=yh Y;clear Y;clear he
  go_wp2_with fail
  refine ad.out.mono ?_;rintro e w2 ⟨G,m,rfl,aa,ai,ab,ah,X⟩;have e0:=aa.cell (i:=a) (by omega);obtain⟨v,Q⟩:∃v,v=m.getD a 0:=⟨_,rfl⟩;rw[←Q]at e0;have O:=ab a;rw[←Q]at O;have ag:=E.trans (X.mono E.size);have V:=yh O;clear O;clear ab ah aa X Q
  go_wp2_with fail
  go_ret
  refine⟨ZN ?_,ag⟩;rw[ae.out]
  by_cases h0:0 < v
  ·rw[decide_eq_true h0,decide_eq_true (V.out.1 h0)]
  ·rw[decide_eq_false h0,decide_eq_false (fun h=>h0 (V.out.2 h))]
def Vxb (n:Nat):Cod Nat:=fun _ _ b cs=>cs=[.slice (some ⟨b,0,none⟩) n n]
theorem Xha (n:Nat):VV (Vxb n):=fun _ _ _ _ _ _ h=>h
theorem YI (n:Nat):Good (Vxb n):=.of_flat (Xha n) fun h u A=>by cases h;simp at A;subst A;rfl
instance ptrK (n:Nat):CodK (Vxb n) 1:=⟨YI n,by omega⟩
def VH (n:Nat) (f:Nat→Bool):Array Value:=((List.range n).map (fun b=>Value.bool (f b))).toArray
theorem QPc {n:Nat}{f:Nat→Bool}{j:Nat}(h:j < n):(VH n f)[j]? = some (.bool (f j)):=by
 unfold VH;rw[List.getElem?_toArray,List.getElem?_map,List.getElem?_range h];rfl
theorem Yrb {n:Nat}{f:Nat→Bool}{j:Nat}(v:Bool):(VH n f).set! j (.bool v)=VH n (fun b=>if b=j then v else f b):=by
 unfold VH
 apply Array.ext'
 simp only[Array.set!_eq_setIfInBounds,List.setIfInBounds_toArray]
 apply List.ext_getElem?
 intro i;rw[List.getElem?_set];simp only[List.length_map,List.length_range,List.getElem?_map]
 by_cases h:j=i
 ·subst h
  by_cases hj:j < n
  ·rw[if_pos rfl,if_pos hj,List.getElem?_range hj];simp
  ·rw[if_pos rfl,if_neg hj,List.getElem?_eq_none (by simpa using hj)];rfl
 ·rw[if_neg h]
  cases hr:(List.range n)[i]? with
  | none=>rfl
  | some b=>
   have D:b=i:=by
    have A:=(List.getElem?_eq_some_iff.1 hr).2
    simpa using A.symm
   subst D;simp only[Option.map_some];rw[if_neg (fun e=>h e.symm)]
theorem Qka {n:Nat}{f g:Nat→Bool}(h:∀j,j < n→f j=g j):VH n f=VH n g:=by
 unfold VH
 congr 1
 exact List.map_congr_left fun j A=>by rw[h j (List.mem_range.1 A)]
theorem Vqb {l:List Nat}(h:l.Nodup){i j x:Nat}(Q:l[i]? = some x)(U:l[j]? = some x):i=j:=by
 have J:=List.pairwise_iff_getElem.1 h;obtain⟨F,D⟩:=List.getElem?_eq_some_iff.1 Q;obtain⟨I,E⟩:=List.getElem?_eq_some_iff.1 U
 rcases Nat.lt_trichotomy i j with A | O | A
 ·exact absurd (D.trans E.symm) (J i j F I A)
 ·exact O
 ·exact absurd (E.trans D.symm) (J j i I F A)
structure TabB (w:World) (base n:Nat) (v:Value) (bls:List Nat) (T:Nat→Nat→Bool):Prop where
 own:∃xs,Own (Vxb n) 1 205 w base v bls xs
 nod:bls.Nodup
 row:∀(a b:Nat),bls[a]? = some b→base≤b∧some b≠v.ownBlock∧Blk w b (VH n (T a)) 4
theorem TabB.bel {w w':World}{base n:Nat}{v:Value}{E:List Nat}{T:Nat→Nat→Bool}(h:TabB w base n v E T)(F:yw w w'):TabB w' base n v E T:=by
 obtain⟨⟨xs,J⟩,I,A⟩:=h;exact⟨⟨xs,J.bel F⟩,I,fun a b D=>⟨(A a b D).1,(A a b D).2.1,(A a b D).2.2.bel F⟩⟩
theorem TabB.congr {w:World}{base n:Nat}{v:Value}{D:List Nat}{T T':Nat→Nat→Bool}(h:TabB w base n v D T)(O:∀a j,a < D.length→j < n→T a j=T' a j):TabB w base n v D T':=by
 obtain⟨F,I,E⟩:=h;refine⟨F,I,fun a b A=>⟨(E a b A).1,(E a b A).2.1,?_⟩⟩;rw[←Qka (fun j J=>O a j (List.getElem?_eq_some_iff.1 A).1 J)];exact(E a b A).2.2
theorem TabB.form {w:World}{base n:Nat}{v:Value}{A:List Nat}{T:Nat→Nat→Bool}(h:TabB w base n v A T)(U:0 < A.length):∃o cap,v=.slice (some ⟨o,0,none⟩) A.length cap∧base≤o∧o < w.heap.size∧A.length≤cap:=by
 obtain⟨⟨xs,J⟩,_,_⟩:=h
 rcases J.row.2 with⟨D,Q⟩ | ⟨g,cap,O,D,E,F,I,_⟩
 ·omega
 ·exact⟨g,cap,D,E,(Array.getElem?_eq_some_iff.1 F).1,I⟩
theorem TabB.outer {w:World}{base n m cap o:Nat}{D:List Nat}{T:Nat→Nat→Bool}(h:TabB w base n (.slice (some ⟨o,0,none⟩) m cap) D T){a b:Nat}(E:D[a]? = some b):w.cell? ⟨o,a,none⟩=some (.slice (some ⟨b,0,none⟩) n n):=by
 obtain⟨⟨xs,O⟩,_,_⟩:=h;obtain⟨A,X,U,J,Q⟩:=O.sl (YI n)
 injection J with e1 e2 e3
 subst e1 e2 e3;obtain⟨b',Y,V,Z,_,F,W,I⟩:=Q.rd a b E
 injection Z with Z
 injection Z with h1 h2 _
 subst h1 h2
 cases F
 simpa using I 0 _ rfl
theorem TabB.inner {w:World}{base n:Nat}{v:Value}{A:List Nat}{T:Nat→Nat→Bool}(h:TabB w base n v A T){a b j:Nat}(D:A[a]? = some b)(E:j < n):w.cell? ⟨b,j,none⟩=some (.bool (T a j)):=
 (h.row a b D).2.2.cell (QPc E)
theorem TabB.free {w:World}{base n:Nat}{v:Value}{A:List Nat}{T:Nat→Nat→Bool}(h:TabB w base n v A T){a b:Nat}(D:A[a]? = some b)(j:Nat):w.frozen? ⟨b,j,none⟩=false:=(h.row a b D).2.2.free j
theorem TabB.set {w:World}{base n:Nat}{v:Value}{I:List Nat}{T:Nat→Nat→Bool}(h:TabB w base n v I T){i D:Nat}(F:I[i]? = some D)(j:Nat)(u:Bool) :
  TabB (w.setCell ⟨D,j,none⟩ (.bool u)) base n v I (fun a b=>if a=i∧b=j then u else T a b):=by
 obtain⟨⟨xs,Q⟩,J,E⟩:=h;refine⟨⟨xs,QY (Xha n) Q (fun e=>(E i D F).2.1 e.symm) _⟩,J,fun a b A=>⟨(E a b A).1,(E a b A).2.1,?_⟩⟩
 by_cases he:a=i
 ·subst he
  obtain rfl:b=D:=by rw[A]at F;injection F
  have:=Blk.set (j:=j) (E a b A).2.2 (.bool u);rw[Yrb]at this;rw[Qka (g:=fun b=>if b=j then u else T a b) (fun k _=>by simp)];exact this
 ·have O:D≠b:=fun e=>he (by
   subst e;exact Vqb J A F)
  rw[Qka (g:=T a) (fun k _=>by simp[he])];exact(E a b A).2.2.other O _
theorem TabB.snoc {w w':World}{base n:Nat}{v v':Value}{D:List Nat}{T:Nat→Nat→Bool}{b:Nat}{xs:List Value}(h:TabB w base n v D T)(ho:Own (Vxb n) 1 205 w' base v' (D++[b]) xs)(Y:w.grownBy w' v.ownBlock)
  (U:v'.ownBlock=v.ownBlock∨v'.ownBlock=some w.heap.size) (V:base≤b) (W:b < w.heap.size) (X:some b≠v.ownBlock) (Z:b∉D) (aa:Blk w b (VH n (T D.length)) 4):TabB w' base n v' (D++[b]) T:=by
 obtain⟨_,O,F⟩:=h;refine⟨⟨xs,ho⟩,?_,fun a c A=>?_⟩
 ·rw[List.nodup_append]
  refine⟨O,by simp,fun x hx y J=>?_⟩;simp only[List.mem_singleton]at J;subst J;rintro rfl;exact Z hx
 ·have E:base≤c∧c < w.heap.size∧some c≠v.ownBlock∧Blk w c (VH n (T a)) 4:=by
   by_cases hlt:a < D.length
   ·rw[List.getElem?_append_left hlt]at A
    exact⟨(F a c A).1,(F a c A).2.2.lt,(F a c A).2⟩
   ·rw[List.getElem?_append_right (by omega)]at A
    have Q:a - D.length=0:=by have:=(List.getElem?_eq_some_iff.1 A).1;simp at this;omega
    rw[Q]at A
    simp at A
    subst A
    obtain rfl:a=D.length:=by omega
    exact⟨V,W,X,aa⟩
  refine⟨E.1,?_,E.2.2.2.grown Y E.2.2.1⟩
  rcases U with e | e<;>rw[e]
  ·exact E.2.2.1
  ·intro I;injection I with I;have:=E.2.1;omega
def tpF (C:List (List Int)) (b k a b':Nat):Bool:=if b' < b then decide ((a:Int)∈C.getD b' [])else if b'=b then decide ((a:Int)∈(C.getD b []).take k)else false
theorem YRb (C:List (List Int))(a b:Nat):tpF C 0 0 a b=false:=by
 unfold tpF;rw[if_neg (by omega)]
 split<;>simp
theorem YPb (C:List (List Int))(b:Nat)(a b':Nat):tpF C b (C.getD b []).length a b'=tpF C (b+1) 0 a b':=by
 unfold tpF
 by_cases h1:b' < b
 ·rw[if_pos h1,if_pos (by omega)]
 ·rw[if_neg h1]
  by_cases h2:b'=b
  ·subst h2;rw[if_pos rfl,if_pos (by omega),List.take_length]
  ·rw[if_neg h2,if_neg (by omega)]
   split<;>simp
theorem YOb (C:List (List Int))(a b:Nat):tpF C C.length 0 a b=Q9 C 0 a b:=by
 unfold tpF Q9
 by_cases h1:b < C.length
 ·rw[if_pos h1]
 ·rw[if_neg h1,U2 (C:=C) (b:=C.length) (by omega),U2 (C:=C) (b:=b) (by omega)]
  split<;>simp
theorem YQb (C:List (List Int))(b k h:Nat)(A:(C.getD b [])[k]? = some (h:Int))(a b':Nat):(if a=h∧b'=b then true else tpF C b k a b')=tpF C b (k+1) a b':=by
 unfold tpF
 by_cases h1:b' < b
 ·rw[if_pos h1,if_pos h1,if_neg (by omega)]
 ·rw[if_neg h1,if_neg h1]
  by_cases h2:b'=b
  ·subst h2
   rw[if_pos rfl,if_pos rfl,Qn A]
   by_cases h3:a=h
   ·subst h3;rw[if_pos ⟨rfl,rfl⟩];simp
   ·rw[if_neg (fun e=>h3 e.1)]
    have:¬(a:Int)=(h:Int):=by omega
    simp[this]
  ·rw[if_neg h2,if_neg h2,if_neg (fun e=>h2 e.2)]
def twF (C:List (List Int)) (m a b a' b':Nat):Bool:=if a' < a∨(a'=a∧b' < b)then Q9 C (m+1) a' b' else Q9 C m a' b'
theorem YZb (C:List (List Int))(m a b:Nat):twF C m 0 0 a b=Q9 C m a b:=by unfold twF;rw[if_neg (by omega)]
theorem YWb (C:List (List Int))(m a n A b':Nat)(h:b' < n):twF C m a n A b'=twF C m (a+1) 0 A b':=by
 unfold twF
 by_cases h1:A < a+1
 ·rw[if_pos (by omega),if_pos (by omega)]
 ·rw[if_neg (by omega),if_neg (by omega)]
theorem YVb (C:List (List Int))(m n A b':Nat)(h:A < n):twF C m n 0 A b'=Q9 C (m+1) A b':=by unfold twF;rw[if_pos (by omega)]
theorem Q6c (C:List (List Int))(m a b x:Nat):twF C m a b x m=Q9 C m x m:=by unfold twF;split;(exact Q4c C m x);rfl
theorem Q7c (C:List (List Int))(m a b y:Nat):twF C m a b m y=Q9 C m m y:=by unfold twF;split;(exact Q5c C m y);rfl
theorem YXb (C:List (List Int))(m a b:Nat):twF C m a b a b=Q9 C m a b:=by unfold twF;rw[if_neg (by omega)]
theorem YYb (C:List (List Int))(m a b A b':Nat):(if A=a∧b'=b then (Q9 C m a b || (Q9 C m a m && Q9 C m m b))else twF C m a b A b')=twF C m a (b+1) A b':=by
 unfold twF
 by_cases h1:A=a∧b'=b
 ·rw[if_pos h1,if_pos (by omega)]
  obtain⟨rfl,rfl⟩:=h1
  rfl
 ·rw[if_neg h1]
  by_cases h2:A < a∨(A=a∧b' < b)
  ·rw[if_pos h2,if_pos (by omega)]
  ·rw[if_neg h2,if_neg (by omega)]
theorem XYb (W:World):(Instr.makeSlice 205 (.int .i64 0) (.int .i64 0)).run Tryz.prog W=.ok (.slice (some ⟨W.heap.size,0,none⟩) 0 0) (W.alloc (.cells (VH 0 fun _=>false) 4)):=by kernel_rfl
theorem XZb (W:World):(Instr.makeSlice 205 (.int .i64 1) (.int .i64 1)).run Tryz.prog W=.ok (.slice (some ⟨W.heap.size,0,none⟩) 1 1) (W.alloc (.cells (VH 1 fun _=>false) 4)):=by kernel_rfl
theorem X0b (W:World):(Instr.makeSlice 205 (.int .i64 2) (.int .i64 2)).run Tryz.prog W=.ok (.slice (some ⟨W.heap.size,0,none⟩) 2 2) (W.alloc (.cells (VH 2 fun _=>false) 4)):=by kernel_rfl
theorem X1b (W:World):(Instr.makeSlice 205 (.int .i64 3) (.int .i64 3)).run Tryz.prog W=.ok (.slice (some ⟨W.heap.size,0,none⟩) 3 3) (W.alloc (.cells (VH 3 fun _=>false) 4)):=by kernel_rfl
theorem X2b (W:World):(Instr.makeSlice 205 (.int .i64 4) (.int .i64 4)).run Tryz.prog W=.ok (.slice (some ⟨W.heap.size,0,none⟩) 4 4) (W.alloc (.cells (VH 4 fun _=>false) 4)):=by kernel_rfl
theorem X3b (W:World):(Instr.makeSlice 205 (.int .i64 5) (.int .i64 5)).run Tryz.prog W=.ok (.slice (some ⟨W.heap.size,0,none⟩) 5 5) (W.alloc (.cells (VH 5 fun _=>false) 4)):=by kernel_rfl
theorem Qwc (n:Nat)(A:n≤5)(W:World):(Instr.makeSlice 205 (.int .i64 n) (.int .i64 n)).run Tryz.prog W=.ok (.slice (some ⟨W.heap.size,0,none⟩) n n) (W.alloc (.cells (VH n fun _=>false) 4)):=by
 have h:n=0∨n=1∨n=2∨n=3∨n=4∨n=5:=by omega
 rcases h with rfl | rfl | rfl | rfl | rfl | rfl
 ·exact XYb W
 ·exact XZb W
 ·exact X0b W
 ·exact X1b W
 ·exact X2b W
 ·exact X3b W
theorem Ylb:ElemOf Tryz.prog 203 205 1 24:=.mk' Tryz.underlying203 (z:=.slice none 0 0) (by kernel_rfl) rfl (by omega)
theorem ZMc (n:Nat)(w:World)(S:Nat→Prop)(b:Nat)(t:TypeId)(A:S w.heap.size):Sl (Vxb n) 1 (w.alloc (.cells #[.slice (some ⟨b,0,none⟩) n n] t)) S (some ⟨w.heap.size,0,none⟩) 1 1 [b]:=
 Sl.lit1 w S t b [.slice (some ⟨b,0,none⟩) n n] rfl A
theorem X9 (aL aM:Int)(A:Option Addr)(n cap:Nat)(cats:List Cat)(vc:Value)(w:World)(h:Sl Um 2 w All A n cap cats)(ho:OkCats cats)(bq:0 < n) :
  Calls Tryz.prog 144 #[.agg #[.int .i64 aL,.int .i64 aM,.slice A n cap,vc]] w fun e w'=>∃D o J E,e=.returned (.slice (some ⟨o,0,none⟩) n J)∧E.length=n∧
   TabB w' D n (.slice (some ⟨o,0,none⟩) n J) E (Q9 (QS cats) n)∧yw w w':=by
 have hl:=h.len;have h5:=ho.five
 have a1:n≤5:=by omega
 have bg:=fun W=>Qwc n a1 W
 have aT:=yh h;have av:=yh (show(QS cats).length=n by rw[QJa];exact hl);have HO:=yh ho;clear ho;clear h h5 hl
 go_enter Tryz.func144,Tryz.ntmps144
 go_upto_region 0 with(fail)
 go_cut [1,2] (fun p _ V=>∃g,p=.pointer (some ⟨g,0,none⟩)∧Blk V g #[.int .i64 aL,.int .i64 aM,.slice A n cap,vc] 25∧yw w V)
 case first=>as_aux_lemma=>
  go_wp2_with fail
  go_meet
  exact⟨_,rfl,Za _ _,Qf _ _⟩
 obtain⟨g,rfl,hG,I⟩:=hcut;have g2:yJ wc g 2 A n cap:=hG.cell rfl;have HG:=yh hG;have HB:=yh I;obtain⟨Q,aY⟩:∃Q,Q=wc:=⟨_,rfl⟩;subst aY;clear hG I;obtain⟨D,aB⟩:∃D,D=Q.heap.size:=⟨_,rfl⟩;have al:=yh aB;have aO:=yh (show Below D Q Q from Below.refl _ _);clear aB
 go_upto_block 0 with(fail)
 go_cut [4,5] (fun v _ V=>∃o J E,v=.slice (some ⟨o,0,none⟩) n J∧E.length=n∧TabB V D n v E (fun _ _=>false)∧Below D Q V)
 case first=>as_aux_lemma=>
  go_wp2_with fail
  go_loopg [4,5] n (fun gk v i wr=>∃(k:Nat) (E:List Nat),k≤n∧n - k≤gk∧i=.int .i64 k∧E.length=k∧TabB wr D n v E (fun _ _=>false)∧Below D Q wr)
  case atStart=>exact⟨0,[],Nat.zero_le _,by omega,rfl,rfl,⟨⟨[],Own.nil _ _ _ _ _⟩,by simp,by simp⟩,aO.out⟩
  case round=>
   obtain⟨k,E,hk,a0,rfl,Y,hT,I⟩:=hrel
   by_cases hlt:k < n
   ·obtain⟨xs,ah⟩:=hT.own
    obtain⟨A5,n5,c5,rfl,_⟩:=ah.sl (YI n)
    have aJ:D≤wr.heap.size:=by have:=al.out;have:=I.size;omega
    have ar:=ZMc n (wr.alloc (.cells (VH n fun _=>false) 4)) All wr.heap.size 205 trivial;rw[show(wr.alloc (.cells (VH n fun _=>false) 4)).heap.size=wr.heap.size+1 by simp]at ar;have F:=Zh wr (.cells (VH n fun _=>false) 4) (.cells #[.slice (some ⟨wr.heap.size,0,none⟩) n n] 205);have aC:=ah.bel F;have ab:=yh (hT.bel F);have ak:=yh (I.trans (F.mono aJ));have aH:=QA wr (.cells (VH n fun _=>false) 4) (.cells #[.slice (some ⟨wr.heap.size,0,none⟩) n n] 205);have aS:=yh aH;have ax:=yh (ah.lt)
    have aQ:=yh (show wr.heap.size∉E from fun hm=>by
     obtain⟨a,ha,he⟩:=List.getElem_of_mem hm;have:=(hT.row a wr.heap.size (by rw[List.getElem?_eq_getElem ha,he])).2.2.lt;omega)
    have aI:D≤((wr.alloc (.cells (VH n fun _=>false) 4)).alloc (.cells #[.slice (some ⟨wr.heap.size,0,none⟩) n n] 205)).heap.size:=by simp;omega
    have aR:=yh aC;have aU:=yh ar;have bn:=yh Y;clear ah aC F hT I aH ar Y
    go_wp2_with (at_builtin;refine QC (t:=203) (e:=205) (bytes:=24) rfl (.tmp 19) (.tmp 22) rfl Ylb (YI n) rfl aR.out rfl aU.out (fun _ _ hc=>hc) (by rw[bn.out];omega) (by omega) aI ?_;intro v' w' br aG ap aD;have O:=yh (ab.out.snoc aG ap aD aJ (by simp;omega) (fun e=>by have:=(ax.out _ e.symm).2;omega) aQ.out aS.out);have U:=yh (ak.out.grown ap aI (fun j hj=>(ax.out j hj).1));clear aG ap aD)
    go_roundg (n - (k+1))
    case measure=>omega
    case rel=>exact⟨k+1,E++[wr.heap.size],by omega,by omega,by go_num,by rw[List.length_append,bn.out];rfl,O.out,U.out⟩
   ·obtain rfl:k=n:=by omega
    obtain⟨o,J,rfl,_⟩:=hT.form (by omega);have HT:=yh hT;have U:=yh I;have bn:=yh Y;clear hT I Y
    go_wp2_with fail
    go_meet
    exact⟨o,J,E,by rw[bn.out],bn.out,HT.out,U.out⟩
 obtain⟨o,J,E,rfl,Y,hT,I⟩:=hcut;have az:=yh (hT.congr (T':=tpF (QS cats) 0 0) (fun a j _ _=>(YRb _ a j).symm));have au:=yh I;have bn:=yh Y;clear hT I Y;have aA:=yh (show w.heap.size≤D by rw[al.out];exact HB.out.size);have am:=yh (fun X (hX:Below D Q X)=>aT.out.bel (HB.out.trans (hX.mono aA.out)));have aw:=yh (fun X (hX:Below D Q X)=>(show X.cell? ⟨g,2,none⟩=some (.slice A n cap)from(World.cell?_of_block (a:=⟨g,2,none⟩) (hX.block g (by rw[al.out];exact HG.out.lt))).trans g2));have an:=yh (fun(b:Nat) (x:Cat) (hx:cats[b]? = some x)=>Zha cats b hx)
 have ay:=yh (show ∀(b k:Nat) (x:Cat) (y:Int),cats[b]? = some x→x.high[k]? = some y→0≤y∧y < n from fun b k x y hx hy=>by
  have:=HO.out.inC.getD (b:=b) (h:=y) (by rw[Zha cats b hx];exact List.mem_of_getElem? hy);rw[av.out]at this;exact this)
 have Y:=bn.out;clear g2
 go_upto_block 2 with(fail)
 go_cut [6,7] (fun _ _ V=>TabB V D n (.slice (some ⟨o,0,none⟩) n J) E (Q9 (QS cats) 0)∧Below D Q V)
 case first=>as_aux_lemma=>
  go_wp2_with fail
  go_loopg [6,7] n (fun gk i _ wr=>∃b:Nat,b≤n∧n - b≤gk∧i=.int .i64 b∧TabB wr D n (.slice (some ⟨o,0,none⟩) n J) E (tpF (QS cats) b 0)∧Below D Q wr)
  case atStart=>exact⟨0,Nat.zero_le _,by omega,rfl,az.out,au.out⟩
  case round=>
   obtain⟨b,I,aZ,rfl,hT,F⟩:=hrel;have HT:=yh hT;have aa:=yh F;clear hT F
   by_cases hlt:b < n
   ·obtain⟨bb,bj,x,c0,c1,rfl,hx,⟨A2,n2,ba,aE,aq,a2⟩,e0,e1⟩:=(am.out _ aa.out).at2 hlt
    simp only[List.cons.injEq,and_true]at aE;obtain⟨rfl,rfl⟩:=aE;have HX:=yh hx;have aP:=yh aq.len
    have bi:n2≤5:=by rw[←aq.len];exact HO.out.few x (List.mem_of_getElem? hx)
    clear aq a2 hx e0 e1
    go_wp2_with fail
    go_loopg [7] n2 (fun gk i wr=>∃k:Nat,k≤n2∧n2 - k≤gk∧i=.int .i64 k∧TabB wr D n (.slice (some ⟨o,0,none⟩) n J) E (tpF (QS cats) b k)∧Below D Q wr)
    case atStart=>exact⟨0,Nat.zero_le _,by omega,rfl,HT.out,aa.out⟩
    case round=>
     obtain⟨k,hk,a0,rfl,hT,F⟩:=hrel;have q2:=aw.out _ F;obtain⟨a7,bk,x',a8,a9,ao,ad,⟨a3,aj,bp,aF,ae,aK⟩,e0,e1⟩:=(am.out _ F).at2 hlt
     injection ao with ao
     injection ao with h1 h2 _
     subst h1 h2;have ai:=HX.out;rw[ad]at ai
     injection ai with ai
     subst ai;simp only[List.cons.injEq,and_true]at aF;obtain⟨rfl,rfl⟩:=aF
     obtain rfl:aj=n2:=by rw[←ae.len,aP.out]
     have a6:=yh hT;have af:=yh F
     by_cases hkn:k < aj
     ·obtain⟨b3,bl,y,d0,rfl,hy,⟨hd,_⟩,f0⟩:=ae.at1 hkn
      simp only[List.cons.injEq,and_true]at hd;obtain rfl:=hd;obtain⟨y0,y1⟩:=ay.out b k x' y ad hy;obtain⟨h,rfl⟩:=Int.eq_ofNat_of_zero_le y0
      have bf:h < n:=by omega
      obtain⟨bh,ac⟩:∃bh,E[h]? = some bh:=⟨_,List.getElem?_eq_getElem (by omega)⟩;have r0:=hT.outer ac;have r1:=hT.inner ac (j:=b) hlt;have r2:=hT.free ac b;have O:=yh ((hT.set ac b true).congr (T':=tpF (QS cats) b (k+1)) (fun a j _ _=>YQb (QS cats) b k h (by rw[an.out b x' ad];exact hy) a j));have U:=yh (F.setCell (p:=⟨bh,b,none⟩) (hT.row h bh ac).1 (.bool true));clear hT F hy ac aK ae ad
      go_wp2_with fail
      go_roundg (aj - (k+1))
      case measure=>omega
      case rel=>exact⟨k+1,by omega,by omega,by go_num,O.out,U.out⟩
     ·obtain rfl:k=aj:=by omega
      have O:=yh (hT.congr (T':=tpF (QS cats) (b+1) 0) (fun a j _ _=>by
       have:=YPb (QS cats) b a j;rw[an.out b x' ad,ae.len]at this;exact this))
      clear hT F aK ae ad
      go_wp2_with fail
      go_roundg (n - (b+1))
      case measure=>omega
      case rel=>exact⟨b+1,by omega,by omega,by go_num,O.out,af.out⟩
   ·obtain rfl:b=n:=by omega
    have aW:=yh (HT.out.congr (T':=Q9 (QS cats) 0) (fun a j _ _=>by have:=YOb (QS cats) a j;rw[av.out]at this;exact this))
    go_wp2_with fail
    go_meet
    exact⟨aW.out,aa.out⟩
 obtain⟨hT,I⟩:=hcut;have aV:=yh hT;have aN:=yh I;clear hT I az au an ay am aw
 go_upto_block 6 with(fail)
 go_cut [8,9,10] (fun _ _ _ V=>TabB V D n (.slice (some ⟨o,0,none⟩) n J) E (Q9 (QS cats) n)∧Below D Q V)
 case first=>as_aux_lemma=>
  go_wp2_with fail
  go_loopg [8,9,10] n (fun gk i _ _ wr=>∃m:Nat,m≤n∧n - m≤gk∧i=.int .i64 m∧TabB wr D n (.slice (some ⟨o,0,none⟩) n J) E (Q9 (QS cats) m)∧Below D Q wr)
  case atStart=>exact⟨0,Nat.zero_le _,by omega,rfl,aV.out,aN.out⟩
  case round=>
   obtain⟨m,hm,be,rfl,hT,F⟩:=hrel;have HT:=yh (hT.congr (T':=twF (QS cats) m 0 0) (fun a j _ _=>(YZb _ _ _ _).symm));have aX:=yh hT;have aa:=yh F;clear hT F
   by_cases hmn:m < n
   ·obtain⟨bm,ag⟩:∃bm,E[m]? = some bm:=⟨_,List.getElem?_eq_getElem (by omega)⟩
    go_wp2_with fail
    go_loopg [9,10] n (fun gk i _ wr=>∃a:Nat,a≤n∧n - a≤gk∧i=.int .i64 a∧TabB wr D n (.slice (some ⟨o,0,none⟩) n J) E (twF (QS cats) m a 0)∧Below D Q wr)
    case atStart=>exact⟨0,Nat.zero_le _,by omega,rfl,HT.out,aa.out⟩
    case round=>
     obtain⟨a,ha,bd,rfl,hT,F⟩:=hrel;have ab:=yh hT;have af:=yh F;clear hT F
     by_cases han:a < n
     ·obtain⟨Z,bo⟩:∃Z,E[a]? = some Z:=⟨_,List.getElem?_eq_getElem (by omega)⟩
      go_wp2_with fail
      go_loopg [10] n (fun gk i wr=>∃b:Nat,b≤n∧n - b≤gk∧i=.int .i64 b∧TabB wr D n (.slice (some ⟨o,0,none⟩) n J) E (twF (QS cats) m a b)∧Below D Q wr)
      case atStart=>exact⟨0,Nat.zero_le _,by omega,rfl,ab.out,af.out⟩
      case round=>
       obtain⟨b,I,aZ,rfl,hT,F⟩:=hrel
       by_cases hbn:b < n
       ·have r0:=hT.outer bo
        have r1:=hT.outer ag;have s0:=hT.inner bo (j:=b) hbn;have s1:=hT.inner bo (j:=m) hmn;have s2:=hT.inner ag (j:=b) hbn;have f0:=hT.free bo b;rw[YXb]at s0;rw[Q6c]at s1;rw[Q7c]at s2;have O:=yh ((hT.set bo b (Q9 (QS cats) m a b || (Q9 (QS cats) m a m && Q9 (QS cats) m m b))).congr (T':=twF (QS cats) m a (b+1)) (fun a' j _ _=>YYb (QS cats) m a b a' j));have U:=yh (fun u=>F.setCell (p:=⟨Z,b,none⟩) (hT.row a Z bo).1 u);obtain⟨t1,h1⟩:∃t,t=Q9 (QS cats) m a b:=⟨_,rfl⟩;obtain⟨t2,h2⟩:∃t,t=Q9 (QS cats) m a m:=⟨_,rfl⟩;obtain⟨t3,h3⟩:∃t,t=Q9 (QS cats) m m b:=⟨_,rfl⟩;rw[←h1]at s0 O;rw[←h2]at s1 O;rw[←h3]at s2 O;have a5:=yh ag;have a4:=yh bo;clear h1 h2 h3 hT F ag bo
        cases t1
        ·cases t2
         ·go_wp2_with fail
          go_region
          all_goals
           go_wp2_with fail
           go_roundg (n - (b+1))
           case measure=>omega
           case rel=>exact⟨b+1,by omega,by omega,by go_num,(show TabB (wr.setCell ⟨Z,b,none⟩ (.bool false)) D n (.slice (some ⟨o,0,none⟩) n J) E (twF (QS cats) m a (b+1))from O.out).bel (Below.refl _ _).drew,(U.out _).drew⟩
         ·go_wp2_with fail
          go_region
          all_goals
           go_wp2_with fail
           go_roundg (n - (b+1))
           case measure=>omega
           case rel=>exact⟨b+1,by omega,by omega,by go_num,(show TabB (wr.setCell ⟨Z,b,none⟩ (.bool t3)) D n (.slice (some ⟨o,0,none⟩) n J) E (twF (QS cats) m a (b+1))from O.out).bel (Below.refl _ _).drew,(U.out _).drew⟩
        ·go_wp2_with fail
         go_region
         all_goals
          go_wp2_with fail
          go_roundg (n - (b+1))
          case measure=>omega
          case rel=>exact⟨b+1,by omega,by omega,by go_num,(show TabB (wr.setCell ⟨Z,b,none⟩ (.bool true)) D n (.slice (some ⟨o,0,none⟩) n J) E (twF (QS cats) m a (b+1))from O.out).bel (Below.refl _ _).drew,(U.out _).drew⟩
       ·obtain rfl:b=n:=by omega
        have O:=yh (hT.congr (T':=twF (QS cats) m (a+1) 0) (fun a' j _ hj=>YWb (QS cats) m a b a' j hj));have U:=yh F;clear hT F
        go_wp2_with fail
        go_roundg (b - (a+1))
        case measure=>omega
        case rel=>exact⟨a+1,by omega,by omega,by go_num,O.out,U.out⟩
     ·obtain rfl:a=n:=by omega
      have O:=yh (ab.out.congr (T':=Q9 (QS cats) (m+1)) (fun a' j bc _=>YVb (QS cats) m a a' j (by omega)))
      go_wp2_with fail
      go_roundg (a - (m+1))
      case measure=>omega
      case rel=>exact⟨m+1,by omega,by omega,by go_num,O.out,af.out⟩
   ·obtain rfl:m=n:=by omega
    go_wp2_with fail
    go_meet
    exact⟨aX.out,aa.out⟩
 obtain⟨hT,I⟩:=hcut;have ab:=yh hT;have ak:=yh (HB.out.trans (I.mono aA.out));clear hT I
 go_wp2_with fail
 go_ret
 exact⟨D,o,J,E,rfl,bn.out,ab.out,ak.out⟩
theorem Vla (I J:Int)(A:Option Addr)(n cap:Nat)(cats:List Cat)(O:Value)(a b:Nat)(w:World)(h:Sl Um 2 w All A n cap cats)(ho:OkCats cats)(ha:a < n)(hb:b < n) :
  Calls Tryz.prog 209 #[.agg #[.int .i64 I,.int .i64 J,.slice A n cap,O],.int .i64 (a:Int),.int .i64 (b:Int)] w fun e w'=>e=.returned (.bool (Zua (QS cats) a b))∧yw w w':=by
 have aa:=fun W hW=>X9 I J A n cap cats O W hW ho (by omega)
 have ag:=yh aa;clear aa;have ad:=yh (show(QS cats).length=n by rw[QJa];exact h.len);have af:=yh h;obtain⟨r,hr⟩:∃r,r=Zua (QS cats) a b:=⟨_,rfl⟩;rw[←hr];have V:=yh hr;clear hr;clear h
 go_enter Tryz.func209,Tryz.ntmps209
 go_upto_region 0 with(fail)
 go_cut [3,6] (fun p _ wx=>∃g,p=.pointer (some ⟨g,0,none⟩)∧Blk wx g #[.int .i64 I,.int .i64 J,.slice A n cap,O] 25∧yw w wx)
 case first=>as_aux_lemma=>
  go_wp2_with fail
  go_meet
  exact⟨_,rfl,Za _ _,Qf _ _⟩
 obtain⟨g,rfl,E,F⟩:=hcut;have c0:yI wc g 0 I:=E.cell rfl;have c1:yI wc g 1 J:=E.cell rfl;have c2:yJ wc g 2 A n cap:=E.cell rfl;have c3:wc.cell? ⟨g,3,none⟩=some O:=E.cell rfl
 by_cases he:a=b
 ·subst he
  have hr:r=true:=by rw[V.out];unfold Zua;rw[decide_eq_true rfl];rfl
  subst hr
  go_wp2_with fail
  go_ret
  exact⟨rfl,F⟩
 ·have ak:((a:Int) == (b:Int))=false:=by rw[beq_eq_false_iff_ne];omega
  have ae:=yh (show r=decide (Srv (QS cats) a b)by rw[V.out];unfold Zua;rw[decide_eq_false he];rfl);have Y:=ag.out wc (af.out.bel F);have ac:=yh Y;clear Y;clear he
  go_wp2_with fail
  refine ac.out.mono ?_;rintro e w2 ⟨BS,o,ai,ah,rfl,aj,Q,X⟩;obtain⟨ba,U⟩:∃ba,ah[a]? = some ba:=⟨_,List.getElem?_eq_getElem (by omega)⟩;have r0:=Q.outer U;have r1:=Q.inner U (j:=b) hb;have D:=XZa (C:=QS cats) a b;rw[ad.out]at D;obtain⟨s,Z⟩:∃s,s=Q9 (QS cats) n a b:=⟨_,rfl⟩;rw[←Z]at r1 D
  have HS:=yh (show r=s by
   rw[ae.out]
   cases s
   ·exact decide_eq_false (fun h=>absurd (D.2 h) (by simp))
   ·exact decide_eq_true (D.1 rfl))
  have ab:=yh (F.trans (X.mono F.size));clear Z D U Q X
  go_wp2_with fail
  go_ret
  exact⟨ZN HS.out.symm,ab.out⟩
end Go.Proofs.YtjdcokpmgionjaaGreat
