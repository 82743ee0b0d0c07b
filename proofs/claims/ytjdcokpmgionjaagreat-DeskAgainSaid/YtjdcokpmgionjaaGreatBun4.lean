/-
  Words, laws and contracts: ShipL, ShipM.
-/
import Derived.Test.YtjdcokpmgionjaaGreatBun3
set_option linter.unusedSimpArgs false
set_option linter.unusedVariables false
set_option maxRecDepth 100000
set_option maxHeartbeats 20000000
namespace Go.Proofs.YtjdcokpmgionjaaGreat
open Go.RowKit Go.Shelf
theorem Zl {W X:World}{p j:Nat}{v:Value}(D:yw W X)(A:W.cell? ⟨p,j,none⟩=some v):X.cell? ⟨p,j,none⟩=some v:=(World.cell?_of_block (a:=⟨p,j,none⟩) (D.block _ (Ub A))).trans A
theorem VZ {α:Type}[DecidableEq α][BEq α][LawfulBEq α]{l:List α}{k:Nat}{x y:α}(h:l[k]? = some x):(l.take (k+1)).contains y=((l.take k).contains y || decide (x=y)):=by
 rw[Qn h,Bool.eq_iff_iff,Bool.or_eq_true,List.contains_iff_mem,List.contains_iff_mem,List.mem_append,List.mem_singleton,decide_eq_true_iff,@eq_comm _ y x]
theorem V0 {α:Type}[BEq α][LawfulBEq α]{l:List α}{k n:Nat}{x y:α}(h:l[k]? = some x)(D:k < n)(A:x=y):(l.take n).contains y=true:=by
 subst A;refine List.contains_iff_mem.2 (List.mem_take_iff_getElem.2 ⟨k,?_,?_⟩)
 ·have:=(List.getElem?_eq_some_iff.1 h).1;omega
 ·exact(List.getElem?_eq_some_iff.1 h).2
theorem Vja (x:Shp)(A:Option Addr)(n cap:Nat)(B:Option Addr)(m aH:Nat)(w:World)(hc:Sl Um 2 w All A n cap x.cats)(hb:Sl ZW 4 w All B m aH x.cabs) :
  Calls Tryz.prog 68 #[.agg #[.int .i64 x.legs,.int .i64 x.souls,.slice A n cap,.slice B m aH]] w fun e w'=>e=.returned (.int .i64 (ZJ x))∧yw w w':=by
 obtain⟨aD,aE,cats,F⟩:=x;simp only at hc hb ⊢;have a0:=hc.len;have aY:=hb.len;obtain⟨r,D⟩:∃r,r=ZJ ⟨aD,aE,cats,F⟩:=⟨_,rfl⟩;rw[←D];have HR:=yh D;clear D;have ar:=yh a0;clear a0;have a6:=yh aY;clear aY;have HC:=yh hc;clear hc;have a3:=yh hb;clear hb
 go_enter Tryz.func68,Tryz.ntmps68
 go_upto_region 0 with(fail)
 go_cut [1,2] (fun p _ U=>∃g,p=.pointer (some ⟨g,0,none⟩)∧ShpAt U g aD aE A n cap B m aH∧yw w U)
 case first=>as_aux_lemma=>
  go_wp2_with fail
  go_meet
  exact⟨_,rfl,Za _ _,Qf _ _⟩
 obtain⟨g,rfl,hG,hb⟩:=hcut;obtain⟨g0,g1,g2,g3⟩:=hG.all
 have ac:=fun W=>Qk aD 1 7 W
 have aC:=fun W=>Qk aE 1 60 W
 cases b1:Qc aD 1 7
 ·have D:r=3:=by rw[HR.out];unfold ZJ;rw[if_pos (.inl b1)]
  subst D;rw[b1]at ac;clear b1
  go_wp2_with fail
  refine(ac _).mono ?_;rintro e w9 ⟨rfl,rfl⟩
  go_wp2_with fail
  go_ret
  exact⟨rfl,hb⟩
 have bt:=yh b1;rw[b1]at ac;clear b1
 go_wp2_with fail
 refine(ac _).mono ?_;rintro e w9 ⟨rfl,rfl⟩;clear ac
 cases b2:Qc aE 1 60
 ·have D:r=3:=by rw[HR.out];unfold ZJ;rw[if_pos (.inr b2)]
  subst D;rw[b2]at aC;clear b2
  go_wp2_with fail
  refine(aC _).mono ?_;rintro e w9 ⟨rfl,rfl⟩
  go_wp2_with fail
  go_ret
  exact⟨rfl,hb⟩
 have aB:=HR.out;unfold ZJ at aB;rw[if_neg (by rw[bt.out,b2];simp)]at aB;simp only[ar.out,a6.out]at aB;have aF:=yh aB;clear aB;rw[b2]at aC;clear b2
 go_wp2_with fail
 refine(aC _).mono ?_;rintro e w9 ⟨rfl,rfl⟩;clear aC
 by_cases h0:5 < n
 ·have D:r=2:=by rw[aF.out,if_pos (.inl h0)]
  subst D
  go_wp2_with fail
  go_ret
  exact⟨rfl,hb⟩
 by_cases h1:12 < m
 ·have D:r=2:=by rw[aF.out,if_pos (.inr h1)]
  subst D
  go_wp2_with fail
  go_ret
  exact⟨rfl,hb⟩
 have aG:=yh (aF.out.trans (if_neg (by omega)))
 by_cases I:n=0
 ·have D:r=5:=by rw[aG.out,if_pos (.inl I)]
  subst D;subst I
  go_wp2_with fail
  go_ret
  exact⟨rfl,hb⟩
 by_cases Y:m=0
 ·have D:r=5:=by rw[aG.out,if_pos (.inr Y)]
  subst D;subst Y
  go_wp2_with fail
  go_ret
  exact⟨rfl,hb⟩
 have bX:=yh (aG.out.trans (if_neg (by omega)));have d1:decide ((5:Int) < (n:Int))=false:=decide_eq_false (by omega);have d2:decide ((12:Int) < (m:Int))=false:=decide_eq_false (by omega)
 have d3:((n:Int) == 0)=false:=by simpa using I
 have d4:((m:Int) == 0)=false:=by simpa using Y
 obtain⟨W1,bH⟩:∃W1,W1=wc:=⟨_,rfl⟩;subst bH;have HG:=yh hG;have E:=yh hb;have aJ:=bX.out;obtain⟨e1,aI⟩:∃e1,e1=Qh (nmE (Qu cats) (VY cats)) n:=⟨_,rfl⟩;obtain⟨e2,af⟩:∃e2,e2=Qh (nmE (Qt F) (fun k=>Y4 n (F.getD k default))) m:=⟨_,rfl⟩;obtain⟨q,hq⟩:∃q,q=Yu (QS cats) n:=⟨_,rfl⟩;rw[←aI,←af,←hq]at aJ;have HQ:=yh hq;have aO:=yh aI;have a8:=yh af
 have aa:=yh (show ∀(k:Nat) (c:Int),k < n→Qh (nmE (Qu cats) (VY cats)) k=0→nmE (Qu cats) (VY cats) k=c→c≠0→r=c from fun k c hk h1 I Y=>by
  have:e1=c:=by rw[aI,ZM h1 (by rw[I];exact Y) hk,I]
  rw[aJ,if_pos (by rw[this];exact Y),this])
 have bc:=yh aJ;clear aJ;clear hG hb aI af hq HR aF aG bX;have a0:=ar.out;have aY:=a6.out
 have bU:n≤5:=by omega
 have bS:m≤12:=by omega
 go_upto_block 0 with(fail)
 go_cut [3,4,5,6,7] (fun _ _ _ _ _ U=>Aside (e1=0)∧yw W1 U)
 case first=>as_aux_lemma=>
  go_wp2_with fail
  go_loopg [3,4,5,6,7] n (fun gk i _ _ _ _ wr=>∃k:Nat,k≤n∧n - k≤gk∧i=.int .i64 k∧Aside (Qh (nmE (Qu cats) (VY cats)) k=0)∧yw W1 wr)
  case atStart=>exact⟨0,Nat.zero_le _,by omega,rfl,rfl,Below.refl _ _⟩
  case round=>
   obtain⟨k,hk,bp,rfl,O,hb⟩:=hrel;have q2:=Zl hb g2;have Z:=yh (E.out.trans (hb.mono E.out.size))
   by_cases hlt:k < n
   ·obtain⟨bb,bL,x,c0,c1,rfl,hx,⟨A2,X,bj,ay,a2,ap⟩,e0,al⟩:=(HC.out.bel Z.out).at2 hlt
    simp only[List.cons.injEq,and_true]at ay;obtain⟨rfl,rfl⟩:=ay
    have aA:(Qu cats)[k]? = some x.name:=by unfold Qu;rw[List.getElem?_map,hx];rfl
    have HV:=yh (show nmE (Qu cats) (VY cats) k=if U3 x.name=false then 1 else if ((Qu cats).take k).contains x.name then 6 else VY cats k by unfold nmE;rw[Vm aA])
    have bl:VY cats k=Qh (Uo n x.high) X:=by unfold VY;rw[Vm hx,ar.out,a2.len]
    have bA:=yh (a2.all Qb (by omega));have bw:=yh bl;have ab:=yh (fun W=>UPa x.name W ap);have bN:=yh ap;clear hx a2 aA bl ap
    go_upto_region 10 with(fail)
    go_cut [4] (fun p U=>∃z,p=.pointer (some ⟨z,0,none⟩)∧Blk U z #[Zb x.name,.slice A2 X bj] 134∧yw wr U)
    case first=>as_aux_lemma=>
     go_wp2_with fail
     go_meet
     exact⟨_,rfl,Za _ _,Qf _ _⟩
    obtain⟨z,rfl,hz,am⟩:=hcut;have bB:=yh (bA.out.bel am);have ax:=hb.trans (am.mono hb.size);obtain⟨Q,aW⟩:∃Q,Q=wc:=⟨_,rfl⟩;subst aW;have z0:Q.cell? ⟨z,0,none⟩=some (Zb x.name):=hz.cell rfl;have z1:yJ Q z 1 A2 X bj:=hz.cell rfl;have HZ:=yh hz;have ah:=yh ax;clear hb am ax hz q2 e0 al Z;have Z:=yh (E.out.trans (ah.out.mono E.out.size))
    cases b1:U3 x.name
    ·have D:r=1:=aa.out k 1 hlt O (by rw[HV.out,if_pos b1]) (by decide)
     subst D;rw[b1]at ab;clear b1
     go_wp2_with fail
     refine(ab.out _).mono ?_;rintro e w2 ⟨rfl,rfl⟩
     go_wp2_with fail
     go_ret
     exact⟨rfl,Z.out⟩
    have av:=yh (HV.out.trans (if_neg (by rw[b1];simp)));rw[b1]at ab;clear b1
    go_wp2_with fail
    refine(ab.out _).mono ?_;rintro e Q ⟨rfl,rfl⟩
    go_upto_block 2 with(fail)
    go_cut [5] (fun _ U=>Aside (((Qu cats).take k).contains x.name=false)∧yw Q U)
    case first=>as_aux_lemma=>
     go_wp2_with fail
     go_loopg [5] k (fun gk i wr=>∃j:Nat,j≤k∧k - j≤gk∧i=.int .i64 j∧Aside (((Qu cats).take j).contains x.name=false)∧yw Q wr)
     case atStart=>exact⟨0,Nat.zero_le _,by omega,rfl,rfl,Below.refl _ _⟩
     case round=>
      obtain⟨j,hj,bo,rfl,HJ,hb⟩:=hrel
      by_cases hjk:j < k
      ·have ae:=ah.out.trans (hb.mono ah.out.size)
       have q2:=Zl ae g2;have y0:=Zl hb z0;obtain⟨bC,bM,y,bE,bF,ak,hy,⟨A3,n3,bG,az,_,_⟩,e0,al⟩:=(HC.out.bel (E.out.trans (ae.mono E.out.size))).at2 (show j < n by omega)
       injection ak with ak
       injection ak with h1 I _
       subst h1 I;simp only[List.cons.injEq,and_true]at az;obtain⟨rfl,rfl⟩:=az
       have ag:(Qu cats)[j]? = some y.name:=by unfold Qu;rw[List.getElem?_map,hy];rfl
       have aw:=yh ag;have ai:=yh (E.out.trans (ae.mono E.out.size));obtain⟨J,an⟩:∃J,J=x.name:=⟨_,rfl⟩;obtain⟨ny,ao⟩:∃ny,ny=y.name:=⟨_,rfl⟩;rw[←an]at y0;rw[←ao]at e0;unfold Zb at y0 e0;clear ag hy ae;have bg:=yh (show ny=J↔y.name=x.name by rw[an,ao]);clear an ao z0 z1
       by_cases hne:ny=J
       ·have D:r=6:=aa.out k 6 hlt O (by rw[av.out,if_pos (V0 aw.out hjk (bg.out.1 hne))]) (by decide)
        subst D;subst hne
        go_wp2_with fail
        go_quiet (fail)
        go_wp2_with fail
        go_ret
        exact⟨rfl,below_drewN ai.out _⟩
       ·have aZ:(ny == J)=false:=by simpa using hne
        have V:=yh (show((Qu cats).take (j+1)).contains x.name=false by rw[VZ aw.out,show((Qu cats).take j).contains x.name=false from HJ,decide_eq_false (fun h=>hne (bg.out.2 h))];rfl)
        go_wp2_with fail
        go_quiet (fail)
        go_wp2_with fail
        go_roundg (k - (j+1))
        case measure=>omega
        case rel=>exact⟨j+1,by omega,by omega,by go_num,V.out,below_drewN hb _⟩
      ·obtain rfl:j=k:=by omega
       go_wp2_with fail
       go_meet
       exact⟨HJ,hb⟩
    obtain⟨HJ,hb⟩:=hcut;have aj:=yh ((av.out.trans (if_neg (by rw[show((Qu cats).take k).contains x.name=false from HJ];simp))).trans bw.out)
    have aP:=yh (show ∀(i:Nat) (c:Int),i < X→Qh (Uo n x.high) i=0→Uo n x.high i=c→c≠0→r=c from fun i c hi h1 I Y=>
     aa.out k c hlt O (by rw[aj.out,ZM h1 (by rw[I];exact Y) hi,I]) Y)
    have aS:=yh (bB.out.bel hb);have w1:=Zl hb z1;have ad:=yh (ah.out.trans (hb.mono ah.out.size));have w2:=Zl ad.out g2;have bT:X≤9223372036854775807:=aS.out.bd;obtain⟨W5,bI⟩:∃W5,W5=wc:=⟨_,rfl⟩;subst bI;clear hb z0 z1
    go_wp2_with fail
    go_loopg [6,7] X (fun gk i _ wr=>∃j:Nat,j≤X∧X - j≤gk∧i=.int .i64 j∧Aside (Qh (Uo n x.high) j=0)∧yw W5 wr)
    case atStart=>exact⟨0,Nat.zero_le _,by omega,rfl,rfl,Below.refl _ _⟩
    case round=>
     obtain⟨j,hj,bo,rfl,au,hb⟩:=hrel;have y1:=Zl hb w1;have y2:=Zl hb w2;have aM:=yh (ad.out.trans (hb.mono ad.out.size))
     by_cases hjk:j < X
     ·obtain⟨b3,bV,y,d0,rfl,hy,⟨hd,_⟩,f5⟩:=aS.out.at1 hjk
      simp only[List.cons.injEq,and_true]at hd;obtain rfl:=hd;have f0:=Zl hb f5;have aQ:=yh (show Uo n x.high j=if Qc y 0 ((n:Int) - 1)=false then 3 else if (x.high.take j).contains y then 6 else 0 by unfold Uo;rw[Vm hy]);have HY:=yh hy;have bu:=yh hb;clear hy hb
      by_cases hy0:y < 0
      ·have D:r=3:=aP.out j 3 hjk au (by rw[aQ.out,if_pos (QH (.inl hy0))]) (by decide)
       subst D
       go_wp2_with fail
       go_quiet (fail)
       go_wp2_with fail
       go_ret
       exact⟨rfl,below_drewN (E.out.trans (aM.out.mono E.out.size)) _⟩
      by_cases ag:(n:Int)≤y
      ·have D:r=3:=aP.out j 3 hjk au (by rw[aQ.out,if_pos (QH (.inr (by omega)))]) (by decide)
       subst D
       go_wp2_with fail
       go_quiet (fail)
       go_wp2_with fail
       go_ret
       exact⟨rfl,below_drewN (E.out.trans (aM.out.mono E.out.size)) _⟩
      have a9:=yh (aQ.out.trans (if_neg (by rw[QX (by omega) (by omega)];simp)))
      go_wp2_with fail
      go_quiet (fail)
      have aZ:=below_drewN bu.out nq;clear y1 y2 f0
      go_wp2_with fail
      go_loopg [7] j (fun gk i wr=>∃s:Nat,s≤j∧j - s≤gk∧i=.int .i64 s∧Aside ((x.high.take s).contains y=false)∧yw W5 wr)
      case atStart=>exact⟨0,Nat.zero_le _,by omega,rfl,rfl,aZ⟩
      case round=>
       obtain⟨s,hs,bR,rfl,HS,hb⟩:=hrel;have bv:=yh (ad.out.trans (hb.mono ad.out.size))
       by_cases hsj:s < j
       ·obtain⟨b4,bW,y',d4,aV,bs,⟨bm,_⟩,f6⟩:=aS.out.at1 (show s < X by omega)
        injection aV with aV
        injection aV with h1 I _
        subst h1 I;simp only[List.cons.injEq,and_true]at bm;obtain rfl:=bm;have y1:=Zl hb w1;have f0:=Zl hb f5;have f1:=Zl hb f6;have bi:=yh bs;have aL:=yh hb;clear bs hb w1 w2 f5 f6
        by_cases hyy:y'=y
        ·have D:r=6:=aP.out j 6 hjk au (by rw[a9.out,if_pos (V0 bi.out hsj hyy)]) (by decide)
         subst D;subst hyy
         go_wp2_with fail
         go_quiet (fail)
         go_wp2_with fail
         go_ret
         exact⟨rfl,below_drewN (E.out.trans (bv.out.mono E.out.size)) _⟩
        ·have bQ:(y' == y)=false:=by simpa using hyy
         have V:=yh (show(x.high.take (s+1)).contains y=false by rw[VZ bi.out,show(x.high.take s).contains y=false from HS,decide_eq_false hyy];rfl)
         go_wp2_with fail
         go_quiet (fail)
         go_wp2_with fail
         go_roundg (j - (s+1))
         case measure=>omega
         case rel=>exact⟨s+1,by omega,by omega,by go_num,V.out,below_drewN aL.out _⟩
       ·obtain rfl:s=j:=by omega
        have V:=yh (show Qh (Uo n x.high) (s+1)=0 from Zu au (by rw[a9.out,show(x.high.take s).contains y=false from HS];rfl));have aL:=yh hb;clear hb
        go_wp2_with fail
        go_roundg (X - (s+1))
        case measure=>omega
        case rel=>exact⟨s+1,by omega,by omega,by go_num,V.out,aL.out⟩
     ·obtain rfl:j=X:=by omega
      have V:=yh (show Qh (nmE (Qu cats) (VY cats)) (k+1)=0 from Zu O (by rw[aj.out];exact au))
      go_wp2_with fail
      go_roundg (n - (k+1))
      case measure=>omega
      case rel=>exact⟨k+1,by omega,by omega,by go_num,V.out,aM.out⟩
   ·obtain rfl:k=n:=by omega
    have HE:=yh (show e1=0 by rw[aO.out];exact O)
    go_wp2_with fail
    go_meet
    exact⟨HE.out,hb⟩
 obtain⟨aN,hb⟩:=hcut;have aR:=yh (show r=if q=true then 4 else e2 from bc.out.trans (if_neg (by rw[show e1=0 from aN];simp)));have bq:=Zna (cats:=cats) (nms:=Qu cats) (by omega) (by rw[ar.out,←aO.out];exact aN);have ah:=yh (E.out.trans (hb.mono E.out.size));have br:=X9 aD aE A n cap cats (.slice B m aH) wc (HC.out.bel ah.out) bq (by omega);have x0:=Zl hb g0;have x1:=Zl hb g1;have x2:=Zl hb g2;have x3:=Zl hb g3;have a4:=yh hb;have a7:=yh (show(QS cats).length=n by rw[QJa];exact ar.out);have bf:=yh br;clear br;clear hb bq aa bc aN aO
 go_wp2_with fail
 refine bf.out.mono ?_;rintro e w2 ⟨BS,o,bG,bD,rfl,bK,hT,bY⟩;have HT:=yh hT;have a5:=yh (a4.out.trans (bY.mono a4.out.size));clear x0 x1 x2 x3 hT bY;obtain⟨W8,bJ⟩:∃W8,W8=w2:=⟨_,rfl⟩;subst bJ
 go_upto_block 8 with(fail)
 go_cut [9] (fun _ U=>Aside (q=false)∧U=W8)
 case first=>as_aux_lemma=>
  go_wp2_with fail
  go_loopg [9] n (fun gk i wr=>∃k:Nat,k≤n∧n - k≤gk∧i=.int .i64 k∧Aside (Yu (QS cats) k=false)∧wr=W8)
  case atStart=>exact⟨0,Nat.zero_le _,by omega,rfl,rfl,rfl⟩
  case round=>
   obtain⟨k,hk,bp,rfl,O,rfl⟩:=hrel
   by_cases hlt:k < n
   ·obtain⟨bk,aX⟩:∃bk,bD[k]? = some bk:=⟨_,List.getElem?_eq_getElem (by omega)⟩
    have r0:=HT.out.outer aX;have r1:=HT.out.inner aX (j:=k) hlt;have aK:=XZa (C:=QS cats) k k;rw[a7.out]at aK;obtain⟨s,hs⟩:∃s,s=Q9 (QS cats) n k k:=⟨_,rfl⟩;rw[←hs]at r1 aK;have bh:=yh aK;clear aK;clear hs aX
    cases s
    ·have V:=yh (show Yu (QS cats) (k+1)=false by rw[Xia,show Yu (QS cats) k=false from O,decide_eq_false (fun h=>absurd (bh.out.2 h) (by simp))];rfl)
     go_wp2_with fail
     go_roundg (n - (k+1))
     case measure=>omega
     case rel=>exact⟨k+1,by omega,by omega,by go_num,V.out,rfl⟩
    ·have D:r=4:=aR.out.trans (if_pos (by rw[HQ.out];exact U5a (bh.out.1 rfl) hlt))
     subst D
     go_wp2_with fail
     go_ret
     exact⟨rfl,E.out.trans (a5.out.mono E.out.size)⟩
   ·obtain rfl:k=n:=by omega
    go_wp2_with fail
    go_meet
    exact⟨(show Aside _ from by rw[HQ.out];exact O),rfl⟩
 obtain⟨ba,rfl⟩:=hcut;have be:=yh (show r=e2 from aR.out.trans (if_neg (by rw[show q=false from ba];simp)))
 obtain⟨fc,a1⟩:∃fc:Nat→Int,fc=fun k=>Y4 n (F.getD k default):=⟨_,rfl⟩
 have af:=a8.out;rw[←a1]at af;have bz:=yh a1
 have aa:=yh (show ∀(k:Nat) (c:Int),k < m→Qh (nmE (Qt F) fc) k=0→nmE (Qt F) fc k=c→c≠0→r=c from fun k c hk h1 I Y=>by
  rw[be.out,af,ZM h1 (by rw[I];exact Y) hk,I])
 have bx:=yh (show r=Qh (nmE (Qt F) fc) m by rw[be.out,af]);clear af a1 ba aR HQ a8 bf HT a7 bK
 go_wp2_with fail
 go_loopg [10,11,12] m (fun gk i _ _ wr=>∃k:Nat,k≤m∧m - k≤gk∧i=.int .i64 k∧Aside (Qh (nmE (Qt F) fc) k=0)∧yw W1 wr)
 case atStart=>exact⟨0,Nat.zero_le _,by omega,rfl,rfl,a5.out⟩
 case round=>
  obtain⟨k,hk,bp,rfl,O,hb⟩:=hrel;have q2:=Zl hb g3;have Z:=yh (E.out.trans (hb.mono E.out.size))
  by_cases hlt:k < m
  ·obtain⟨bb,bL,x,c0,c1,c2,c3,rfl,hx,⟨ay,ap,i1,i2⟩,e0,al,aT,aU⟩:=(a3.out.bel Z.out).at4 hlt
   simp only[List.cons.injEq,and_true]at ay;obtain⟨rfl,rfl,rfl,rfl⟩:=ay
   have aA:(Qt F)[k]? = some x.name:=by unfold Qt;rw[List.getElem?_map,hx];rfl
   have bn:fc k=Y4 n x:=by rw[bz.out];show Y4 n (F.getD k default)=_;rw[Vm hx]
   have HV:=yh (show nmE (Qt F) fc k=if U3 x.name=false then 1 else if ((Qt F).take k).contains x.name then 6 else Y4 n x by unfold nmE;rw[Vm aA,bn]);have ab:=yh (fun W=>UPa x.name W ap);clear hx aA ap bn
   go_upto_region 37 with(fail)
   go_cut [11] (fun p U=>∃z,p=.pointer (some ⟨z,0,none⟩)∧Blk U z #[Zb x.name,.int .i64 x.cat,.int .i64 x.ber,.bool x.lev] 136∧yw wr U)
   case first=>as_aux_lemma=>
    go_wp2_with fail
    go_meet
    exact⟨_,rfl,Za _ _,Qf _ _⟩
   obtain⟨z,rfl,hz,am⟩:=hcut;obtain⟨J,an⟩:∃J,J=x.name:=⟨_,rfl⟩;rw[←an]at HV ab hz;have ax:=hb.trans (am.mono hb.size);obtain⟨Q,aW⟩:∃Q,Q=wc:=⟨_,rfl⟩;subst aW;have z0:Q.cell? ⟨z,0,none⟩=some (.string ⟨J.toArray⟩):=hz.cell rfl;have z1:yI Q z 1 x.cat:=hz.cell rfl;have z2:yI Q z 2 x.ber:=hz.cell rfl;have aq:=yh ax;clear hb am ax hz q2 e0 al aT aU Z an;have Z:=yh (E.out.trans (aq.out.mono E.out.size))
   cases b1:U3 J
   ·have D:r=1:=aa.out k 1 hlt O (by rw[HV.out,if_pos b1]) (by decide)
    subst D;rw[b1]at ab;clear b1
    go_wp2_with fail
    refine(ab.out _).mono ?_;rintro e w2 ⟨rfl,rfl⟩
    go_wp2_with fail
    go_ret
    exact⟨rfl,Z.out⟩
   have av:=yh (HV.out.trans (if_neg (by rw[b1];simp)));rw[b1]at ab;clear b1
   go_wp2_with fail
   refine(ab.out _).mono ?_;rintro e Q ⟨rfl,rfl⟩
   go_upto_block 12 with(fail)
   go_cut [12] (fun _ U=>Aside (((Qt F).take k).contains J=false)∧yw Q U)
   case first=>as_aux_lemma=>
    go_wp2_with fail
    go_loopg [12] k (fun gk i wr=>∃j:Nat,j≤k∧k - j≤gk∧i=.int .i64 j∧Aside (((Qt F).take j).contains J=false)∧yw Q wr)
    case atStart=>exact⟨0,Nat.zero_le _,by omega,rfl,rfl,Below.refl _ _⟩
    case round=>
     obtain⟨j,hj,bo,rfl,HJ,hb⟩:=hrel
     by_cases hjk:j < k
     ·have ae:=aq.out.trans (hb.mono aq.out.size)
      have q2:=Zl ae g3;have y0:=Zl hb z0;obtain⟨bC,bM,y,bE,bF,bO,bP,ak,hy,⟨az,_,_,_⟩,e0,al,aT,aU⟩:=(a3.out.bel (E.out.trans (ae.mono E.out.size))).at4 (show j < m by omega)
      injection ak with ak
      injection ak with h1 I _
      subst h1 I;simp only[List.cons.injEq,and_true]at az;obtain⟨rfl,rfl,rfl,rfl⟩:=az
      have ag:(Qt F)[j]? = some y.name:=by unfold Qt;rw[List.getElem?_map,hy];rfl
      have ai:=yh (E.out.trans (ae.mono E.out.size));obtain⟨ny,ao⟩:∃ny,ny=y.name:=⟨_,rfl⟩;rw[←ao]at e0 ag;have aw:=yh ag;unfold Zb at e0;clear ag hy ae ao z0 z1 z2 al aT aU
      by_cases hne:ny=J
      ·have D:r=6:=aa.out k 6 hlt O (by rw[av.out,if_pos (V0 aw.out hjk hne)]) (by decide)
       subst D;subst hne
       go_wp2_with fail
       go_quiet (fail)
       go_wp2_with fail
       go_ret
       exact⟨rfl,below_drewN ai.out _⟩
      ·have aZ:(ny == J)=false:=by simpa using hne
       have V:=yh (show((Qt F).take (j+1)).contains J=false by rw[VZ aw.out,show((Qt F).take j).contains J=false from HJ,decide_eq_false hne];rfl)
       go_wp2_with fail
       go_quiet (fail)
       go_wp2_with fail
       go_roundg (k - (j+1))
       case measure=>omega
       case rel=>exact⟨j+1,by omega,by omega,by go_num,V.out,below_drewN hb _⟩
     ·obtain rfl:j=k:=by omega
      go_wp2_with fail
      go_meet
      exact⟨HJ,hb⟩
   obtain⟨HJ,hb⟩:=hcut;have aj:=yh (show nmE (Qt F) fc k=if Qc x.cat 0 ((n:Int) - 1)=false∨Qc x.ber 1 4=false then 3 else 0 from av.out.trans (if_neg (by rw[show((Qt F).take k).contains J=false from HJ];simp)));have ad:=yh (aq.out.trans (hb.mono aq.out.size));have w1:=Zl hb z1;have w2:=Zl hb z2;have w3:=Zl ad.out g2;have ai:=yh (E.out.trans (ad.out.mono E.out.size))
   have ac:=fun W=>Qk x.ber 1 4 W
   clear hb z0 z1 z2 Z
   by_cases hy0:x.cat < 0
   ·have D:r=3:=aa.out k 3 hlt O (by rw[aj.out,if_pos (.inl (QH (.inl hy0)))]) (by decide)
    subst D
    go_wp2_with fail
    go_ret
    exact⟨rfl,ai.out⟩
   by_cases ag:(n:Int)≤x.cat
   ·have D:r=3:=aa.out k 3 hlt O (by rw[aj.out,if_pos (.inl (QH (.inr (by omega))))]) (by decide)
    subst D
    go_wp2_with fail
    go_ret
    exact⟨rfl,ai.out⟩
   cases b2:Qc x.ber 1 4
   ·have D:r=3:=aa.out k 3 hlt O (by rw[aj.out,if_pos (.inr b2)]) (by decide)
    subst D;rw[b2]at ac;clear b2
    go_wp2_with fail
    refine(ac _).mono ?_;rintro e wz ⟨rfl,rfl⟩
    go_wp2_with fail
    go_ret
    exact⟨rfl,ai.out⟩
   have V:=yh (show Qh (nmE (Qt F) fc) (k+1)=0 from Zu O (by rw[aj.out,if_neg (by rw[b2,QX (by omega) (by omega)];simp)]));rw[b2]at ac;clear b2
   go_wp2_with fail
   refine(ac _).mono ?_;rintro e wz ⟨rfl,rfl⟩
   go_wp2_with fail
   go_roundg (m - (k+1))
   case measure=>omega
   case rel=>exact⟨k+1,by omega,by omega,by go_num,V.out,ad.out⟩
  ·obtain rfl:k=m:=by omega
   have D:r=0:=by rw[bx.out];exact O
   subst D
   go_wp2_with fail
   go_ret
   exact⟨rfl,Z.out⟩
def QZ:Shp:=⟨3,6,[⟨[73,78],[1]⟩,⟨[79,85,84],[2]⟩,⟨[83,85,73,84,69],[]⟩],[⟨[65,49],0,2,false⟩,⟨[66,49],1,4,true⟩,⟨[67,49],2,2,false⟩]⟩
theorem Vjb {n:Nat}(h:n≤1000):n≤maxLen:=by simp only[maxLen];omega
theorem Vha:ZJ QZ=0:=by decide
end Go.Proofs.YtjdcokpmgionjaaGreat
