/-
  Words, laws and contracts: FareH, FareI.
-/
import Derived.Test.YtjdcokpmgionjaaGreatBun14
set_option linter.unusedSimpArgs false
set_option linter.unusedVariables false
set_option maxRecDepth 100000
set_option maxHeartbeats 20000000
namespace Go.Proofs.YtjdcokpmgionjaaGreat
open Go.RowKit Go.Shelf
theorem Vva {l:List (List Int)}{k:Nat}{y:List Int}{p:Int→Bool}(A:l[k]? = some y):(l.take (k+1)).flatten.any p=((l.take k).flatten.any p || y.any p):=by rw[Xl A,List.any_append]
theorem YEa {l:List (List Int)}{k:Nat}{y:List Int}{p:Int→Bool}(E:l[k]? = some y)(h:y.any p=true):l.flatten.any p=true:=by
 obtain⟨v,D,A⟩:=List.any_eq_true.1 h;exact List.any_eq_true.2 ⟨v,List.mem_flatten.2 ⟨y,List.mem_of_getElem? E,D⟩,A⟩
theorem Z6a (A:Option Addr)(n cap:Nat)(x:Fares)(B:Option Addr)(m U:Nat)(c E:Int)(w:World)(h:FareR w A n cap x B m U) :
  Calls Tryz.prog 69 #[.agg #[.slice A n cap,.int .i64 x.alone,.int .i64 x.third,.slice B m U,.int .i64 x.down],.int .i64 c,.int .i64 E] w fun e w'=>e=.returned (.int .i64 (Zq x c E))∧yw w w':=by
 have D:yw w (w.alloc (.cells #[.slice A n cap,.int .i64 x.alone,.int .i64 x.third,.slice B m U,.int .i64 x.down] 29)):=(Below.refl _ _).alloc (Nat.le_refl _) _;have hF:FareAt (w.alloc (.cells #[.slice A n cap,.int .i64 x.alone,.int .i64 x.third,.slice B m U,.int .i64 x.down] 29)) w.heap.size A n cap x B m U:=FareAt.new w;have V:=h.below D;have aM:=h.leg.bd;have aN:=h.bands.bd;have af:=yh h.leg.len;have av:=yh h.bands.len;obtain⟨r,hr⟩:∃r,r=Zq x c E:=⟨_,rfl⟩;rw[←hr];have HR:=yh hr;clear hr
 have aa:=fun W=>Qk c 1 5 W
 have ab:=fun W=>Qk E 1 7 W
 rw[show Qc E 1 7=Xq E from rfl]at ab
 cases hq1:Qc c 1 5
 ·have hr:r=3:=by rw[HR.out];unfold Zq;rw[if_pos (.inl hq1)]
  subst hr;rw[hq1]at aa;clear hq1
  go_enter Tryz.func69,Tryz.ntmps69
  go_wp2_with fail
  refine(aa _).mono ?_;rintro e w1 ⟨rfl,rfl⟩
  go_wp2_with fail
  go_ret
  exact⟨rfl,D⟩
 ·rw[hq1]at aa
  cases hq2:Xq E
  ·have hr:r=3:=by rw[HR.out];unfold Zq;rw[if_pos (.inr hq2)]
   subst hr;rw[hq2]at ab;clear hq1 hq2
   go_enter Tryz.func69,Tryz.ntmps69
   go_wp2_with fail
   refine(aa _).mono ?_;rintro e w1 ⟨rfl,rfl⟩
   go_wp2_with fail
   refine(ab _).mono ?_;rintro e w1 ⟨rfl,rfl⟩
   go_wp2_with fail
   go_ret
   exact⟨rfl,D⟩
  ·rw[hq2]at ab
   have X:=yh (show r=if Z3 x.leg c E≠0 then Z3 x.leg c E else if Qc x.alone 0 200=false∨Qc x.third 0 100=false∨Qc x.down 0 100=false then 3 else Uh x.bands by rw[HR.out];unfold Zq;rw[if_neg (by rw[hq1,hq2];simp)]);have aS:=Qj.1 hq2;clear hq1 hq2 HR
   go_enter Tryz.func69,Tryz.ntmps69
   go_wp2_with fail
   refine(aa _).mono ?_;rintro e w1 ⟨rfl,rfl⟩
   go_wp2_with fail
   refine(ab _).mono ?_;rintro e w1 ⟨rfl,rfl⟩
   by_cases hn:(n:Int)=c
   ·subst hn
    have aC:=hF.c0;have aD:=hF.c1;have aE:=hF.c2;have ao:=hF.c3;have aF:=hF.c4;obtain⟨W,hW⟩:∃W,W=w.alloc (.cells #[.slice A n cap,.int .i64 x.alone,.int .i64 x.third,.slice B m U,.int .i64 x.down] 29):=⟨_,rfl⟩;have HB:=yh V.bands;have HL:=yh V.leg;have HF:=yh hF;rw[←hW]at D aC aD aE ao aF HB HL HF ⊢;clear V hF h hW
    go_wp2_with fail
    go_loopg [7] n (fun gk i wr=>∃k:Nat,k≤n∧n - k≤gk∧i=.int .i64 k∧Aside ((x.leg.take k).any (fun y=>((y.length:Int) != E))=false)∧W=wr)
    case atStart=>exact⟨0,Nat.zero_le _,by omega,rfl,rfl,rfl⟩
    case round=>
     obtain⟨k,hk,aK,rfl,HA,rfl⟩:=hrel
     by_cases hlt:k < n
     ·obtain⟨b,aG,y,c0,rfl,I,⟨B2,q,c2,F,Q⟩,g0⟩:=HL.out.at1 hlt
      simp only[List.cons.injEq,and_true]at F;subst F;have O:=Q.len;have aL:=Q.bd;have Z:=yh I;clear I
      by_cases aW:(q:Int)=E
      ·have ap:((q:Int) != E)=false:=by simpa using aW
       have HP:=yh (show((y.length:Int) != E)=false by rw[O];exact ap);clear aW O
       go_wp2_with fail
       go_roundg (n - (k+1))
       case measure=>omega
       case rel=>exact⟨k+1,by omega,by omega,by go_num,by show _=_;rw[QF Z.out,HA,HP.out];rfl,rfl⟩
      ·have ap:((q:Int) != E)=true:=by simpa using aW
       have HP:=yh (show((y.length:Int) != E)=true by rw[O];exact ap);clear aW O
       have hr:r=1:=by
        have:Z3 x.leg n E=1:=by unfold Z3;rw[if_pos (.inr (Q7a Z.out HP.out))]
        rw[X.out,this];rfl
       subst hr
       go_wp2_with fail
       go_ret
       exact⟨rfl,D⟩
     ·obtain rfl:k=n:=by omega
      have HT:=yh (List.take_of_length_le (Nat.le_of_eq af.out));have ad:=yh (show x.leg.any (fun y=>((y.length:Int) != E))=false by rw[←HT.out];exact HA);have al:=yh (show Z3 x.leg k E=if x.leg.flatten.any (fun x=>!Qc x 0 100000)then 3 else 0 by unfold Z3;rw[if_neg (by rw[af.out,ad.out];simp)])
      go_wp2_with fail
      go_loopg [8] k (fun gk i wr=>∃j:Nat,j≤k∧k - j≤gk∧i=.int .i64 j∧Aside ((x.leg.take j).flatten.any (fun x=>!Qc x 0 100000)=false)∧W=wr)
      case atStart=>exact⟨0,Nat.zero_le _,by omega,rfl,rfl,rfl⟩
      case round=>
       obtain⟨j,hj,aO,rfl,ae,rfl⟩:=hrel
       by_cases hjt:j < k
       ·obtain⟨b,aG,y,c0,rfl,I,⟨B2,q,c2,F,Q⟩,g0⟩:=HL.out.at1 hjt
        simp only[List.cons.injEq,and_true]at F;subst F;have O:=Q.len;have aL:=Q.bd;have Z:=yh I
        have aW:(q:Int)=E:=by
         have:=List.any_eq_false.1 ad.out y (List.mem_of_getElem? I)
         simp at this;omega
        subst aW;clear I;have HQ:=yh O;clear O
        go_wp2_with fail
        go_loopg [9] q (fun gl i wr=>∃l:Nat,l≤q∧q - l≤gl∧i=.int .i64 l∧Aside ((y.take l).any (fun x=>!Qc x 0 100000)=false)∧W=wr)
        case atStart=>exact⟨0,Nat.zero_le _,by omega,rfl,rfl,rfl⟩
        case round=>
         obtain⟨l,hl,aP,rfl,ar,rfl⟩:=hrel
         by_cases hlt:l < q
         ·obtain⟨b3,aV,v,c3,rfl,hv,⟨F,v0⟩,g3⟩:=Q.at1 hlt
          simp only[List.cons.injEq,and_true]at F;subst F;have HW:=yh hv;clear hv
          go_wp2_with fail
          refine(Qk v 0 100000 _).mono ?_;rintro e w1 ⟨rfl,rfl⟩
          cases q_HB1:Qc v 0 100000<;>have au:=yh q_HB1<;>clear q_HB1
          ·have hr:r=3:=by
            have:Z3 x.leg k q=3:=by rw[al.out,if_pos (YEa Z.out (Q7a HW.out (by rw[au.out];rfl)))]
            rw[X.out,this];rfl
           subst hr
           go_wp2_with fail
           go_ret
           exact⟨rfl,D⟩
          ·go_wp2_with fail
           go_roundg (q - (l+1))
           case measure=>omega
           case rel=>exact⟨l+1,by omega,by omega,by go_num,by show _=_;rw[QF HW.out,ar,au.out];rfl,rfl⟩
         ·obtain rfl:l=q:=by omega
          have aH:=yh (List.take_of_length_le (Nat.le_of_eq HQ.out))
          go_wp2_with fail
          go_roundg (k - (j+1))
          case measure=>omega
          case rel=>exact⟨j+1,by omega,by omega,by go_num,by show _=_;rw[Vva Z.out,ae,←aH.out,ar];rfl,rfl⟩
       ·obtain rfl:j=k:=by omega
        have Y:=yh (show r=if Qc x.alone 0 200=false∨Qc x.third 0 100=false∨Qc x.down 0 100=false then 3 else Uh x.bands by
         have:Z3 x.leg j E=0:=by rw[al.out,if_neg (by rw[←HT.out,ae];simp)]
         rw[X.out,this];rfl)
        clear X al HA ad ae
        go_wp2_with fail
        refine(Qk x.alone 0 200 _).mono ?_;rintro e w1 ⟨rfl,rfl⟩
        cases q_HQa:Qc x.alone 0 200<;>have ai:=yh q_HQa<;>clear q_HQa
        ·have hr:r=3:=by rw[Y.out,if_pos (.inl ai.out)]
         subst hr
         go_wp2_with fail
         go_ret
         exact⟨rfl,D⟩
        go_wp2_with fail
        refine(Qk x.third 0 100 _).mono ?_;rintro e w1 ⟨rfl,rfl⟩
        cases q_HQt:Qc x.third 0 100<;>have ak:=yh q_HQt<;>clear q_HQt
        ·have hr:r=3:=by rw[Y.out,if_pos (.inr (.inl ak.out))]
         subst hr
         go_wp2_with fail
         go_ret
         exact⟨rfl,D⟩
        go_wp2_with fail
        refine(Qk x.down 0 100 _).mono ?_;rintro e w1 ⟨rfl,rfl⟩
        cases q_HQd:Qc x.down 0 100<;>have aj:=yh q_HQd<;>clear q_HQd
        ·have hr:r=3:=by rw[Y.out,if_pos (.inr (.inr aj.out))]
         subst hr
         go_wp2_with fail
         go_ret
         exact⟨rfl,D⟩
        have am:=yh (show r=Uh x.bands by rw[Y.out,if_neg (by rw[ai.out,ak.out,aj.out];simp)]);clear Y ai ak aj
        by_cases hm:4 < m
        ·have hr:r=2:=by rw[am.out];unfold Uh;rw[av.out,if_pos hm]
         subst hr
         go_wp2_with fail
         go_ret
         exact⟨rfl,D⟩
        have aw:=yh (show r=Qo (Zo x.bands) m by rw[am.out];unfold Uh;rw[av.out,if_neg hm]);clear am
        go_wp2_with fail
        clear aC aD aE ao aF
        go_loopg [10] m (fun gk i wr=>∃k:Nat,k≤m∧m - k≤gk∧i=.int .i64 k∧Aside (Qo (Zo x.bands) k=0)∧yw W wr)
        case atStart=>exact⟨0,Nat.zero_le _,by omega,rfl,rfl,Below.refl _ _⟩
        case round=>
         obtain⟨k,hk,aK,rfl,HE,hb⟩:=hrel;have ao:=(HF.out.below hb).c3
         by_cases hlt:k < m
         ·obtain⟨b,aG,y,c0,c1,rfl,hx,⟨F,b0,b1⟩,g0,g1⟩:=(HB.out.below Qs (by omega) hb).at2 hlt
          simp only[List.cons.injEq,and_true]at F;obtain⟨rfl,rfl⟩:=F;have HX:=yh hx;clear hx
          have fin:∀q:Int,Zo x.bands k=q→q≠0→r=q:=fun q V h2=>by
           rw[aw.out,UB (n:=m) HE.out (by rw[V];exact h2) hlt,V]
          have ac:=yh fin;clear fin;have J:=hb.alloc hb.size (.cells #[.int .i64 y.days,.int .i64 y.part] 138);have aR:=(HF.out.below J).c3
          go_wp2_with fail
          refine(Qk y.days 0 999 _).mono ?_;rintro e w1 ⟨rfl,rfl⟩
          cases q_HQ1:Qc y.days 0 999<;>have ag:=yh q_HQ1<;>clear q_HQ1
          ·have hr:r=3:=ac.out 3 (by unfold Zo;rw[HX.out,Option.getD_some,if_pos (.inl ag.out)]) (by decide)
           subst hr
           go_wp2_with fail
           go_ret
           exact⟨rfl,D.trans (J.mono D.size)⟩
          go_wp2_with fail
          refine(Qk y.part 0 100 _).mono ?_;rintro e w1 ⟨rfl,rfl⟩
          cases q_HQ2:Qc y.part 0 100<;>have ah:=yh q_HQ2<;>clear q_HQ2
          ·have hr:r=3:=ac.out 3 (by unfold Zo;rw[HX.out,Option.getD_some,if_pos (.inr ah.out)]) (by decide)
           subst hr
           go_wp2_with fail
           go_ret
           exact⟨rfl,D.trans (J.mono D.size)⟩
          have aB:k=0→Zo x.bands k=0:=fun h0=>by
           unfold Zo;rw[HX.out,Option.getD_some,if_neg (by rw[ag.out,ah.out];simp),if_neg (by omega)]
          have aA:∀z,x.bands[k - 1]? = some z→0 < k→Zo x.bands k=if y.days≤z.days∨z.part < y.part then 4 else 0:=fun z hz h0=>by
           unfold Zo;rw[HX.out,Option.getD_some,if_neg (by rw[ag.out,ah.out];simp),hz,Option.getD_some]
           by_cases e:y.days≤z.days∨z.part < y.part
           ·rw[if_pos ⟨h0,e⟩,if_pos e]
           ·rw[if_neg (fun h=>e h.2),if_neg e]
          have ax:=yh aA;have aI:=yh aB;clear aA aB
          rcases k with _ | k
          ·simp only[Nat.zero_mul,Nat.add_zero]at g0 g1
           go_wp2_with fail
           go_quiet (fail)
           go_wp2_with fail
           go_roundg (m - 1)
           case measure=>omega
           case rel=>exact⟨1,by omega,by omega,rfl,(show Aside _ from(Q4 HE.out).trans (aI.out (by trivial))),below_drewN J _⟩
          ·obtain⟨b2,aU,z,d0,d1,an,I,⟨az,y0,y1⟩,e0,e1⟩:=(HB.out.below Qs (by omega) J).at2 (show k < m by omega)
           injection an with an
           injection an with hb2 ho2 _
           subst hb2 ho2;simp only[List.cons.injEq,and_true]at az;obtain⟨rfl,rfl⟩:=az;have Hy:=yh I;clear I;have Q:IntKind.i64.wrap (k:Int)=k:=IntWalk.i64_in _ (by omega);have aQ:decide ((0:Int) < (k:Int)+1)=true:=decide_eq_true (by omega)
           have ay:y.days≤z.days∨z.part < y.part→r=4:=fun F=>ac.out 4 (by rw[ax.out z (by simpa using Hy.out) (by omega),if_pos F]) (by decide)
           have aq:=yh ay;clear ay
           by_cases hd:y.days≤z.days
           ·have hr:r=4:=aq.out (.inl hd)
            subst hr;have aJ:decide (y.days≤z.days)=true:=decide_eq_true hd
            go_wp2_with fail
            go_quiet (fail)
            go_wp2_with fail
            go_ret
            exact⟨rfl,D.trans ((below_drewN J _).mono D.size)⟩
           ·have aJ:decide (y.days≤z.days)=false:=decide_eq_false hd
            by_cases hp:z.part < y.part
            ·have hr:r=4:=aq.out (.inr hp)
             subst hr
             go_wp2_with fail
             go_quiet (fail)
             go_wp2_with fail
             go_ret
             exact⟨rfl,D.trans ((below_drewN J _).mono D.size)⟩
            ·go_wp2_with fail
             go_quiet (fail)
             go_wp2_with fail
             go_roundg (m - (k+1+1))
             case measure=>omega
             case rel=>exact⟨k+1+1,by omega,by omega,by go_num,(show Aside _ from(Q4 HE.out).trans (by rw[ax.out z (by simpa using Hy.out) (by omega),if_neg (by omega)])),below_drewN J _⟩
         ·obtain rfl:k=m:=by omega
          have hr:r=0:=by rw[aw.out];exact HE.out
          subst hr
          go_wp2_with fail
          go_ret
          exact⟨rfl,D.trans (hb.mono D.size)⟩
   ·have aT:((n:Int) != c)=true:=by simpa using hn
    have hr:r=1:=by
     have:Z3 x.leg c E=1:=by unfold Z3;rw[if_pos (.inl (by rw[af.out];exact hn))]
     rw[X.out,this];rfl
    subst hr;clear hn
    go_wp2_with fail
    go_ret
    exact⟨rfl,D⟩
instance bandK:CodK UH 2:=⟨Qs,by omega⟩
instance intsK:CodK (slC QL 1) 1:=⟨Zt Qb (by omega),by omega⟩
def Uk:Fares:=⟨[[100,200,301],[150,250,350],[500,500,500]],50,33,[⟨7,100⟩,⟨30,50⟩],20⟩
end Go.Proofs.YtjdcokpmgionjaaGreat
