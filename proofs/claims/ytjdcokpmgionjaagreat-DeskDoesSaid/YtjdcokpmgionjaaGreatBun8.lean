/-
  Laws and contracts.
-/
import Derived.Test.YtjdcokpmgionjaaGreatBun7
set_option linter.unusedSimpArgs false
set_option linter.unusedVariables false
set_option maxRecDepth 100000
set_option maxHeartbeats 20000000
namespace Go.Proofs.YtjdcokpmgionjaaGreat
open Proofs.Tryz Go.RowKit Go.Shelf
theorem XZa (N:Nat)(C:Option Addr)(I cb:Nat)(l:List Bkg)(w:World)(hl:Sl ZJ 11 w All C I cb l)(ax:X0b l N)(hN:N≤7)(hn:I≤2000000000000) :
  Calls prog 151 #[.int .i64 (N:Int),.slice C I cb] w fun e w'=>∃G,e=.returned (.slice (some ⟨G,0,none⟩) N N)∧w.heap.size≤G∧RowI w' G (QS l N) 3∧yw w w':=by
 have ae:=hl.bd;have HL:=yh hl;have HN:=yh hl.len;have ak:=yh ax;clear ax;have aK:=fun W=>Zxb N hN W;clear hl;go_enter func151,ntmps151;go_upto_region 1 with(fail);go_cut [5] (fun p wx=>∃G,p=.slice (some ⟨G,0,none⟩) N N∧w.heap.size≤G∧RowI wx G (QS (l.take 0) N) 3∧yw w wx)
 case first=>as_aux_lemma=>
  go_wp2_with fail;go_meet;exact⟨_,rfl,J5 _,by rw[List.take_zero,Xba];unfold RowI;rw[show((List.replicate N (0:Int)).map (Value.int .i64)).toArray=Array.replicate N (.int .i64 0)by simp];exact Zg _ _,Qi _ _⟩
 obtain⟨G,rfl,hG,A,ar⟩:=hcut;have HR:=yh A;clear A;have aD:=yh ar;clear ar;clear aK;obtain⟨W0,rfl⟩:=yE wc;go_wp2_with fail
 go_loopg [6] I (fun gk i wr=>∃k:Nat,k≤I∧I - k≤gk∧i=.int .i64 k∧RowI wr G (QS (l.take k) N) 3∧yw w wr)
 case atStart=>exact⟨0,M0 _,by omega,rfl,HR,aD⟩
 case round=>
  obtain⟨k,hk,aO,rfl,A,J⟩:=hrel;by_cases hlt:k < I
  ·have ai:=yh (fun i=>YRa (ak.out) k i);obtain⟨y,hy⟩:∃y,l[k]? = some y:=⟨_,J1 (by have:=HN.out;omega)⟩;have am:=yh (UPa (N:=N) hy);obtain⟨⟨o1,o2,o3⟩,o4,o5⟩:=ak _ (J6 hy);obtain⟨M,hM⟩:=yE (QS (l.take k) N);rw[←hM]at am ai A;have ac:=yh (show M.length=N by rw[hM];exact Uu _ _);have HY:=yh hy;clear hy;have HR:=yh A;clear A;have HB:=yh J;clear J;clear hM;go_wp2_with fail
   go_loopg [7] N (fun aJ j aC=>∃j0:Nat,j0≤N∧N - j0≤aJ∧j=.int .i64 j0∧RowI aC G (Vu M (fun i=>decide (i < j0) && inB y i) y.gst) 3∧yw w aC)
   case atStart=>exact⟨0,M0 _,by omega,rfl,by rw[Q8a (fun i _=>by simp)];exact HR,HB⟩
   case round=>
    obtain⟨j,aP,aN,rfl,A,J⟩:=hrel;by_cases hjt:j < N
    ·have c0:=A.cell (i:=j) (by rw[Uba,ac.out];exact hjt);have f0:=A.free j;have av:0≤y.gst∧y.gst≤4:=⟨by omega,by omega⟩;have ae:=Zcb (p:=fun i=>decide (i < j) && inB y i) ai av j;obtain⟨v,hv⟩:=yE ((Vu M (fun i=>decide (i < j) && inB y i) y.gst).getD j 0);rw[←hv]at c0 ae
     have aq:inB y j=true→Vu M (fun i=>decide (i < j+1) && inB y i) y.gst=(Vu M (fun i=>decide (i < j) && inB y i) y.gst).set j (v+y.gst):=fun ah=>by
       rw[hv]
       exact Vxa (by rw[ac.out];exact hjt) (by simp) (by simp[ah]) (fun i _ aw=>by
        have hd:decide (i < j+1)=decide (i < j):=by rw[decide_eq_decide];omega
        simp only[hd])
     have ap:inB y j=false→Vu M (fun i=>decide (i < j+1) && inB y i) y.gst=Vu M (fun i=>decide (i < j) && inB y i) y.gst:=fun ah=>
       Y8 (fun i _=>by
        by_cases aw:i=j
        ·subst aw;simp[ah]
        ·have hd:decide (i < j+1)=decide (i < j):=by rw[decide_eq_decide];omega
         simp only[hd])
     have aF:=yh (fun u=>(A.bel (J4 _ wr).drew).set j u);have aM:=yh (fun u=>(J.drew).setCell (p:=⟨G,j,none⟩) hG u);have ad:=yh (A.bel (J4 _ wr).drew);have aY:=yh A;have O:=yh J;have al:=yh aq;clear aq;have V:=yh ap;clear ap;clear hv;obtain⟨E,F,⟨id,aA,ab,Z,lev,an,ao,Y,upto,aB,aI⟩,A3,n3,c3,hA,hx,hF,hI,D⟩:=(HL.bel J).bkg hlt;subst hA;simp only at hF;have y0:yI wr E (F+k*11) id:=D 0 _ rfl;have y1:yI wr E (F+k*11+1) aA:=D 1 _ rfl;have y2:yI wr E (F+k*11+2) ab:=D 2 _ rfl;have y3:yI wr E (F+k*11+3) Z:=D 3 _ rfl;have y4:wr.cell? ⟨E,F+k*11+4,none⟩=some (.bool lev):=D 4 _ rfl;have y5:yI wr E (F+k*11+5) an:=D 5 _ rfl;have y6:yI wr E (F+k*11+6) ao:=D 6 _ rfl;have y7:yI wr E (F+k*11+7) Y:=D 7 _ rfl;have y8:yI wr E (F+k*11+8) upto:=D 8 _ rfl;have y9:yI wr E (F+k*11+9) aB:=D 9 _ rfl;have aL:yJ wr E (F+k*11+10) A3 n3 c3:=D 10 _ rfl;clear D;have X:=yh (show y=⟨id,aA,ab,Z,lev,an,ao,Y,upto,aB,aI⟩from by have h1:=HY.out;rw[hx]at h1;injection h1 with h1;exact h1.symm)
     have ag:y.gst=Z:=by rw[X.out]
     have U:=yh ag;rw[ag]at al V aF ad aY av
     have au:y.frm=Y:=by rw[X.out]
     have ay:y.upto=upto:=by rw[X.out]
     rw[au]at o1 o2;rw[ay]at o2 o3
     have aW:IntKind.i64.wrap (v+Z)=v+Z:=by have:=HN.out;rw[IntKind.wrap_i64];omega
     have aV:IntKind.i64.wrap (upto - 1)=upto - 1:=by rw[IntKind.wrap_i64];omega
     have aQ:(0:Int)≤(j:Int):=Int.natCast_nonneg _
     have aR:(j:Int) < (N:Int):=by omega
     have aS:(0:Int)≤(k:Int):=Int.natCast_nonneg _
     have aT:(k:Int) < (I:Int):=by omega
     clear hx hF hI A J ae ag au ay;by_cases hst:ab=3
     ·have Q:=yh (show inB y j=false by rw[X.out];unfold inB Qx;rw[J2 hst];rfl);subst hst;go_wp2_with fail;go_quiet (fail);go_wp2_with fail;go_roundg (N - (j+1))
      case measure=>omega
      case rel=>exact⟨j+1,by omega,by omega,by go_num,by first | (rw[U.out,V.out Q.out];exact ad) | (rw[U.out,V.out Q.out];exact aY.bel (below_drewN (J4 _ _) _)),by first | exact O.drew | exact below_drewN O _⟩
     ·have aU:(ab != 3)=true:=by simpa using hst
      have af:=fun W=>Qk (j:Int) Y (upto - 1) W;obtain⟨q,hq⟩:=yE (Qd (j:Int) Y (upto - 1));rw[←hq]at af;have aj:=yh af;clear af
      have Q:=yh (show inB y j=q by
       rw[X.out,hq];unfold inB Qx Qd;rw[J3 hst]
       have h2:decide ((j:Int) < upto)=decide ((j:Int)≤upto - 1):=by rw[decide_eq_decide];omega
       simp only[h2]
       rfl)
      clear hst hq;cases q
      ·skip;go_wp2_with fail;go_quiet (first | (go_at_call 70;refine Calls.quiet_of_same ((aj _).mono fun e w' hh=>⟨hh.1,hh.2.symm⟩)));go_wp2_with fail;go_roundg (N - (j+1))
       case measure=>omega
       case rel=>exact⟨j+1,by omega,by omega,by go_num,by first | (rw[U.out,V.out Q.out];exact ad) | (rw[U.out,V.out Q.out];exact aY.bel (below_drewN (J4 _ _) _)),by first | exact O.drew | exact below_drewN O _⟩
      ·skip;go_upto_region 8 with(fail);go_cut [43] (fun t wx=>t=.bool true∧∃n0,wx=wr.drewN n0)
       case first=>as_aux_lemma=>
        go_quiet (first | (go_at_call 70;refine Calls.quiet_of_same ((aj _).mono fun e w' hh=>⟨hh.1,hh.2.symm⟩)));go_wp2_with fail;go_meet;exact⟨rfl,_,rfl⟩
       obtain⟨rfl,n0,az⟩:=hcut
       have aa:yw wr wc:=by rw[az];exact below_drewN (J4 _ _) _
       have c0:=Qg aa c0;have f0:wc.frozen? ⟨G,j,none⟩=false:=(aY.bel aa).free j;have y3:=Qg aa y3;have aH:=yh (fun u=>((aY.bel aa).bel (J4 _ wc).drew).set j u);have aE:=yh (fun u=>((O.trans (aa.mono O.size)).drew).setCell (p:=⟨G,j,none⟩) hG u);clear az y0 y1 y2 y4 y5 y6 y7 y8 y9 aL;go_wp2_with fail;go_region_with (fail)
       all_goals
        go_wp2_with fail;go_roundg (N - (j+1))
        case measure=>omega
        case rel=>exact⟨j+1,by omega,by omega,by go_num,by rw[U.out,al.out Q.out];exact aH _,aE _⟩
    ·obtain rfl:j=N:=by omega
     have HV:=yh (show QS (l.take (k+1)) j=Vu M (fun i=>decide (i < j) && inB y i) y.gst by
      rw[am.out]
      exact Y8 (fun i hi=>by rw[ac.out]at hi;rw[J2 hi];rfl))
     have aG:=yh A;clear A;go_wp2_with fail;go_roundg (I - (k+1))
     case measure=>omega
     case rel=>exact⟨k+1,by omega,by omega,by go_num,by rw[HV.out];exact aG,J⟩
  ·obtain rfl:k=I:=by omega
   rw[M1 (Nat.le_of_eq HN.out)]at A;go_wp2_with fail;go_ret;exact⟨G,rfl,hG,A,J⟩
structure OkBk (x:Shp) (b:Bkg):Prop where
 kind:Qd b.kind 1 2=true
 state:Qd b.state 1 3=true
 id:Qd b.id 1 999999=true
 gst:1≤b.gst∧b.gst≤4
 span:VA ⟨b.frm,b.upto⟩ x.legs=0
 kindE:kindE x b=0
 til:Qd b.til 0 9999=true
 opt:b.til≠0→b.state=1
 fol:Qe b.fol=0
theorem XV {a b:Bool}(h:¬(a && b)=false):a=true∧b=true:=by cases a<;>cases b<;>simp_all
theorem Z2 {a:Bool}(h:¬a=false):a=true:=by cases a<;>simp_all
theorem Zya {x:Shp}{b:Bkg}(h:ofE x b=0):OkBk x b:=by
 unfold ofE at h;by_cases h1:(Qd b.kind 1 2 && Qd b.state 1 3)=false
 ·rw[M3 h1]at h;omega
 rw[M2 h1]at h;by_cases h2:(Qd b.id 1 999999 && Qd b.gst 1 4)=false
 ·rw[M3 h2]at h;omega
 rw[M2 h2]at h;by_cases h3:VA ⟨b.frm,b.upto⟩ x.legs≠0
 ·rw[M3 h3]at h;exact absurd h h3
 rw[M2 h3]at h;by_cases h4:Go.Proofs.YtjdcokpmgionjaaGreat.kindE x b≠0
 ·rw[M3 h4]at h;exact absurd h h4
 rw[M2 h4]at h;by_cases h5:Qd b.til 0 9999=false
 ·rw[M3 h5]at h;omega
 rw[M2 h5]at h;by_cases h6:b.til≠0∧b.state≠1
 ·rw[M3 h6]at h;omega
 rw[M2 h6]at h;obtain⟨A,D⟩:=XV h1;obtain⟨E,F⟩:=XV h2
 exact⟨A,D,E,Qm.1 F,by omega,by omega,Z2 h5,fun I=>by
  by_cases hs:b.state=1
  ·exact hs
  ·exact absurd ⟨I,hs⟩ h6,h⟩
theorem Qwa {x:Shp}{b:Bkg}(_:OkShp x)(h:OkBk x b):0≤b.frm∧b.frm < b.upto∧b.upto≤x.legs:=(Y3b h.span).2.2
theorem QYa {x:Shp}(A:OkShp x):1≤x.legs∧x.legs≤7:=Qm.1 A.legs
theorem Q0a {x:Shp}{l:List Bkg}(D:OkShp x)(h:∀b∈l,OkBk x b):U7b l:=fun b E=>by
 have A:=Qwa D (h b E);have F:=QYa D;exact⟨A.1,A.2.1,by simp only;omega⟩
theorem Zbb {x:Shp}{l:List Bkg}(E:OkShp x)(h:∀b∈l,OkBk x b):X0b l x.legs.toNat:=fun b D=>by
 have A:=Qwa E (h b D);have F:=QYa E;exact⟨⟨A.1,A.2.1,by omega⟩,(h b D).gst⟩
def Ztb (l:List Bkg) (k:Nat):List Bkg:=l.take k++l.drop (k+1)
theorem Qzb {l:List Bkg}{k:Nat}{b:Bkg}(h:l[k]? = some b):l=l.take k++b::l.drop (k+1):=by
 obtain⟨A,rfl⟩:=J0.1 h;rw[List.getElem_cons_drop,List.take_append_drop]
end Go.Proofs.YtjdcokpmgionjaaGreat
