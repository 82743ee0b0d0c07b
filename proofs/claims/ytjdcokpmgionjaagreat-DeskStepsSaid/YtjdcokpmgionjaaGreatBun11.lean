/-
  Laws and contracts.
-/
import Derived.Test.YtjdcokpmgionjaaGreatBun10
import Derived.Shelf.Spec.SlicesInsertGrow
set_option linter.unusedSimpArgs false
set_option linter.unusedVariables false
set_option maxRecDepth 100000
set_option maxHeartbeats 20000000
namespace Go.Proofs.YtjdcokpmgionjaaGreat
open Proofs.Tryz Go.RowKit Go.Shelf
theorem YTb {D A:World}{base:Nat}{v:Value}{l:List Cat}{xs U:List Value}{x0:Cat}{E:Option Addr}{O F:Nat}(V:Own XTa 2 134 D base v l xs)(Y:base≤D.heap.size)(X:D.heap.size≤A.heap.size)
  (I:Own QO 1 3 A D.heap.size (.slice E O F) x0.high U) (W:x0.name.length≤maxLen) :
  Sl XTa 2 (A.alloc (.cells #[Zf x0.name,.slice E O F] 134)) (QL base v) (some ⟨A.heap.size,0,none⟩) 1 1 [x0]:=by
 have Q:∀k,D.heap.size≤k→some k≠v.ownBlock:=fun k J e=>by have:=(V.lt k e.symm).2;omega
 exact Sl.lit1 A (QL base v) 134 x0 [Zf x0.name,.slice E O F] ⟨_,rfl,⟨U,(I.bel (Qi A _)).mono Qd (M0 _),fun k J=>⟨by have:=(I.lt k J).1;omega,Q k (I.lt k J).1⟩⟩,W⟩ ⟨by omega,Q _ X⟩
theorem Qgb (x:Shp)(A:Option Addr)(n cap:Nat)(B:Option Addr)(m aa:Nat)(w:World)(hc:Sl UX 2 w All A n cap x.cats)(hd:Sl Ut 4 w All B m aa x.cabs)(hn:n≤1000)(hm:m≤1000)(hh:∀c∈x.cats,c.high.length≤1000) :
  Calls prog 169 #[.agg #[.int .i64 x.legs,.int .i64 x.souls,.slice A n cap,.slice B m aa]] w fun e w'=>∃D I E J Q O ai av,e=.returned (.agg #[.int .i64 x.legs,.int .i64 x.souls,.slice D I E,.slice J Q O])∧Own XTa 2 134 w' w.heap.size (.slice D I E) x.cats ai∧Own Ut 4 136 w' w.heap.size (.slice J Q O) x.cabs av∧yw w w':=by
 have aU:=yh (fun W h=>Usb B m aa x.cabs W h (by omega));have aW:=yh hc.len;have HC:=yh hc;have HD:=yh hd;have HH:=yh hh;clear hh;clear hc hd;go_enter func169,ntmps169;go_upto_region 0 with(fail);go_cut [1,2] (fun p p2 wx=>∃g z,yp p g∧yp p2 z∧w.heap.size≤g∧w.heap.size≤z∧g≠z∧Blk wx g #[.int .i64 x.legs,.int .i64 x.souls,.slice A n cap,.slice B m aa] 25∧Blk wx z #[.int .i64 0,.int .i64 0,.slice none 0 0,.slice none 0 0] 25∧yw w wx)
 case first=>as_aux_lemma=>
  go_wp2_with fail;go_meet;exact⟨_,_,rfl,rfl,J5 _,by omega,by omega,QE _ _ _,QF _ _ _,Zo _ _ _⟩
 obtain⟨g,z,rfl,rfl,hg,hz,bh,hG,U,F⟩:=hcut;obtain⟨W1,rfl⟩:=yE wc;have aF:=F.size;go_upto_region 1 with(fail);go_cut [3] (fun p wx=>∃q,yp p q∧W1.heap.size≤q∧Blk wx q #[.int .i64 x.legs,.int .i64 x.souls,.slice A n cap,.slice B m aa] 25∧yw W1 wx)
 case first=>as_aux_lemma=>
  go_wp2_with (first|(refine yV (.tmp 1) hG underlying25 ?_)|(refine yX 25 (.tmp 3) (.tmp 6) W1.heap.size #[.int .i64 x.legs,.int .i64 x.souls,.slice A n cap,.slice B m aa] (Blk.new W1 #[.int .i64 0,.int .i64 0,.slice none 0 0,.slice none 0 0] 25) ?_));go_meet;exact⟨_,rfl,J5 _,(Blk.new _ _ _).row _,M5 (Qi _ _) (J5 _) _⟩
 obtain⟨q,rfl,hq,hQ,an⟩:=hcut;have bg:=hG.lt;have bk:=U.lt;have bi:=hQ.lt;replace hG:=hG.bel an;replace U:=U.bel an;replace F:=F.trans (an.mono F.size);have aE:=an.size;clear an;obtain⟨V,rfl⟩:=yE wc;have g3:yJ V g 3 B m aa:=hG.cell rfl;have aT:=yh (aU V (HD.bel F));have HG:=yh hG;clear hG;have HZ:=yh U;clear U;have HQ:=yh hQ;clear hQ;go_wp2_with fail;refine aT.mono ?_;rintro e Z ⟨vb,av,rfl,bq,aB⟩;obtain⟨J,Q,O,rfl,_⟩:=bq.sl Zx;have ag:=HQ.bel aB;have q2:yJ Z q 2 A n cap:=ag.cell rfl;have q3:yJ Z q 3 B m aa:=ag.cell rfl;have f2:Z.frozen? ⟨q,2,none⟩=false:=ag.free 2;have f3:Z.frozen? ⟨q,3,none⟩=false:=ag.free 3;have aZ:=yh ag;have af:=yh bq;have aj:=yh aB;clear ag bq aB g3;go_upto_region 3 with(fail);have aA:Blk ((Z.setCell ⟨q,2,none⟩ (.slice none 0 0)).setCell ⟨q,3,none⟩ (.slice J Q O)) q #[.int .i64 x.legs,.int .i64 x.souls,.slice none 0 0,.slice J Q O] 25:=(aZ.set (j:=2) _).set (j:=3) _;have hK:Kept (fun k=>k=q) Z ((Z.setCell ⟨q,2,none⟩ (.slice none 0 0)).setCell ⟨q,3,none⟩ (.slice J Q O)):=((yk q Z).setCell (p:=⟨q,2,none⟩) (.inl rfl) _).setCell (p:=⟨q,3,none⟩) (.inl rfl) _;obtain⟨W4,aJ⟩:=yE ((Z.setCell ⟨q,2,none⟩ (.slice none 0 0)).setCell ⟨q,3,none⟩ (.slice J Q O));rw[←aJ]at aA hK ⊢;have aG:=(HG.bel aj).kept hK (by omega);have aK:=(HZ.bel aj).kept hK (by omega);have aH:=af.kept Zx hK (fun k Y=>by omega);have aN:yw w W4:=(F.trans (aj.mono F.size)).trans (hK.below (by have:=aj.size;omega) (fun k Y=>by omega));have g2:yJ W4 g 2 A n cap:=aG.cell rfl
 have ba:V.heap.size≤W4.heap.size:=by have:=aj.size;have:=hK.size;omega
 have a0:=yh aA;clear aA;have a3:=yh aK;clear aK;have aY:=yh aH;clear aH;have aS:=yh aN;clear aN;clear aJ hK aG q2 q3 f2 f3 F;go_wp2_with fail
 go_loopg [15] n (fun gk i wr=>∃(k:Nat) (D:Option Addr) (I E:Nat) (ai:List Value),k≤n∧n-k≤gk∧i=.int .i64 k∧Blk wr q #[.int .i64 x.legs,.int .i64 x.souls,.slice D I E,.slice J Q O] 25∧Own XTa 2 134 wr V.heap.size (.slice D I E) (x.cats.take k) ai∧Own Ut 4 136 wr V.heap.size (.slice J Q O) x.cabs av∧Apart (.slice J Q O) (.slice D I E)∧Blk wr z #[.int .i64 0,.int .i64 0,.slice none 0 0,.slice none 0 0] 25∧yw w wr∧V.heap.size≤wr.heap.size)
 case atStart=>exact⟨0,none,0,0,[],M0 _,by omega,rfl,a0,Own.nil _ _ _ _ _,aY,(Apart.nilL _).symm,a3,aS,ba⟩
 case round=>
  clear g2;obtain⟨k,D,I,E,ai,Y,bf,rfl,hQ,ab,bq,aL,U,F,bj⟩:=hrel;by_cases hlt:k<n
  ·obtain⟨b,bm,⟨nm,hi⟩,d0,be,hA,hx,⟨A2,n2,c2,aP,ah,aC⟩,e0,e1⟩:=(HC.bel F).at2 hlt;simp only[List.cons.injEq,and_true]at aP;obtain⟨rfl,rfl⟩:=aP;subst hA;simp only at ah aC e0;go_upto_region 5 with(fail);go_cut [5] (fun p1 wx=>∃y,yp p1 y∧wr.heap.size≤y∧Blk wx y #[Zf nm,.slice A2 n2 c2] 134∧yw wr wx)
   case first=>as_aux_lemma=>
    go_wp2_with fail;go_meet;exact⟨_,rfl,J5 _,Zk _ _,Qi _ _⟩
   obtain⟨y,rfl,hy,hY,ac⟩:=hcut;have au:=ab.lt
   have aR:y≠q:=by omega
   have bb:some y≠(Value.slice D I E).ownBlock:=fun e=>by have:=(au y e.symm).2;omega
   have a7:some q≠(Value.slice D I E).ownBlock:=fun e=>by have:=(au q e.symm).1;omega
   have bc:some z≠(Value.slice D I E).ownBlock:=fun e=>by have:=(au z e.symm).1;omega
   replace hQ:=hQ.bel ac;replace ab:=ab.bel ac;replace bq:=bq.bel ac;replace U:=U.bel ac;replace F:=F.trans (ac.mono F.size);replace ah:=ah.bel ac
   have aQ:V.heap.size≤wc.heap.size:=by have:=ac.size;omega
   obtain⟨W5,rfl⟩:=yE wc;have a5:hi.length≤1000:=HH _ (J6 hx);have a6:=ah.len;have aV:=yh (fun X (hX:yw W5 X)=>V1a A2 n2 c2 hi X (ah.bel hX) (by omega));have ap:=yh (show ∀X,yw W5 X→(fun w'=>w'.cell? ⟨y,0,none⟩=some (Zf nm)∧yJ w' y 1 A2 n2 c2) X from fun X hX=>⟨(hY.bel hX).cell rfl,(hY.bel hX).cell rfl⟩);have l1:yJ W5 q 2 D I E:=hQ.cell rfl
   have a4:((x.cats.take k).length+1)*40≤140737488355328:=by rw[J8];omega
   have a1:=yh (Qo hx);have aw:=yh hQ;clear hQ;have ao:=yh ab;clear ab;have af:=yh bq;clear bq;have aq:=yh U;clear U;have ae:=yh F;clear F;have a2:=yh hY;clear hY;have aX:=yh aC;clear aC;have bp:yw W5 W5.drew:=(J4 _ W5).drew;clear hx ah e0 e1 ac au a6 a5;go_upto_region 6 with(fail);refine yZ (S:=(fun w'=>w'.cell? ⟨y,0,none⟩=some (Zf nm)∧yJ w' y 1 A2 n2 c2)) (ap _ bp) fun ak=>?_;refine yT [0,2,3,4,5] ?_;iterate 5 (refine yS ?_;simp only[yU])
   focus
    refine yr2 1 6 (fun K k1=>?_) (fun K k6=>?_)
    repeat first
     |
      revert k1
      intro hK;go_simp;refine hK.out _ _ (ap _ bp) fun ak=>?_;clear hK K
      try simp only[yU]
      first
       | refine yt1 6 (fun K k6=>?_)
       | refine yt1 8 (fun K k8=>?_)
       | rotate_left
     |
      revert k6
      intro hK;go_simp
      (go_at_call 220;refine(aV _ bp).mono ?_;rintro e w6 ⟨v6,bn,rfl,ay,aO⟩;obtain⟨A5,n5,c5,rfl,_⟩:=ay.sl Qd;replace bp:=bp.trans (aO.mono bp.size);have l2:=Qh bp l1)
      go_wp2_with fail;refine hK.out _ _ (ap _ bp) fun ak=>?_;clear hK K
      try simp only[yU]
      refine yT [7] ?_;iterate 1 (refine yS ?_;simp only[yU])
      first
       | refine yt2 1 8 (fun K k1=>?_) (fun K k8=>?_)
       | refine yt1 8 (fun K k8=>?_)
     |
      revert k8
      intro hK;go_simp;refine hK.out _ _ (ap _ (bp.alloc bp.size (.cells #[Zf nm,.slice A5 n5 c5] 134))) fun ak=>?_;clear hK K
      try simp only[yU]
      (have a8:=bp.size;replace bp:=bp.alloc bp.size (.cells #[Zf nm,.slice A5 n5 c5] 134);have l3:=Qh bp l1)
      first
       | refine yt1 1 (fun K k1=>?_)
       | rotate_left
    all_goals
     refine yR 9 fun K hK=>?_
     (have az:=ao.bel bp;have aI:=YTb (x0:=⟨nm,hi⟩) ao aQ a8 ay aX;have a9:=Nat.le_trans aQ bp.size;refine Uy (t:=22) (e:=134) (bytes:=40) (base:=V.heap.size) (c:=XTa) (l:=x.cats.take k) (xs:=ai) (l2:=[⟨nm,hi⟩]) (S:=QL V.heap.size (.slice D I E)) rfl (.tmp 20) (.tmp 27) rfl UHb Uh rfl rfl az aI (fun _ _ h=>h) a4 (by omega) a9 ?_;intro v' w7 bd aD ad aM;obtain⟨A8,n8,c8,rfl,_⟩:=aD.sl Uh;have am:=(a2.bel bp).grown ad bb;have ar:=(aw.bel bp).grown ad a7;have m2:yJ w7 q 2 D I E:=ar.cell rfl;have mf:w7.frozen? ⟨q,2,none⟩=false:=ar.free 2)
     refine hK.out _ _ (⟨am.cell rfl,am.cell rfl⟩) fun ak=>?_;clear hK K
     try simp only[yU]
     refine yT [10] ?_;iterate 1 (refine yS ?_;simp only[yU])
     refine yR 11 fun K hK=>?_;go_simp;refine hK.out _ _ (⟨(am.other (p:=⟨q,2,none⟩) (fun e=>aR e.symm) _).cell rfl,(am.other (p:=⟨q,2,none⟩) (fun e=>aR e.symm) _).cell rfl⟩) fun ak=>?_;clear hK K
     try simp only[yU]
     have al:Kept (fun k=>k=q) w7 (w7.setCell ⟨q,2,none⟩ (.slice A8 n8 c8)):=(yk q w7).setCell (p:=⟨q,2,none⟩) (.inl rfl) _;have p1:=aD.kept Uh al (fun k Y=>by omega);have p2:=((af.bel bp).grownF Xfa ad aL).kept Zx al (fun k Y=>by omega);have p3:=Apart.step aL (fun k Y=>((af.bel bp).lt k Y).2) aM;have p4:=(((aq.bel bp).grown ad bc).kept al (by omega));have p5:=(QA (ae.trans (bp.mono ae.size)) (az.mono Uh (Nat.le_trans aF aE)) ad (by have:=ae.size;omega)).setCell (p:=⟨q,2,none⟩) (show w.heap.size≤q by omega) (.slice A8 n8 c8);have p6:=ar.set (j:=2) (.slice A8 n8 c8)
     have p7:V.heap.size≤(w7.setCell ⟨q,2,none⟩ (.slice A8 n8 c8)).heap.size:=by have:=ad.size;have:=al.size;omega
     rw[←a1.out]at p1;clear az aI aD am ar m2 mf al ad aM ay aO;refine yD ?_;go_wp2_with fail;go_roundg (n-(k+1))
     case measure=>omega
     case rel=>exact⟨k+1,A8,n8,c8,bd,by omega,by omega,by go_num,p6,p1,p2,p3,p4,p5,p7⟩
  ·obtain rfl:k=n:=by omega
   rw[M1 (Nat.le_of_eq aW.out)]at ab
   have bl:z<V.heap.size:=by omega
   have aw:=yh hQ;clear hQ;have ao:=yh ab;clear ab;have af:=yh bq;clear bq;have aq:=yh U;clear U;have ae:=yh F;clear F;go_wp2_with (first|(refine yV (.tmp 3) aw underlying25 ?_)|(refine yX 25 (.tmp 2) (.tmp 31) z #[.int .i64 x.legs,.int .i64 x.souls,.slice D I E,.slice J Q O] aq ?_));refine yq (.agg #[.int .i64 x.legs,.int .i64 x.souls,.slice D I E,.slice J Q O]) (k:=2) (aq.row _) underlying25 ?_;have ax:Kept (fun k=>k=z) wr (wr.setRow z #[.int .i64 x.legs,.int .i64 x.souls,.slice D I E,.slice J Q O]):=(yk z wr).setRow (.inl rfl) _;exact⟨D,I,E,J,Q,O,ai,av,rfl,(ao.kept Uh ax (fun k Y=>by omega)).mono Uh (Nat.le_trans aF aE),(af.kept Zx ax (fun k Y=>by omega)).mono Zx (Nat.le_trans aF aE),ae.trans (ax.below ae.size (fun k Y=>by omega))⟩
theorem Qrc {D A:World}{base:Nat}{v:Value}{l:List (List Int)}{xs U:List Value}{x0:List Int}{E:Option Addr}{O F:Nat}(V:Own rowO 1 70 D base v l xs)(X:base≤D.heap.size)(W:D.heap.size≤A.heap.size)
  (I:Own QO 1 3 A D.heap.size (.slice E O F) x0 U) :
  Sl rowO 1 (A.alloc (.cells #[.slice E O F] 70)) (QL base v) (some ⟨A.heap.size,0,none⟩) 1 1 [x0]:=by
 have Q:∀k,D.heap.size≤k→some k≠v.ownBlock:=fun k J e=>by have:=(V.lt k e.symm).2;omega
 exact Sl.lit1 A (QL base v) 70 x0 [.slice E O F] ⟨_,rfl,⟨U,(I.bel (Qi A _)).mono Qd (M0 _),fun k J=>⟨by have:=(I.lt k J).1;omega,Q k (I.lt k J).1⟩⟩⟩ ⟨by omega,Q _ W⟩
instance bndK:CodK Vl 2:=⟨Qx,by omega⟩
theorem YKa (x:Fares)(A:Option Addr)(n cap:Nat)(B:Option Addr)(m Z:Nat)(w:World)(hf:FareR w A n cap x B m Z)(hn:n≤1000)(hm:m≤1000)(hh:∀c∈x.leg,c.length≤1000) :
  Calls prog 170 #[.agg #[.slice A n cap,.int .i64 x.alone,.int .i64 x.third,.slice B m Z,.int .i64 x.down]] w fun e w'=>∃D F E I Q J ag ao,e=.returned (.agg #[.slice D F E,.int .i64 x.alone,.int .i64 x.third,.slice I Q J,.int .i64 x.down])∧Own rowO 1 70 w' w.heap.size (.slice D F E) x.leg ag∧Own Vl 2 138 w' w.heap.size (.slice I Q J) x.bands ao∧yw w w':=by
 have hc:=hf.leg;have aP:=yh (fun W h=>Urb B m Z x.bands W h (by omega));have aR:=yh hc.len;have HC:=yh hc;have HD:=yh hf.bands;have HH:=yh hh;clear hh;clear hc hf;go_enter func170,ntmps170;go_upto_region 0 with(fail);go_cut [1,2] (fun p p2 wx=>∃g z,yp p g∧yp p2 z∧w.heap.size≤g∧w.heap.size≤z∧g≠z∧Blk wx g #[.slice A n cap,.int .i64 x.alone,.int .i64 x.third,.slice B m Z,.int .i64 x.down] 29∧Blk wx z #[.slice none 0 0,.int .i64 0,.int .i64 0,.slice none 0 0,.int .i64 0] 29∧yw w wx)
 case first=>as_aux_lemma=>
  go_wp2_with fail;go_meet;exact⟨_,_,rfl,rfl,J5 _,by omega,by omega,QE _ _ _,QF _ _ _,Zo _ _ _⟩
 obtain⟨g,z,rfl,rfl,hg,hz,a9,hG,V,O⟩:=hcut;obtain⟨W1,rfl⟩:=yE wc;have aB:=O.size;go_upto_region 1 with(fail);go_cut [3] (fun p wx=>∃q,yp p q∧W1.heap.size≤q∧Blk wx q #[.slice A n cap,.int .i64 x.alone,.int .i64 x.third,.slice B m Z,.int .i64 x.down] 29∧yw W1 wx)
 case first=>as_aux_lemma=>
  go_wp2_with (first|(refine yV (.tmp 1) hG underlying29 ?_)|(refine yX 29 (.tmp 3) (.tmp 6) W1.heap.size #[.slice A n cap,.int .i64 x.alone,.int .i64 x.third,.slice B m Z,.int .i64 x.down] (Blk.new W1 #[.slice none 0 0,.int .i64 0,.int .i64 0,.slice none 0 0,.int .i64 0] 29) ?_));go_meet;exact⟨_,rfl,J5 _,(Blk.new _ _ _).row _,M5 (Qi _ _) (J5 _) _⟩
 obtain⟨q,rfl,hq,hQ,ak⟩:=hcut;have a8:=hG.lt;have bb:=V.lt;have ba:=hQ.lt;replace hG:=hG.bel ak;replace V:=V.bel ak;replace O:=O.trans (ak.mono O.size);have aA:=ak.size;clear ak;obtain⟨U,rfl⟩:=yE wc;have g3:yJ U g 3 B m Z:=hG.cell rfl;have aO:=yh (aP U (HD.below Qx (by omega) O));have HG:=yh hG;clear hG;have HZ:=yh V;clear V;have HQ:=yh hQ;clear hQ;go_wp2_with fail;refine aO.mono ?_;rintro e Y ⟨vb,ao,rfl,aa,aw⟩;obtain⟨I,Q,J,rfl,_⟩:=aa.sl Qx;have ae:=HQ.bel aw;have q2:yJ Y q 0 A n cap:=ae.cell rfl;have q3:yJ Y q 3 B m Z:=ae.cell rfl;have f2:Y.frozen? ⟨q,0,none⟩=false:=ae.free 0;have f3:Y.frozen? ⟨q,3,none⟩=false:=ae.free 3;have aT:=yh ae;have ac:=yh aa;have ah:=yh aw;clear ae aa aw g3;go_upto_region 3 with(fail);have av:Blk ((Y.setCell ⟨q,0,none⟩ (.slice none 0 0)).setCell ⟨q,3,none⟩ (.slice I Q J)) q #[.slice none 0 0,.int .i64 x.alone,.int .i64 x.third,.slice I Q J,.int .i64 x.down] 29:=(aT.set (j:=0) _).set (j:=3) _;have hK:Kept (fun k=>k=q) Y ((Y.setCell ⟨q,0,none⟩ (.slice none 0 0)).setCell ⟨q,3,none⟩ (.slice I Q J)):=((yk q Y).setCell (p:=⟨q,0,none⟩) (.inl rfl) _).setCell (p:=⟨q,3,none⟩) (.inl rfl) _;obtain⟨W4,aF⟩:=yE ((Y.setCell ⟨q,0,none⟩ (.slice none 0 0)).setCell ⟨q,3,none⟩ (.slice I Q J));rw[←aF]at av hK ⊢;have aC:=(HG.bel ah).kept hK (by omega);have aG:=(HZ.bel ah).kept hK (by omega);have aD:=ac.kept Qx hK (fun k hk=>by omega);have aJ:yw w W4:=(O.trans (ah.mono O.size)).trans (hK.below (by have:=ah.size;omega) (fun k hk=>by omega));have g2:yJ W4 g 0 A n cap:=aC.cell rfl
 have a3:U.heap.size≤W4.heap.size:=by have:=ah.size;have:=hK.size;omega
 have aU:=yh av;clear av;have aW:=yh aG;clear aG;have aS:=yh aD;clear aD;have aN:=yh aJ;clear aJ;clear aF hK aC q2 q3 f2 f3 O;go_wp2_with fail
 go_loopg [15] n (fun gk i wr=>∃(k:Nat) (D:Option Addr) (F E:Nat) (ag:List Value),k≤n∧n-k≤gk∧i=.int .i64 k∧Blk wr q #[.slice D F E,.int .i64 x.alone,.int .i64 x.third,.slice I Q J,.int .i64 x.down] 29∧Own rowO 1 70 wr U.heap.size (.slice D F E) (x.leg.take k) ag∧Own Vl 2 138 wr U.heap.size (.slice I Q J) x.bands ao∧Apart (.slice I Q J) (.slice D F E)∧Blk wr z #[.slice none 0 0,.int .i64 0,.int .i64 0,.slice none 0 0,.int .i64 0] 29∧yw w wr∧U.heap.size≤wr.heap.size)
 case atStart=>exact⟨0,none,0,0,[],M0 _,by omega,rfl,aU,Own.nil _ _ _ _ _,aS,(Apart.nilL _).symm,aW,aN,a3⟩
 case round=>
  clear g2;obtain⟨k,D,F,E,ag,hk,a7,rfl,hQ,ad,aa,aH,V,O,a4⟩:=hrel;by_cases hlt:k<n
  ·obtain⟨b,bd,hi,d0,hA,hx,⟨A2,n2,c2,aL,az⟩,e0⟩:=(HC.below (ZU Qd (by omega)) (by omega) O).at1 hlt;simp only[List.cons.injEq,and_true]at aL;subst aL;subst hA;go_upto_region 5 with(fail);go_cut [5] (fun p1 wx=>p1=.slice A2 n2 c2∧wr=wx)
   case first=>as_aux_lemma=>
    go_wp2_with fail;go_meet;exact⟨rfl,rfl⟩
   obtain⟨rfl,rfl⟩:=hcut;have ax:=ad.lt
   have a0:some q≠(Value.slice D F E).ownBlock:=fun e=>by have:=(ax q e.symm).1;omega
   have a5:some z≠(Value.slice D F E).ownBlock:=fun e=>by have:=(ax z e.symm).1;omega
   obtain⟨W5,rfl⟩:=yE wr;have aM:=a4;have aY:hi.length≤1000:=HH _ (J6 hx);have aZ:=az.len;have aQ:=yh (fun X (hX:yw W5 X)=>V1a A2 n2 c2 hi X (az.bel hX) (by omega));have l1:yJ W5 q 0 D F E:=hQ.cell rfl
   have aX:((x.leg.take k).length+1)*24≤140737488355328:=by rw[J8];omega
   have aV:=yh (Qo hx);have ap:=yh hQ;clear hQ;have al:=yh ad;clear ad;have ac:=yh aa;clear aa;have am:=yh V;clear V;have ab:=yh O;clear O;have bg:yw W5 W5.drew:=(J4 _ W5).drew;clear hx az e0 ax aZ aY;go_upto_region 6 with(fail);refine yZ (S:=(fun _=>True)) (trivial) fun ai=>?_;refine yT [0,2] ?_;iterate 2 (refine yS ?_;simp only[yU])
   focus
    refine yr2 1 3 (fun K k1=>?_) (fun K k3=>?_)
    repeat first
     |
      revert k1
      intro hK;go_simp;refine hK.out _ _ (trivial) fun ai=>?_;clear hK K
      try simp only[yU]
      first
       | refine yt1 3 (fun K k3=>?_)
       | refine yt1 4 (fun K k4=>?_)
       | rotate_left
     |
      revert k3
      intro hK;go_simp
      (go_at_call 220;refine(aQ _ bg).mono ?_;rintro e w6 ⟨v6,be,rfl,ar,aK⟩;obtain⟨A5,n5,c5,rfl,_⟩:=ar.sl Qd;replace bg:=bg.trans (aK.mono bg.size);have l2:=Qh bg l1)
      go_wp2_with fail;refine hK.out _ _ (trivial) fun ai=>?_;clear hK K
      try simp only[yU]
      first
       | refine yt2 1 4 (fun K k1=>?_) (fun K k4=>?_)
       | refine yt1 4 (fun K k4=>?_)
     |
      revert k4
      intro hK;go_simp;refine hK.out _ _ (trivial) fun ai=>?_;clear hK K
      try simp only[yU]
      (have a1:=bg.size;replace bg:=bg.alloc bg.size (.cells #[.slice A5 n5 c5] 70);have l3:=Qh bg l1)
      first
       | refine yt1 1 (fun K k1=>?_)
       | rotate_left
    all_goals
     refine yR 5 fun K hK=>?_
     (have au:=al.bel bg;have aE:=Qrc (x0:=hi) al aM a1 ar;have a2:=Nat.le_trans aM bg.size;refine Uy (t:=26) (e:=70) (bytes:=24) (base:=U.heap.size) (c:=rowO) (l:=x.leg.take k) (xs:=ag) (l2:=[hi]) (S:=QL U.heap.size (.slice D F E)) rfl (.tmp 20) (.tmp 23) rfl X5b Ui rfl rfl au aE (fun _ _ h=>h) aX (by omega) a2 ?_;intro v' w7 a6 ay af aI;obtain⟨A8,n8,c8,rfl,_⟩:=ay.sl Ui;have an:=(ap.bel bg).grown af a0;have m2:yJ w7 q 0 D F E:=an.cell rfl;have mf:w7.frozen? ⟨q,0,none⟩=false:=an.free 0)
     refine hK.out _ _ (trivial) fun ai=>?_;clear hK K
     try simp only[yU]
     refine yT [6] ?_;iterate 1 (refine yS ?_;simp only[yU])
     refine yR 7 fun K hK=>?_;go_simp;refine hK.out _ _ (trivial) fun ai=>?_;clear hK K
     try simp only[yU]
     have aj:Kept (fun k=>k=q) w7 (w7.setCell ⟨q,0,none⟩ (.slice A8 n8 c8)):=(yk q w7).setCell (p:=⟨q,0,none⟩) (.inl rfl) _;have p1:=ay.kept Ui aj (fun k hk=>by omega);have p2:=((ac.bel bg).grownF UQa af aH).kept Qx aj (fun k hk=>by omega);have p3:=Apart.step aH (fun k hk=>((ac.bel bg).lt k hk).2) aI;have p4:=(((am.bel bg).grown af a5).kept aj (by omega));have p5:=(QA (ab.trans (bg.mono ab.size)) (au.mono Ui (Nat.le_trans aB aA)) af (by have:=ab.size;omega)).setCell (p:=⟨q,0,none⟩) (show w.heap.size≤q by omega) (.slice A8 n8 c8);have p6:=an.set (j:=0) (.slice A8 n8 c8)
     have p7:U.heap.size≤(w7.setCell ⟨q,0,none⟩ (.slice A8 n8 c8)).heap.size:=by have:=af.size;have:=aj.size;omega
     rw[←aV.out]at p1;clear au aE ay an m2 mf aj af aI ar aK;refine yD ?_;go_wp2_with fail;go_roundg (n-(k+1))
     case measure=>omega
     case rel=>exact⟨k+1,A8,n8,c8,a6,by omega,by omega,by go_num,p6,p1,p2,p3,p4,p5,p7⟩
  ·obtain rfl:k=n:=by omega
   rw[M1 (Nat.le_of_eq aR.out)]at ad
   have bc:z<U.heap.size:=by omega
   have ap:=yh hQ;clear hQ;have al:=yh ad;clear ad;have ac:=yh aa;clear aa;have am:=yh V;clear V;have ab:=yh O;clear O;go_wp2_with (first|(refine yV (.tmp 3) ap underlying29 ?_)|(refine yX 29 (.tmp 2) (.tmp 27) z #[.slice D F E,.int .i64 x.alone,.int .i64 x.third,.slice I Q J,.int .i64 x.down] am ?_));refine yq (.agg #[.slice D F E,.int .i64 x.alone,.int .i64 x.third,.slice I Q J,.int .i64 x.down]) (k:=2) (am.row _) underlying29 ?_;have aq:Kept (fun k=>k=z) wr (wr.setRow z #[.slice D F E,.int .i64 x.alone,.int .i64 x.third,.slice I Q J,.int .i64 x.down]):=(yk z wr).setRow (.inl rfl) _;exact⟨D,F,E,I,Q,J,ag,ao,rfl,(al.kept Ui aq (fun k hk=>by omega)).mono Ui (Nat.le_trans aB aA),(ac.kept Qx aq (fun k hk=>by omega)).mono Qx (Nat.le_trans aB aA),ab.trans (aq.below ab.size (fun k hk=>by omega))⟩
structure FixO (w:World) (base:Nat) (x:Sai) (p:SaiV):Prop where
 cats:∃xs,Own XTa 2 134 w base (.slice p.A p.n p.cap) x.ship.cats xs
 cabs:∃xs,Own Ut 4 136 w base (.slice p.B p.m p.cap2) x.ship.cabs xs
 leg:∃xs,Own rowO 1 70 w base (.slice p.D p.nd p.cd) x.fares.leg xs
 bands:∃xs,Own Vl 2 138 w base (.slice p.E p.ne p.ce) x.fares.bands xs
 a:InI x.fares.alone
 t:InI x.fares.third
 d:InI x.fares.down
theorem FixO.keep {w w':World}{base:Nat}{x:Sai}{p:SaiV}(h:FixO w base x p)(A:∀b,base≤b→b<w.heap.size→w'.heap[b]? = w.heap[b]?):FixO w' base x p:=by
 obtain⟨J,D⟩:=h.cats;obtain⟨O,E⟩:=h.cabs;obtain⟨Q,F⟩:=h.leg;obtain⟨U,I⟩:=h.bands;exact⟨⟨J,D.keep Uh A⟩,⟨O,E.keep Zx A⟩,⟨Q,F.keep Ui A⟩,⟨U,I.keep Qx A⟩,h.a,h.t,h.d⟩
def SaiW (w0:World) (b0:Nat) (w:World) (base:Nat) (x:Sai) (p:SaiV):Prop:=
 base≤b0∧b0≤w0.heap.size∧w0.heap.size≤w.heap.size∧(∀k,b0≤k→k<w0.heap.size→w.heap[k]? = w0.heap[k]?)∧FixO w0 b0 x p∧∃xs,Own VU 11 63 w w0.heap.size (.slice p.C p.nb p.cb) x.bks xs
def SaiO (w:World) (base:Nat) (x:Sai) (p:SaiV):Prop:=∃(w0:World) (b0:Nat),SaiW w0 b0 w base x p
section
variable {w w':World} {base:Nat} {x:Sai} {p:SaiV}
theorem SaiO.mono {A:Nat}(h:SaiO w base x p)(F:A≤base):SaiO w A x p:=by
 obtain⟨I,D,E,r⟩:=h;exact⟨I,D,Nat.le_trans F E,r⟩
theorem SaiO.keep (h:SaiO w base x p)(X:w.heap.size≤w'.heap.size)(A:∀b,base≤b→b<w.heap.size→w'.heap[b]? = w.heap[b]?):SaiO w' base x p:=by
 obtain⟨Y,D,E,F,I,J,O,xs,Q⟩:=h;exact⟨Y,D,E,F,Nat.le_trans I X,fun k U V=>(A k (by omega) (by omega)).trans (J k U V),O,xs,Q.keep Zp fun b Z W=>A b (by omega) W⟩
theorem SaiO.bel (h:SaiO w base x p)(A:yw w w'):SaiO w' base x p:=h.keep A.size fun b _ D=>A.block b D
theorem SaiO.kept {S:Nat→Prop}(h:SaiO w base x p)(A:Kept S w w')(D:∀k,base≤k→¬S k):SaiO w' base x p:=h.keep A.size fun b E F=>A.block b F (D b E)
theorem Own.slAll {α:Type}{c X:Cod α}{size:Nat}{e:TypeId}{v:Value}{l:List α}{xs:List Value}{A:Option Addr}{n cap:Nat}(h:Own c size e w base v l xs)(F:Good c)(I:Good X)(J:0<size)(E:∀{w S x cs},c w S x cs→X w S x cs)(D:v=.slice A n cap):Sl X size w All A n cap l:=by
 obtain⟨U,W,V,Q,O⟩:=h.sl F;rw[Q]at D;simp only[Value.slice.injEq]at D;obtain⟨rfl,rfl,rfl⟩:=D;exact(O.mono_cod fun x cs h=>E h).all I J
theorem SaiO.sai (h:SaiO w base x p):SaiR w x p:=by
 obtain⟨X,Q,U,V,W,D,A,xs,E⟩:=h;have A:=A.keep (w':=w) D;obtain⟨Y,F⟩:=A.cats;obtain⟨Z,I⟩:=A.cabs;obtain⟨aa,J⟩:=A.leg;obtain⟨ab,O⟩:=A.bands;exact⟨F.slAll Uh Ug (by omega) (fun h=>Xga h) rfl,I.slAll Zx Zx (by omega) (fun h=>h) rfl,⟨J.slAll Ui (ZU Qd (by omega)) (by omega) (fun h=>Qcb h) rfl,O.slAll Qx Qx (by omega) (fun h=>h) rfl,A.a,A.t,A.d⟩,E.slAll Zp Xa (by omega) (fun h=>Zza h) rfl⟩
end
theorem YQb {D A:World}{base:Nat}{v:Value}{l:List Bkg}{xs U:List Value}{b:Bkg}{E:Option Addr}{O F:Nat}(W:Own VU 11 63 D base v l xs)(Y:base≤D.heap.size)(X:D.heap.size≤A.heap.size)
  (I:Own Qm 3 140 A D.heap.size (.slice E O F) b.fol U) (V:BkIn b) :
  Sl VU 11 (A.alloc (.cells (Qk b (.slice E O F)) 63)) (QL base v) (some ⟨A.heap.size,0,none⟩) 1 1 [b]:=by
 have Q:∀k,D.heap.size≤k→some k≠v.ownBlock:=fun k J e=>by have:=(W.lt k e.symm).2;omega
 exact Sl.lit1 A (QL base v) 63 b (Qk b (.slice E O F)).toList ⟨_,rfl,⟨U,(I.bel (Qi A _)).mono Qb (M0 _),fun k J=>⟨by have:=(I.lt k J).1;omega,Q k (I.lt k J).1⟩⟩,V⟩ ⟨by omega,Q _ X⟩
theorem VX (w:World)(q:Nat)(l:List (Nat×Value)):Kept (fun k=>k=q) w (l.foldl (fun w p=>w.setCell ⟨q,p.1,none⟩ p.2) w):=by
 have:∀(l:List (Nat×Value)) (u:World),Kept (fun k=>k=q) w u→Kept (fun k=>k=q) w (l.foldl (fun w p=>w.setCell ⟨q,p.1,none⟩ p.2) u):=by
  intro l
  induction l with
  | nil=>exact fun u h=>h
  | cons x l ih=>exact fun u h=>ih _ (h.setCell (p:=⟨q,x.1,none⟩) (.inl rfl) x.2)
 exact this l w (Kept.refl _ _)
theorem UI (x:Sai)(p:SaiV)(w:World)(h:SaiR w x p)(ho:OkSai x) :
  Calls prog 82 #[.agg (Qa x p)] w fun e w'=>∃p',e=.returned (.agg (Qa x p'))∧SaiO w' w.heap.size x p'∧yw w w':=by
 obtain⟨A,n,cap,B,m,an,D,nd,cd,E,ne,ce,C,nb,cb⟩:=p;have hl:Sl ZP 11 w All C nb cb x.bks:=h.bks;have hc:Sl UX 2 w All A n cap x.ship.cats:=h.cats;have hd:Sl Ut 4 w All B m an x.ship.cabs:=h.cabs;have hf:FareR w D nd cd x.fares E ne ce:=h.fares;have az:=Vz ho.fares
 have bL:n≤1000:=by have:=ho.bs.ship.cats5;rw[hc.len]at this;omega
 have bJ:m≤1000:=by have:=ho.bs.ship.cabs12;rw[hd.len]at this;omega
 have b4:nb≤16:=by have:=ho.bs.len;rwa [hl.len]at this
 have bM:nd≤1000:=by have h1:=az.len;have h2:=az.cr;have:=hf.leg.len;omega
 have bN:ne≤1000:=by have:=az.four;have:=hf.bands.len;omega
 have bC:=yh (fun W h1 h2=>Qgb x.ship A n cap B m an W h1 h2 bL bJ (fun c hc=>by have:=ho.bs.ship.ok.few c hc;omega));have bp:=yh (fun W h1=>YKa x.fares D nd cd E ne ce W h1 bM bN (fun c hc=>by have:=az.lens c hc;have:=az.mr;omega));have bq:=yh (fun b (hb:b∈x.bks)=>U3 (ho.bs.bk b hb).fol);have aR:=yh (show InI x.fares.alone∧InI x.fares.third∧InI x.fares.down from⟨hf.a,hf.t,hf.d⟩);have bx:=yh hl.len;have HL:=yh hl;have HC:=yh hc;have HD:=yh hd;have HF:=yh hf;clear h hl hc hd hf az ho;go_enter func82,ntmps82;go_upto_region 0 with(fail);go_cut [1,2] (fun p p2 wx=>∃g z,yp p g∧yp p2 z∧w.heap.size≤g∧w.heap.size≤z∧g≠z∧Blk wx g (Qa x ⟨A,n,cap,B,m,an,D,nd,cd,E,ne,ce,C,nb,cb⟩) 32∧Blk wx z M9 32∧yw w wx)
 case first=>as_aux_lemma=>
  go_wp2_with fail;go_meet;exact⟨_,_,rfl,rfl,J5 _,by omega,by omega,QE _ _ _,QF _ _ _,Zo _ _ _⟩
 obtain⟨g,z,rfl,rfl,hg,hz,b3,hG,hZ,hb⟩:=hcut;obtain⟨W1,rfl⟩:=yE wc;have bS:=hb.size;go_upto_region 1 with(fail);go_cut [3] (fun p wx=>∃q,yp p q∧W1.heap.size≤q∧Blk wx q (Qa x ⟨A,n,cap,B,m,an,D,nd,cd,E,ne,ce,C,nb,cb⟩) 32∧yw W1 wx)
 case first=>as_aux_lemma=>
  go_wp2_with (first|(refine yV (.tmp 1) hG underlying32 ?_)|(refine yX 32 (.tmp 3) (.tmp 6) W1.heap.size (Qa x ⟨A,n,cap,B,m,an,D,nd,cd,E,ne,ce,C,nb,cb⟩) (Blk.new W1 M9 32) ?_));go_meet;exact⟨_,rfl,J5 _,(Blk.new _ _ _).row _,M5 (Qi _ _) (J5 _) _⟩
 obtain⟨q,rfl,hq,hQ,aE⟩:=hcut;have b2:=hG.lt;have b7:=hZ.lt;have b5:=hQ.lt;replace hG:=hG.bel aE;replace hZ:=hZ.bel aE;replace hb:=hb.trans (aE.mono hb.size);have bR:=aE.size;clear aE;obtain⟨W2,rfl⟩:=yE wc;have HG:=yh hG;clear hG;have HZ:=yh hZ;clear hZ;have HQ:=yh hQ;clear hQ;have HB:=yh hb;clear hb;have aH:=yh (show ∀X,yw W2 X→(fun w'=>yI w' g 0 x.ship.legs∧yI w' g 1 x.ship.souls∧yJ w' g 2 A n cap∧yJ w' g 3 B m an∧yJ w' g 4 D nd cd∧yI w' g 5 x.fares.alone∧yI w' g 6 x.fares.third∧yJ w' g 7 E ne ce∧yI w' g 8 x.fares.down) X from fun X hX=>⟨(HG.bel hX).cell rfl,(HG.bel hX).cell rfl,(HG.bel hX).cell rfl,(HG.bel hX).cell rfl,(HG.bel hX).cell rfl,(HG.bel hX).cell rfl,(HG.bel hX).cell rfl,(HG.bel hX).cell rfl,(HG.bel hX).cell rfl⟩);go_upto_region 2 with(fail);go_cut [3] (fun p wx=>yp p q∧∃J n1 Q O m1 U Y ac aa Z ad cg,Blk wx q (Qa x ⟨J,n1,Q,O,m1,U,Y,ac,aa,Z,ad,cg,none,0,0⟩) 32∧FixO wx W2.heap.size x ⟨J,n1,Q,O,m1,U,Y,ac,aa,Z,ad,cg,none,0,0⟩∧Kept (fun k=>k=q) W2 wx)
 case first=>as_aux_lemma=>
  have cc:yw W2 W2.drew:=(J4 _ W2).drew;have HT:=yh (fun X (hX:yw W2 X)=>HB.trans (hX.mono HB.size));refine yZ (S:=(fun w'=>yI w' g 0 x.ship.legs∧yI w' g 1 x.ship.souls∧yJ w' g 2 A n cap∧yJ w' g 3 B m an∧yJ w' g 4 D nd cd∧yI w' g 5 x.fares.alone∧yI w' g 6 x.fares.third∧yJ w' g 7 E ne ce∧yI w' g 8 x.fares.down)) (aH _ cc) fun ae=>?_;refine yT [0,1,3,4] ?_;iterate 4 (refine yS ?_;simp only[yU])
  refine yR 2 fun K hK=>?_;go_simp
  (go_at_call 169;refine(bC _ (HC.bel (HT _ cc)) (HD.bel (HT _ cc))).mono ?_;rintro e w4 ⟨J,n1,Q,O,m1,U,aA,bX,rfl,af,aN,bc⟩;have ax:=cc.size;replace af:=af.mono Uh ax;replace aN:=aN.mono Zx ax;replace cc:=cc.trans (bc.mono cc.size);have H1:=yh af;have H2:=yh aN;clear af aN bc ax)
  go_wp2_with fail;refine hK.out _ _ (aH _ cc) fun ae=>?_;clear hK K
  try simp only[yU]
  refine yT [6] ?_;iterate 1 (refine yS ?_;simp only[yU])
  refine yR 5 fun K hK=>?_;go_simp
  (go_at_call 170;refine(bp _ (HF.below (HT _ cc))).mono ?_;rintro e I ⟨Y,ac,aa,Z,ad,cg,bY,bZ,rfl,aO,aP,aQ⟩;have ax:=cc.size;replace aO:=aO.mono Ui ax;replace aP:=aP.mono Qx ax;have bl:=yh (H1.bel aQ);have bm:=yh (H2.bel aQ);replace cc:=cc.trans (aQ.mono cc.size);have H3:=yh aO;have H4:=yh aP;clear aO aP aQ ax)
  go_wp2_with fail;refine hK.out _ _ (aH _ cc) fun ae=>?_;clear hK K
  try simp only[yU]
  have cf:=HQ.bel cc;have a8:=HG.bel cc;have q0:yI I q 0 x.ship.legs:=cf.cell rfl;have q1:yI I q 1 x.ship.souls:=cf.cell rfl;have q2:yJ I q 2 A n cap:=cf.cell rfl;have q3:yJ I q 3 B m an:=cf.cell rfl;have q4:yJ I q 4 D nd cd:=cf.cell rfl;have q5:yI I q 5 x.fares.alone:=cf.cell rfl;have q6:yI I q 6 x.fares.third:=cf.cell rfl;have q7:yJ I q 7 E ne ce:=cf.cell rfl;have q8:yI I q 8 x.fares.down:=cf.cell rfl;have bj:yJ I q 11 C nb cb:=cf.cell rfl;have f0:=cf.free 0;have f1:=cf.free 1;have f2:=cf.free 2;have f3:=cf.free 3;have f4:=cf.free 4;have f5:=cf.free 5;have f6:=cf.free 6;have f7:=cf.free 7;have f8:=cf.free 8;have a6:=cf.free 11;have aC:=yh (show ∀X,Blk X g (Qa x ⟨A,n,cap,B,m,an,D,nd,cd,E,ne,ce,C,nb,cb⟩) 32→(fun w'=>yI w' g 0 x.ship.legs∧yI w' g 1 x.ship.souls∧yJ w' g 2 A n cap∧yJ w' g 3 B m an∧yJ w' g 4 D nd cd∧yI w' g 5 x.fares.alone∧yI w' g 6 x.fares.third∧yJ w' g 7 E ne ce∧yI w' g 8 x.fares.down) X from fun X hX=>⟨hX.cell rfl,hX.cell rfl,hX.cell rfl,hX.cell rfl,hX.cell rfl,hX.cell rfl,hX.cell rfl,hX.cell rfl,hX.cell rfl⟩)
  have aF:¬g=q:=by omega
  have bo:=yh cc;have aB:=yh cf;have a3:=yh a8;clear cf a8;refine yR 7 fun K hK=>?_;go_simp;refine hK.out _ _ (aC _ (a3.kept (show Kept (fun k=>k=q) I ((((I.setCell ⟨q,0,none⟩ (.int .i64 x.ship.legs)).setCell ⟨q,1,none⟩ (.int .i64 x.ship.souls)).setCell ⟨q,2,none⟩ (.slice J n1 Q)).setCell ⟨q,3,none⟩ (.slice O m1 U))from VX I q [(0,.int .i64 x.ship.legs),(1,.int .i64 x.ship.souls),(2,.slice J n1 Q),(3,.slice O m1 U)]) aF)) fun ae=>?_;clear hK K
  try simp only[yU]
  have V:Blk ((((I.setCell ⟨q,0,none⟩ (.int .i64 x.ship.legs)).setCell ⟨q,1,none⟩ (.int .i64 x.ship.souls)).setCell ⟨q,2,none⟩ (.slice J n1 Q)).setCell ⟨q,3,none⟩ (.slice O m1 U)) q #[.int .i64 x.ship.legs,.int .i64 x.ship.souls,.slice J n1 Q,.slice O m1 U,.slice D nd cd,.int .i64 x.fares.alone,.int .i64 x.fares.third,.slice E ne ce,.int .i64 x.fares.down,.int .i64 x.day,.int .i64 x.leaves,.slice C nb cb,.bool x.closed] 32:=(((aB.set (j:=0) _).set (j:=1) _).set (j:=2) _).set (j:=3) _;have aK:Kept (fun k=>k=q) I ((((I.setCell ⟨q,0,none⟩ (.int .i64 x.ship.legs)).setCell ⟨q,1,none⟩ (.int .i64 x.ship.souls)).setCell ⟨q,2,none⟩ (.slice J n1 Q)).setCell ⟨q,3,none⟩ (.slice O m1 U)):=VX I q [(0,.int .i64 x.ship.legs),(1,.int .i64 x.ship.souls),(2,.slice J n1 Q),(3,.slice O m1 U)];clear q0 q1 q2 q3 q4 q5 q6 q7 q8 bj f0 f1 f2 f3 f4 f5 f6 f7 f8 a6 ae;obtain⟨F,bf⟩:=yE ((((I.setCell ⟨q,0,none⟩ (.int .i64 x.ship.legs)).setCell ⟨q,1,none⟩ (.int .i64 x.ship.souls)).setCell ⟨q,2,none⟩ (.slice J n1 Q)).setCell ⟨q,3,none⟩ (.slice O m1 U));rw[←bf]at V aK ⊢;clear bf;have aT:=a3.kept aK aF;have ae:=aC _ aT;have q4:yJ F q 4 D nd cd:=V.cell rfl;have q5:yI F q 5 x.fares.alone:=V.cell rfl;have q6:yI F q 6 x.fares.third:=V.cell rfl;have q7:yJ F q 7 E ne ce:=V.cell rfl;have q8:yI F q 8 x.fares.down:=V.cell rfl;have f4:=V.free 4;have f5:=V.free 5;have f6:=V.free 6;have f7:=V.free 7;have f8:=V.free 8;have bA:=yh V;have bv:=yh aK;have a4:=yh aT;clear V aK aT;refine yT [8] ?_;iterate 1 (refine yS ?_;simp only[yU])
  refine yR 9 fun K hK=>?_;go_simp;refine hK.out _ _ (aC _ (a4.kept (show Kept (fun k=>k=q) F (((((F.setCell ⟨q,4,none⟩ (.slice Y ac aa)).setCell ⟨q,5,none⟩ (.int .i64 x.fares.alone)).setCell ⟨q,6,none⟩ (.int .i64 x.fares.third)).setCell ⟨q,7,none⟩ (.slice Z ad cg)).setCell ⟨q,8,none⟩ (.int .i64 x.fares.down))from VX F q [(4,.slice Y ac aa),(5,.int .i64 x.fares.alone),(6,.int .i64 x.fares.third),(7,.slice Z ad cg),(8,.int .i64 x.fares.down)]) aF)) fun ae=>?_;clear hK K
  try simp only[yU]
  have aD:Blk (((((F.setCell ⟨q,4,none⟩ (.slice Y ac aa)).setCell ⟨q,5,none⟩ (.int .i64 x.fares.alone)).setCell ⟨q,6,none⟩ (.int .i64 x.fares.third)).setCell ⟨q,7,none⟩ (.slice Z ad cg)).setCell ⟨q,8,none⟩ (.int .i64 x.fares.down)) q #[.int .i64 x.ship.legs,.int .i64 x.ship.souls,.slice J n1 Q,.slice O m1 U,.slice Y ac aa,.int .i64 x.fares.alone,.int .i64 x.fares.third,.slice Z ad cg,.int .i64 x.fares.down,.int .i64 x.day,.int .i64 x.leaves,.slice C nb cb,.bool x.closed] 32:=((((bA.set (j:=4) _).set (j:=5) _).set (j:=6) _).set (j:=7) _).set (j:=8) _;have aL:Kept (fun k=>k=q) F (((((F.setCell ⟨q,4,none⟩ (.slice Y ac aa)).setCell ⟨q,5,none⟩ (.int .i64 x.fares.alone)).setCell ⟨q,6,none⟩ (.int .i64 x.fares.third)).setCell ⟨q,7,none⟩ (.slice Z ad cg)).setCell ⟨q,8,none⟩ (.int .i64 x.fares.down)):=VX F q [(4,.slice Y ac aa),(5,.int .i64 x.fares.alone),(6,.int .i64 x.fares.third),(7,.slice Z ad cg),(8,.int .i64 x.fares.down)];clear q4 q5 q6 q7 q8 f4 f5 f6 f7 f8 ae;obtain⟨w9,bg⟩:=yE (((((F.setCell ⟨q,4,none⟩ (.slice Y ac aa)).setCell ⟨q,5,none⟩ (.int .i64 x.fares.alone)).setCell ⟨q,6,none⟩ (.int .i64 x.fares.third)).setCell ⟨q,7,none⟩ (.slice Z ad cg)).setCell ⟨q,8,none⟩ (.int .i64 x.fares.down));rw[←bg]at aD aL ⊢;clear bg;have aU:=a4.kept aL aF;have ae:=aC _ aU;have bj:yJ w9 q 11 C nb cb:=aD.cell rfl;have a6:=aD.free 11;have bB:=yh aD;have bw:=yh aL;have bt:=yh aU;clear aD aL aU;refine yT [10] ?_;iterate 1 (refine yS ?_;simp only[yU])
  refine yR 11 fun K hK=>?_;go_simp;refine hK.out _ _ (aC _ (bt.kept ((yk q w9).setCell (p:=⟨q,11,none⟩) (.inl rfl) (.slice none 0 0)) aF)) fun ae=>?_;clear hK K
  try simp only[yU]
  refine yD ?_;go_wp2_with fail;go_meet;have a9:Kept (fun k=>k=q) I (w9.setCell ⟨q,11,none⟩ (.slice none 0 0)):=(bv.trans bw).setCell (p:=⟨q,11,none⟩) (.inl rfl) (.slice none 0 0);refine⟨rfl,J,n1,Q,O,m1,U,Y,ac,aa,Z,ad,cg,bB.set (j:=11) _,?_,?_⟩
  ·exact FixO.keep (w:=I) ⟨⟨aA,bl⟩,⟨bX,bm⟩,⟨bY,H3⟩,⟨bZ,H4⟩,aR.1,aR.2.1,aR.2.2⟩ fun b hb aZ=>a9.block b aZ (by omega)
  ·exact(Kept.of_below bo (fun k hk h2=>by omega)).trans a9
 obtain⟨rfl,J,n1,Q,O,m1,U,Y,ac,aa,Z,ad,cg,hQ,a7,hK⟩:=hcut;obtain⟨W3,rfl⟩:=yE wc;have hG:=HG.kept hK (by omega);have hZ:=HZ.kept hK (by omega);have hb:=HB.trans (hK.below (B:=w.heap.size) HB.size (fun k hk=>by omega));have bT:W2.heap.size≤W3.heap.size:=hK.size;have bG:yJ W3 g 11 C nb cb:=hG.cell rfl;have br:=yh a7;clear a7;have bz:=yh hQ;clear hQ;have bF:=yh hZ;clear hZ;have a1:=yh hb;clear hb;clear hG hK HG HZ HQ HB aH;go_wp2_with fail
 go_loopg [19] nb (fun gk i wr=>∃(k:Nat) (C1:Option Addr) (ak ah:Nat) (aA:List Value),k≤nb∧nb-k≤gk∧i=.int .i64 k∧Blk wr q (Qa x ⟨J,n1,Q,O,m1,U,Y,ac,aa,Z,ad,cg,C1,ak,ah⟩) 32∧Own VU 11 63 wr W3.heap.size (.slice C1 ak ah) (x.bks.take k) aA∧Kept (fun k=>k=q∨W3.heap.size≤k) W3 wr)
 case atStart=>exact⟨0,none,0,0,[],M0 _,by omega,rfl,bz,Own.nil _ _ _ _ _,Kept.refl _ _⟩
 case round=>
  clear bG;obtain⟨k,C1,ak,ah,aA,hk,b1,rfl,hQ,af,hK⟩:=hrel;have bh:=hK.size;have hb:=a1.trans (hK.below (B:=w.heap.size) a1.size (fun k hk=>by omega));by_cases aZ:k<nb
  ·skip;obtain⟨ab,al,⟨id,ar,au,aq,lev,am,ao,ap,upto,av,aJ⟩,A3,n3,c3,hA,hx,hF,hI,aj⟩:=(HL.bel hb).bkg aZ;subst hA;simp only at hF;have y0:yI wr ab (al+k*11) id:=aj 0 _ rfl;have y1:yI wr ab (al+k*11+1) ar:=aj 1 _ rfl;have y2:yI wr ab (al+k*11+2) au:=aj 2 _ rfl;have y3:yI wr ab (al+k*11+3) aq:=aj 3 _ rfl;have y4:wr.cell? ⟨ab,al+k*11+4,none⟩=some (.bool lev):=aj 4 _ rfl;have y5:yI wr ab (al+k*11+5) am:=aj 5 _ rfl;have y6:yI wr ab (al+k*11+6) ao:=aj 6 _ rfl;have y7:yI wr ab (al+k*11+7) ap:=aj 7 _ rfl;have y8:yI wr ab (al+k*11+8) upto:=aj 8 _ rfl;have y9:yI wr ab (al+k*11+9) av:=aj 9 _ rfl;have b0:yJ wr ab (al+k*11+10) A3 n3 c3:=aj 10 _ rfl;clear aj;go_upto_region 5 with(fail);go_cut [5] (fun p1 wx=>∃y,yp p1 y∧wr.heap.size≤y∧Blk wx y (Qk ⟨id,ar,au,aq,lev,am,ao,ap,upto,av,aJ⟩ (.slice A3 n3 c3)) 63∧yw wr wx)
   case first=>as_aux_lemma=>
    go_wp2_with fail;go_meet;exact⟨_,rfl,J5 _,Zk _ _,Qi _ _⟩
   obtain⟨y,rfl,hy,hY,ay⟩:=hcut;clear y0 y1 y2 y3 y4 y5 y6 y7 y8 y9 b0;have aY:=af.lt
   have bV:y≠q:=by omega
   have bU:some y≠(Value.slice C1 ak ah).ownBlock:=fun e=>by have:=(aY y e.symm).2;omega
   have bO:some q≠(Value.slice C1 ak ah).ownBlock:=fun e=>by have:=(aY q e.symm).1;omega
   replace hQ:=hQ.bel ay;replace af:=af.bel ay;replace hF:=hF.bel ay;replace hK:=hK.trans (Kept.of_below ay (fun k hk h2=>by omega))
   have bi:W3.heap.size≤wc.heap.size:=by have:=ay.size;omega
   obtain⟨W5,rfl⟩:=yE wc;have be:=bq _ (J6 hx);have bK:=hF.len;simp only at be;have bn:=yh (fun X (hX:yw W5 X)=>Z0a ⟨id,ar,au,aq,lev,am,ao,ap,upto,av,aJ⟩ A3 n3 c3 X (hF.bel hX) (by omega));have aI:=yh (show ∀X,yw W5 X→(fun w'=>yI w' y 0 id∧yI w' y 1 ar∧yI w' y 2 au∧yI w' y 3 aq∧w'.cell? ⟨y,4,none⟩=some (.bool lev)∧yI w' y 5 am∧yI w' y 6 ao∧yI w' y 7 ap∧yI w' y 8 upto∧yI w' y 9 av∧yJ w' y 10 A3 n3 c3) X from fun X hX=>⟨(hY.bel hX).cell rfl,(hY.bel hX).cell rfl,(hY.bel hX).cell rfl,(hY.bel hX).cell rfl,(hY.bel hX).cell rfl,(hY.bel hX).cell rfl,(hY.bel hX).cell rfl,(hY.bel hX).cell rfl,(hY.bel hX).cell rfl,(hY.bel hX).cell rfl,(hY.bel hX).cell rfl⟩);have l1:yJ W5 q 11 C1 ak ah:=hQ.cell rfl
   have bI:((x.bks.take k).length+1)*104≤140737488355328:=by rw[J8];omega
   have bD:=yh (Qo hx);have aB:=yh hQ;clear hQ;have aG:=yh af;clear af;have aS:=yh hK;clear hK;have bE:=yh hY;clear hY;have bu:=yh hI;clear hI;have cc:yw W5 W5.drew:=(J4 _ W5).drew;clear hx hF ay aY bK be hb;go_upto_region 6 with(fail);refine yZ (S:=(fun w'=>yI w' y 0 id∧yI w' y 1 ar∧yI w' y 2 au∧yI w' y 3 aq∧w'.cell? ⟨y,4,none⟩=some (.bool lev)∧yI w' y 5 am∧yI w' y 6 ao∧yI w' y 7 ap∧yI w' y 8 upto∧yI w' y 9 av∧yJ w' y 10 A3 n3 c3)) (aI _ cc) fun ae=>?_;refine yT [0,2] ?_;iterate 2 (refine yS ?_;simp only[yU])
   focus
    refine yr2 1 3 (fun K k1=>?_) (fun K k3=>?_)
    repeat first
     |
      revert k1
      intro hK;go_simp;refine hK.out _ _ (aI _ cc) fun ae=>?_;clear hK K
      try simp only[yU]
      first
       | refine yt1 3 (fun K k3=>?_)
       | refine yt1 4 (fun K k4=>?_)
       | rotate_left
     |
      revert k3
      intro hK;go_simp
      (go_at_call 171;refine(bn _ cc).mono ?_;rintro e w6 ⟨v6,ca,rfl,aW,bd⟩;obtain⟨A5,n5,c5,rfl,_⟩:=aW.sl Qb;replace cc:=cc.trans (bd.mono cc.size);have l2:=Qh cc l1)
      go_wp2_with fail;refine hK.out _ _ (aI _ cc) fun ae=>?_;clear hK K
      try simp only[yU]
      first
       | refine yt2 1 4 (fun K k1=>?_) (fun K k4=>?_)
       | refine yt1 4 (fun K k4=>?_)
     |
      revert k4
      intro hK;go_simp;refine hK.out _ _ (aI _ (cc.alloc cc.size (.cells #[.int .i64 id,.int .i64 ar,.int .i64 au,.int .i64 aq,.bool lev,.int .i64 am,.int .i64 ao,.int .i64 ap,.int .i64 upto,.int .i64 av,.slice A5 n5 c5] 63))) fun ae=>?_;clear hK K
      try simp only[yU]
      (have bP:=cc.size;replace cc:=cc.alloc cc.size (.cells #[.int .i64 id,.int .i64 ar,.int .i64 au,.int .i64 aq,.bool lev,.int .i64 am,.int .i64 ao,.int .i64 ap,.int .i64 upto,.int .i64 av,.slice A5 n5 c5] 63);have l3:=Qh cc l1)
      first
       | refine yt1 1 (fun K k1=>?_)
       | rotate_left
    all_goals
     refine yR 5 fun K hK=>?_
     (have aX:=aG.bel cc;have bb:=YQb (b:=⟨id,ar,au,aq,lev,am,ao,ap,upto,av,aJ⟩) aG bi bP aW bu;have bQ:=Nat.le_trans bi cc.size;refine Uy (t:=30) (e:=63) (bytes:=104) (base:=W3.heap.size) (c:=VU) (l:=x.bks.take k) (xs:=aA) (l2:=[⟨id,ar,au,aq,lev,am,ao,ap,upto,av,aJ⟩]) (S:=QL W3.heap.size (.slice C1 ak ah)) rfl (.tmp 24) (.tmp 27) rfl Xk Zp rfl rfl aX bb (fun _ _ h=>h) bI (by omega) bQ ?_;intro v' F bW a0 aw bH;obtain⟨A8,n8,c8,rfl,_⟩:=a0.sl Zp;have ag:=(bE.bel cc).grown aw bU;have V:=(aB.bel cc).grown aw bO;have m2:yJ F q 11 C1 ak ah:=V.cell rfl;have mf:F.frozen? ⟨q,11,none⟩=false:=V.free 11)
     refine hK.out _ _ (⟨ag.cell rfl,ag.cell rfl,ag.cell rfl,ag.cell rfl,ag.cell rfl,ag.cell rfl,ag.cell rfl,ag.cell rfl,ag.cell rfl,ag.cell rfl,ag.cell rfl⟩) fun ae=>?_;clear hK K
     try simp only[yU]
     refine yT [6] ?_;iterate 1 (refine yS ?_;simp only[yU])
     have ai:=ag.other (p:=⟨q,11,none⟩) (fun e=>bV e.symm) (.slice A8 n8 c8);refine yR 7 fun K hK=>?_;go_simp;refine hK.out _ _ (⟨ai.cell rfl,ai.cell rfl,ai.cell rfl,ai.cell rfl,ai.cell rfl,ai.cell rfl,ai.cell rfl,ai.cell rfl,ai.cell rfl,ai.cell rfl,ai.cell rfl⟩) fun ae=>?_;clear hK K
     try simp only[yU]
     have aV:Kept (fun k=>k=q) F (F.setCell ⟨q,11,none⟩ (.slice A8 n8 c8)):=(yk q F).setCell (p:=⟨q,11,none⟩) (.inl rfl) _;have p1:=a0.kept Zp aV (fun k hk=>by omega);have p6:=V.set (j:=11) (.slice A8 n8 c8);have ba:Kept (fun k=>W3.heap.size≤k) (w6.alloc (.cells #[.int .i64 id,.int .i64 ar,.int .i64 au,.int .i64 aq,.bool lev,.int .i64 am,.int .i64 ao,.int .i64 ap,.int .i64 upto,.int .i64 av,.slice A5 n5 c5] 63)) F:=⟨aw.os,aw.tape,aw.output,aw.size,fun j hj hn=>aw.block j hj (fun e=>hn (aX.lt j e.symm).1)⟩;have p2:Kept (fun k=>k=q∨W3.heap.size≤k) W3 (F.setCell ⟨q,11,none⟩ (.slice A8 n8 c8)):=((aS.trans (Kept.of_below cc (fun j hj h2=>.inr (by omega)))).trans (ba.mono fun j _ hj=>.inr hj)).trans (aV.mono fun j _ hj=>.inl hj);rw[←bD.out]at p1;clear aX bb a0 ag V m2 mf aV aw bH aW bd ba ai;refine yD ?_;go_wp2_with fail;go_roundg (nb-(k+1))
     case measure=>omega
     case rel=>exact⟨k+1,A8,n8,c8,bW,by omega,by omega,by go_num,p6,p1,p2⟩
  ·obtain rfl:k=nb:=by omega
   rw[M1 (Nat.le_of_eq bx.out)]at af
   have b8:z<W3.heap.size:=by omega
   have b9:z≠q:=by omega
   have b6:q<W3.heap.size:=by omega
   have hZ:=bF.kept hK (by omega);have aB:=yh hQ;clear hQ;have aG:=yh af;clear af;have aS:=yh hK;clear hK;have a5:=yh hZ;clear hZ;have a2:=yh hb;clear hb;go_wp2_with (first|(refine yV (.tmp 3) aB underlying32 ?_)|(refine yX 32 (.tmp 2) (.tmp 31) z (Qa x ⟨J,n1,Q,O,m1,U,Y,ac,aa,Z,ad,cg,C1,ak,ah⟩) a5 ?_));refine yq (.agg (Qa x ⟨J,n1,Q,O,m1,U,Y,ac,aa,Z,ad,cg,C1,ak,ah⟩)) (k:=2) (a5.row _) underlying32 ?_;have aM:Kept (fun k=>k=z) wr (wr.setRow z (Qa x ⟨J,n1,Q,O,m1,U,Y,ac,aa,Z,ad,cg,C1,ak,ah⟩)):=(yk z wr).setRow (.inl rfl) _;refine⟨⟨J,n1,Q,O,m1,U,Y,ac,aa,Z,ad,cg,C1,ak,ah⟩,rfl,⟨W3,W2.heap.size,Nat.le_trans bS bR,bT,Nat.le_trans bh aM.size,fun j hj hl=>?_,?_,aA,aG.kept Zp aM (fun j hj=>by omega)⟩,a2.trans (aM.below a2.size (fun k hk=>by omega))⟩
   ·exact(aM.block j (Nat.lt_of_lt_of_le hl bh) (by omega)).trans (aS.block j hl (by omega))
   ·have:=br.out;exact⟨this.cats,this.cabs,this.leg,this.bands,this.a,this.t,this.d⟩
theorem Own.insert {α:Type}{c:Cod α}{size:Nat}{e:TypeId}{w w':World}{base:Nat}{v v':Value}{l:List α}{xs:List Value}{i:Nat}{b:α}{I:List Value}(h:Own c size e w base v l xs)(Q:i≤l.length)(V:I.length=size)
  (Z:c w' (QL base v') b I) (X:∀x cs,c w (QL base v) x cs→c w' (QL base v') x cs) (ab:w'.ownsRow base e size v' (l.length+1) (xs.take (i*size)++I++xs.drop (i*size))) :
  Own c size e w' base v' (l.take i++b::l.drop i) (xs.take (i*size)++I++xs.drop (i*size)):=by
 have ad:xs.length=l.length*size:=h.row.1;have ac:i*size≤l.length*size:=Nat.mul_le_mul_right _ Q
 have D:(xs.take (i*size)).length=i*size:=by rw[J8];omega
 have aa:(l.take i++b::l.drop i).length=l.length+1:=by rw[J9,J8,List.length_cons,List.length_drop];omega
 refine⟨by rw[aa];exact ab,fun q x A=>?_⟩;rcases Nat.lt_trichotomy q i with F|F|F
 ·rw[List.getElem?_append_left (by rw[J8];omega),List.getElem?_take,M3 F]at A;obtain⟨cs,J,U,O⟩:=h.el q x A;refine⟨cs,X _ _ J,U,fun j u E=>?_⟩
  have W:j<size:=by have:=(J0.1 E).1;omega
  have Y:(q+1)*size≤i*size:=Nat.mul_le_mul_right _ F;rw[Nat.add_mul]at Y;rw[List.getElem?_append_left (by rw[J9,D];omega),List.getElem?_append_left (by rw[D];omega),List.getElem?_take,M3 (by omega)];exact O j u E
 ·subst F;rw[List.getElem?_append_right (by rw[J8];omega),J8,Nat.min_eq_left Q,Nat.sub_self]at A;simp at A;subst A;refine⟨I,Z,V,fun j u E=>?_⟩
  have W:j<size:=by have:=(J0.1 E).1;omega
  rw[List.getElem?_append_left (by rw[J9,D];omega),List.getElem?_append_right (by rw[D];omega),D]
  rwa [show q*size+j-q*size=j by omega]
 ·rw[List.getElem?_append_right (by rw[J8];omega),J8,Nat.min_eq_left Q]at A;obtain⟨d,hd⟩:∃d,q-i=d+1:=⟨q-i-1,by omega⟩;rw[hd,List.getElem?_cons_succ,List.getElem?_drop]at A;obtain⟨cs,J,U,O⟩:=h.el _ x A;refine⟨cs,X _ _ J,U,fun j u E=>?_⟩
  have W:j<size:=by have:=(J0.1 E).1;omega
  have h2:q*size=i*size+(d+1)*size:=by rw[←Nat.add_mul];congr 1;omega
  have h3:(d+1)*size=d*size+size:=by rw[Nat.add_mul,Nat.one_mul]
  rw[List.getElem?_append_right (by rw[J9,D,V];omega),J9,D,V,List.getElem?_drop];rw[show i*size+(q*size+j-(i*size+size))=(i+d)*size+j by rw[Nat.add_mul];omega];exact O j u E
theorem USa:∃i:TypeInfo,Tryz.prog.info? 63=some i∧i.size=11∧i.bytes=104∧i.zero=some (.agg M8):=by
 have A:(Tryz.prog.info? 63).map (fun i=>(i.zero,i.size,i.bytes))=some (some (.agg M8),11,104):=by kernel_rfl
 obtain⟨i,D,E,F,I⟩:=info_parts A;exact⟨i,D,F,I,E⟩
theorem V7 {w:World}{g:Nat}{A:Array Value}{t:TypeId}(Q:Blk w g A t)(ty:TypeId)(o D I:Nat)(a:Addr)(F aa k:Nat)(cs:List Value)(V:k=Nat.min F D)(W:cs.length=k*11)
  (Y:∀j v,cs[j]? = some v→w.cell? (a.add j)=some v) (O:o+cs.length≤A.size) (J:∀v∈cs,v.oneCell'=true) :
  (Builtin.copy_ #[30,30] ty #[.slice (some ⟨g,o,none⟩) D I,.slice (some a) F aa]).run prog w =
   .ok (goInt k) (w.setRow g (A.toList.take o++cs++A.toList.drop (o+cs.length)).toArray):=by
 have E:=run_loadCells_list (P:=prog) w a cs Y;have Z:=run_storeCells_at prog g o t cs 0 A w Q (by simpa using O) J;obtain⟨i,U,X,_⟩:=USa;rw[W]at E;subst V;simp[Builtin.copy_,run_underlying underlying30,Builtin.lenOf,Builtin.firstCells,sizeOf,typeInfo,U,X,E,Z]
theorem Qfb {A xs E:List Value}{i n cap:Nat}(Z:A.length=cap*11)(U:A.take (n*11)=xs)(ab:i<n)(ac:n+1≤cap)(V:E.length=11){D F:List Value}
  (ad:D=A.take ((i+1)*11)++xs.drop (i*11)++A.drop ((i+1)*11+(xs.drop (i*11)).length)) (hF:F=D.take (i*11)++E++D.drop (i*11+E.length)) :
  D.length=cap*11∧F.length=cap*11∧F.take ((n+1)*11)=xs.take (i*11)++E++xs.drop (i*11):=by
 have W:xs.length=n*11:=by rw[←U,J8];omega
 have J:(xs.drop (i*11)).length=(n-i)*11:=by rw[List.length_drop,W];omega
 have I:(A.take ((i+1)*11)).length=(i+1)*11:=by rw[J8];omega
 have aa:D.length=cap*11:=by rw[ad,J9,J9,I,J,List.length_drop];omega
 have X:D.take (i*11)=xs.take (i*11):=by
  rw[ad,List.append_assoc,List.take_append_of_le_length (by rw[I];omega),List.take_take,←U,List.take_take]
  congr 1;omega
 have Y:D.drop (i*11+E.length)=xs.drop (i*11)++A.drop ((i+1)*11+(xs.drop (i*11)).length):=by
  rw[ad,List.append_assoc,V,show i*11+11=(A.take ((i+1)*11)).length by rw[I];omega,List.drop_left]
 have O:F=(xs.take (i*11)++E++xs.drop (i*11))++A.drop ((i+1)*11+(xs.drop (i*11)).length):=by rw[hF,X,Y];simp
 have Q:(xs.take (i*11)++E++xs.drop (i*11)).length=(n+1)*11:=by rw[J9,J9,J8,W,V,J];omega
 refine⟨aa,?_,?_⟩
 ·rw[O,J9,Q,List.length_drop,J,Z];omega
 ·rw[O,←Q,List.take_left]
theorem YQ (b o j:Nat):(⟨b,o,none⟩:Addr).add j=⟨b,o+j,none⟩:=by
 unfold Addr.add;split
 ·next h0=>rw[h0];rfl
 ·rfl
theorem XLa {c:Cod Bkg}(ag:Good c){w:World}{base g n cap i m vb q:Nat}{l:List Bkg}{xs:List Value}{b:Bkg}{I:List Value}(hm:m=1)(h:Own c 11 63 w base (.slice (some ⟨g,0,none⟩) n cap) l xs)(hi:i<n)(aO:n+m≤cap)(hn:n≤1000)
  (X:Blk w vb I.toArray 63) (V:I.length=11) (ad:c w (QL base (.slice (some ⟨g,0,none⟩) n cap)) b I) (aq:vb≠g) :
  Calls prog 208 #[.slice (some ⟨g,0,none⟩) n cap,.int .i64 (i:Int),.slice (some ⟨vb,0,none⟩) m q] w fun e w'=>∃aU,e=.returned (.slice (some ⟨g,0,none⟩) (n+m) cap)∧Own c 11 63 w' base (.slice (some ⟨g,0,none⟩) (n+m) cap) (l.take i++b::l.drop i) aU∧Kept (fun k=>k=g) w w':=by
 have aR:¬((m:Int)=0):=by omega
 have aS:¬((i:Int)=(n:Int)):=by omega
 have aB:=h.lt
 obtain⟨A,ae,Q,ao,an,Z,aw,aC⟩:∃A:Array Value,Blk w g A 63∧A.size=cap*11∧A.toList.take (l.length*11)=xs∧n≤cap∧cap≤maxLen∧base≤g∧n=l.length:=by
  rcases h.row.2 with⟨hv,_⟩|⟨g',aG,A,hv,hb,aA,an,Z,Q,aF⟩
  ·cases hv
  ·simp only[Value.slice.injEq,Option.some.injEq,Addr.mk.injEq,and_true]at hv;obtain⟨rfl,rfl,rfl⟩:=hv;exact⟨A,aA,Q,aF,an,Z,hb,rfl⟩
 have aE:∀lb cb,(callFunc 238 #[.slice (some ⟨vb,0,none⟩) m q,.slice (some ⟨g,(i+m)*11,none⟩) lb cb]).run prog w=.ok (.value (.bool false)) w:=fun lb cb=>by
  rw[run_callFunc_extern func238 (by kernel_rfl) (by kernel_rfl) (by kernel_rfl) (e:=Extern.SlicesOverlaps.overlaps #[30,30] #[4]) (by kernel_rfl),Lib.run_overlaps_apart w 30 4 63 underlying30 11 (fun W=>by obtain⟨i,hi,hs,_⟩:=USa;simp[sizeOf,typeInfo,hi,hs]) ⟨vb,0,none⟩ ⟨g,(i+m)*11,none⟩ m q lb cb aq 63 63 11 A.size
    (by have h9:w.heap[vb]? = some (.cells I.toArray 63 (0,0)):=X;simp[World.shape?,h9,V]) (by have h9:w.heap[g]? = some (.cells A 63 (0,0)):=ae;simp[World.shape?,h9]) (by rw[Q];omega) (X.free 0) (X.free 11)]
  rfl
 have aQ:IntKind.i64.wrap ((i:Int)+(m:Int))=(i:Int)+(m:Int):=by rw[IntKind.wrap_i64];omega
 have aH:(0:Int)≤(i:Int)+(m:Int):=by omega
 have aL:i≤n:=by omega
 have aP:((i:Int)+(m:Int)).toNat=i+m:=by omega
 have aI:¬(cap=i+m):=by omega
 have aJ:(i:Int)≤(n:Int)+(m:Int):=by omega
 have aK:¬(cap=i):=by omega
 have aN:cap≤9223372036854775807:=by unfold maxLen at Z;omega
 subst aC;have aa:A.toList.take (l.length*11)=xs:=ao
 have aj:A.toList.length=cap*11:=by rw[Array.length_toList,Q]
 have au:xs.length=l.length*11:=by rw[←aa,J8];omega
 obtain⟨D,ab⟩:=yE (A.toList.take ((i+1)*11)++xs.drop (i*11)++A.toList.drop ((i+1)*11+(xs.drop (i*11)).length));obtain⟨F,hF⟩:=yE (D.take (i*11)++I++D.drop (i*11+I.length));obtain⟨ak,al,ah⟩:=Qfb aj aa hi (by omega) V ab hF
 have af:(xs.drop (i*11)).length=(l.length-i)*11:=by rw[List.length_drop,au];omega
 have ar:∀u∈xs,u.oneCell'=true:=fun u U=>by
  obtain⟨j,E⟩:=List.getElem?_of_mem U
  have aM:j<l.length*11:=by have:=(J0.1 E).1;omega
  obtain⟨cs,hc,hl,ax⟩:=h.el (j / 11) l[j / 11] (J1 (by omega));have:=ax (j % 11) (cs[j % 11]'(by omega)) (J1 (by omega));rw[show j / 11*11+j % 11=j by omega,E]at this;injection this with this;rw[this];exact ag.one hc _ (List.getElem_mem _)
 have ap:∀u∈I,u.oneCell'=true:=fun u U=>ag.one ad _ U;have Y:Blk w.drew g A 63:=ae
 have ay:∀ty J sc,(Builtin.copy_ #[30,30] ty #[.slice (some ⟨g,(i+m)*11,none⟩) (l.length+m-(i+m)) J,.slice (some ⟨g,i*11,none⟩) (l.length+m-i) sc]).run prog w.drew=.ok (goInt ((l.length-i:Nat))) (w.drew.setRow g D.toArray):=fun ty J sc=>by
  have O:l.length-i=Nat.min (l.length+m-i) (l.length+m-(i+m)):=by simp only[Nat.min_def];split<;>omega
  have:=V7 Y ty ((i+m)*11) (l.length+m-(i+m)) J ⟨g,i*11,none⟩ (l.length+m-i) sc (l.length-i) (xs.drop (i*11)) O af (fun j v E=>by
   rw[YQ];refine Y.cell ?_;rw[List.getElem?_drop,←aa,List.getElem?_take]at E;by_cases hjj:i*11+j<l.length*11
   ·rw[M3 hjj,Array.getElem?_toList]at E;exact E
   ·rw[M2 hjj]at E;cases E) (by rw[af,Q];omega) (fun u U=>ar u (List.mem_of_mem_drop U))
  rw[hm]at this ⊢;rw[ab];exact this
 have ac:Blk (w.drew.setRow g D.toArray) g D.toArray 63:=Y.row _;have ai:Blk (w.drew.setRow g D.toArray) vb I.toArray 63:=Blk.rowOther (show Blk w.drew vb I.toArray 63 from X) aq _
 have az:∀ty J,(Builtin.copy_ #[30,30] ty #[.slice (some ⟨g,i*11,none⟩) (l.length+m-i) J,.slice (some ⟨vb,0,none⟩) m q]).run prog (w.drew.setRow g D.toArray)=.ok (goInt (1:Nat)) ((w.drew.setRow g D.toArray).setRow g F.toArray):=fun ty J=>by
  have O:1=Nat.min m (l.length+m-i):=by simp only[Nat.min_def];split<;>omega
  have:=V7 ac ty (i*11) (l.length+m-i) J ⟨vb,0,none⟩ m q 1 I O V (fun j v E=>by
   rw[YQ,Nat.zero_add]
   exact ai.cell (by simpa using E)) (by rw[V];simp only[List.size_toArray,ak];omega) ap
  rw[hF];exact this
 have av:=yh (show ∃aU,Own c 11 63 ((w.drew.setRow g D.toArray).setRow g F.toArray) base (.slice (some ⟨g,0,none⟩) (l.length+m) cap) (l.take i++b::l.drop i) aU∧Kept (fun k=>k=g) w ((w.drew.setRow g D.toArray).setRow g F.toArray)from by
  have hK:Kept (fun k=>k=g) w ((w.drew.setRow g D.toArray).setRow g F.toArray):=((yk g w).drew.setRow (.inl rfl) _).setRow (.inl rfl) _
  have am:∀(x:Bkg) (cs:List Value),c w (QL base (.slice (some ⟨g,0,none⟩) l.length cap)) x cs→c ((w.drew.setRow g D.toArray).setRow g F.toArray) (QL base (.slice (some ⟨g,0,none⟩) (l.length+m) cap)) x cs:=fun x cs hc=>
   ag.keep hc fun k O aD=>⟨hK.block k aD (fun e=>O.2 (by rw[e];rfl)),O.1,fun e=>O.2 e⟩
  refine⟨_,h.insert (Nat.le_of_lt hi) V (am _ _ ad) am ?_,hK⟩
  refine⟨by rw[←ah,J8];omega,.inr ⟨g,cap,F.toArray,by rw[hm],aw,ac.row _,by omega,Z,by simpa using al,by rw[←ah]⟩⟩)
 clear ad ao Q aa aj au ab hF ak al ah af ar ap Y ac ai h aB ae;have HM:=yh hm;clear hm;go_enter func208,ntmps208;go_wp2_with (simp only[aE]);go_region_law (refine step_copy_runI rfl _ _ 30 30 rfl _ _ (by simp[Act.eval,Act.put]) (by simp[Act.eval,Act.put]) (ay _ _ _) ?_)
 all_goals
  go_wp2_with (at_builtin;refine wpList_copy_runI _ rfl _ _ 30 30 rfl _ _ rfl rfl (az _ _) ?_);go_ret;obtain⟨aU,h1,h2⟩:=av.out;exact⟨aU,rfl,h1,h2⟩
theorem QZb {row xs A:List Value}{i n G:Nat}(hc:row.length=G*11)(W:row.take (i*11)=xs.take (i*11))(aa:xs.length=n*11)(ab:i<n)(ac:n+1≤G)(I:A.length=11){D E:List Value}
  (J:D=row.take (i*11)++A++row.drop (i*11+A.length)) (X:E=D.take ((i+1)*11)++xs.drop (i*11)++D.drop ((i+1)*11+(xs.drop (i*11)).length)) :
  D.length=G*11∧E.length=G*11∧E.take ((n+1)*11)=xs.take (i*11)++A++xs.drop (i*11):=by
 have Q:(xs.drop (i*11)).length=(n-i)*11:=by rw[List.length_drop,aa];omega
 have F:(xs.take (i*11)).length=i*11:=by rw[J8];omega
 have U:D.length=G*11:=by rw[J,J9,J9,W,F,I,List.length_drop];omega
 have Y:D.take ((i+1)*11)=xs.take (i*11)++A:=by
  have Z:(xs.take (i*11)++A).length=(i+1)*11:=by rw[J9,F,I];omega
  rw[J,W,←Z,List.take_left]
 have O:E=(xs.take (i*11)++A++xs.drop (i*11))++D.drop ((i+1)*11+(xs.drop (i*11)).length):=by rw[X,Y]
 have V:(xs.take (i*11)++A++xs.drop (i*11)).length=(n+1)*11:=by rw[J9,J9,F,I,Q];omega
 refine⟨U,?_,?_⟩
 ·rw[O,J9,V,List.length_drop,Q,U];omega
 ·rw[O,←V,List.take_left]
theorem Yja {c:Cod Bkg}(ao:Good c){w:World}{base g n cap i m W q:Nat}{l:List Bkg}{xs:List Value}{b:Bkg}{O:List Value}(hm:m=1)(h:Own c 11 63 w base (.slice (some ⟨g,0,none⟩) n cap) l xs)(hi:i<n)(aX:cap<n+m)(hn:n≤1000)(a8:base≤w.heap.size)
  (hV:Blk w W O.toArray 63) (ae:O.length=11) (al:c w (QL base (.slice (some ⟨g,0,none⟩) n cap)) b O) :
  Calls prog 208 #[.slice (some ⟨g,0,none⟩) n cap,.int .i64 (i:Int),.slice (some ⟨W,0,none⟩) m q] w fun e w'=>∃N G bl,e=.returned (.slice (some ⟨N,0,none⟩) (n+m) G)∧Own c 11 63 w' base (.slice (some ⟨N,0,none⟩) (n+m) G) (l.take i++b::l.drop i) bl∧Kept (fun k=>k=g) w w':=by
 have bh:¬((m:Int)=0):=by omega
 have bi:¬((i:Int)=(n:Int)):=by omega
 have bj:(cap:Int)<(n:Int)+(m:Int):=by omega
 obtain⟨I,ad,ac,aJ,aH,am,a7,aV⟩:∃I:Array Value,Blk w g I 63∧I.size=cap*11∧I.toList.take (l.length*11)=xs∧n≤cap∧cap≤maxLen∧base≤g∧n=l.length:=by
  rcases h.row.2 with⟨hv,_⟩|⟨g',aZ,I,hv,hb,aU,aH,am,ac,aY⟩
  ·cases hv
  ·simp only[Value.slice.injEq,Option.some.injEq,Addr.mk.injEq,and_true]at hv;obtain⟨rfl,rfl,rfl⟩:=hv;exact⟨I,aU,ac,aY,aH,am,hb,rfl⟩
 subst aV;have av:I.toList.take (l.length*11)=xs:=aJ
 have aB:I.toList.length=cap*11:=by rw[Array.length_toList,ac]
 have af:xs.length=l.length*11:=by rw[←av,J8,aB];omega
 have aL:∀u∈xs,u.oneCell'=true:=fun u V=>by
  obtain⟨j,A⟩:=List.getElem?_of_mem V
  have bc:j<l.length*11:=by have:=(J0.1 A).1;omega
  obtain⟨cs,hc,hl,aQ⟩:=h.el (j / 11) l[j / 11] (J1 (by omega));have:=aQ (j % 11) (cs[j % 11]'(by omega)) (J1 (by omega));rw[show j / 11*11+j % 11=j by omega,A]at this;injection this with this;rw[this];exact ao.one hc _ (List.getElem_mem _)
 have aK:∀u∈O,u.oneCell'=true:=fun u V=>ao.one al _ V
 have au:∀(X:World),X.heap[g]? = w.heap[g]?→∀j v,xs[j]? = some v→X.cell? ⟨g,j,none⟩=some v:=fun X hX j v A=>by
  have aP:Blk X g I 63:=hX.trans ad;refine aP.cell ?_;rw[←av,List.getElem?_take]at A;by_cases hjj:j<l.length*11
  ·rw[M3 hjj,Array.getElem?_toList]at A;exact A
  ·rw[M2 hjj]at A;cases A
 obtain⟨i0,aC,aN,ax,aw⟩:=USa;obtain⟨z,hz⟩:∃z:Value,z=.agg M8:=⟨_,rfl⟩;rw[←hz]at aw
 have aM:∀k,(Builtin.zeroCells z.cells k).size=k*11:=fun k=>by rw[hz];simp[Builtin.zeroCells,Value.cells]
 have ap:i+(l.length+m-i)=l.length+m:=by omega
 have aD:(l.length:Int)+(m:Int)-(i:Int)=((l.length+m-i:Nat):Int):=by omega
 have aI:(Builtin.firstCells i0.size i (.slice (some ⟨g,0,none⟩) i cap)).run prog w.drew=.ok (xs.take (i*11)).toArray w.drew:=by
  rw[aN]
  exact run_firstCells_some w.drew 11 i ⟨g,0,none⟩ i cap (xs.take (i*11)) (by rw[J8];omega) (fun j v A=>by
   rw[YQ,Nat.zero_add];rw[List.getElem?_take]at A
   split at A
   ·exact au _ rfl j v A
   ·cases A)
 obtain⟨G,Z⟩:=yE (grownCap w (l.length+m) cap 63);obtain⟨F,aa⟩:∃F:Array Value,F=(xs.take (i*11)).toArray++Builtin.zeroCells z.cells (l.length+m-i)++Builtin.zeroCells z.cells (G-(l.length+m)):=⟨_,rfl⟩
 have aq:∀ty,(Builtin.append_ #[30,3] ty #[.slice (some ⟨g,0,none⟩) i cap,.int .i64 ((l.length:Int)+(m:Int)-(i:Int))]).run prog w =
   .ok (.slice (some ⟨w.heap.size,0,none⟩) (l.length+m) G) (w.drew.alloc (.cells F 63)):=fun ty=>by
  have h:=Lib.run_append_grow_zeros w 30 3 ty 63 i0 z .i64 .i64 underlying30 underlying3 aC aw (some ⟨g,0,none⟩) i cap (xs.take (i*11)) aI (l.length+m-i) (by omega) (by omega) (by omega) (by omega) (by rw[ax];omega) (by rw[ax,ap];exact growslice_fits aX (by omega));rw[ap,←Z]at h;rw[aD,aa];exact h
 have a3:l.length+m≤G:=by rw[Z];exact grownCap_ge w _ _ _
 have ay:G≤maxLen:=by rw[Z];exact grownCap_le_maxLen w _ _ _ (by unfold maxLen;omega)
 have ak:F.toList.length=G*11:=by
  rw[aa];simp only[Array.toList_append,J9,J8,Array.length_toList,aM,af];omega
 have aA:F.toList.take (i*11)=xs.take (i*11):=by
  have ht:(xs.take (i*11)).length=i*11:=by rw[J8];omega
  rw[aa];simp only[Array.toList_append,List.append_assoc];rw[List.take_append_of_le_length (by omega),List.take_take,Nat.min_self]
 obtain⟨D,ag⟩:=yE (F.toList.take (i*11)++O++F.toList.drop (i*11+O.length));obtain⟨Q,ah⟩:=yE (D.take ((i+1)*11)++xs.drop (i*11)++D.drop ((i+1)*11+(xs.drop (i*11)).length));obtain⟨aE,aF,ar⟩:=QZb ak aA af hi (by omega) ae ag ah
 have an:(xs.drop (i*11)).length=(l.length-i)*11:=by rw[List.length_drop,af];omega
 obtain⟨N,hN⟩:=yE w.heap.size;rw[←hN]at aq
 have aT:g≠N:=by have:=ad.lt;omega
 have bf:W≠N:=by have:=hV.lt;omega
 obtain⟨E,ab⟩:=yE (w.drew.alloc (.cells F 63));rw[←ab]at aq
 have Y:yw w E:=by rw[ab];exact(J4 _ w).drew.alloc (J5 _) _
 have ai:Blk E N F 63:=by rw[ab,hN];exact Blk.new w.drew F _
 have aR:∀ty J,(Builtin.copy_ #[30,30] ty #[.slice (some ⟨N,i*11,none⟩) (l.length+m-i) J,.slice (some ⟨W,0,none⟩) m q]).run prog E=.ok (goInt (1:Nat)) (E.setRow N D.toArray):=fun ty J=>by
  have U:1=Nat.min m (l.length+m-i):=by simp only[Nat.min_def];split<;>omega
  have:=V7 ai ty (i*11) (l.length+m-i) J ⟨W,0,none⟩ m q 1 O U ae (fun j v A=>by
   rw[YQ,Nat.zero_add]
   exact(hV.bel Y).cell (by simpa using A)) (by rw[ae,←Array.length_toList,ak];omega) aK
  rw[ag];exact this
 have aj:Blk (E.setRow N D.toArray).drew N D.toArray 63:=ai.row _
 have aS:∀ty J sc,(Builtin.copy_ #[30,30] ty #[.slice (some ⟨N,(i+m)*11,none⟩) (l.length+m-(i+m)) J,.slice (some ⟨g,i*11,none⟩) (l.length-i) sc]).run prog (E.setRow N D.toArray).drew=.ok (goInt ((l.length-i:Nat))) ((E.setRow N D.toArray).drew.setRow N Q.toArray):=fun ty J sc=>by
  have U:l.length-i=Nat.min (l.length-i) (l.length+m-(i+m)):=by simp only[Nat.min_def];split<;>omega
  have:=V7 aj ty ((i+m)*11) (l.length+m-(i+m)) J ⟨g,i*11,none⟩ (l.length-i) sc (l.length-i) (xs.drop (i*11)) U an (fun j v A=>by
   rw[YQ];refine au _ ?_ _ _ (by rwa [List.getElem?_drop]at A)
   show(E.setRow N D.toArray).heap[g]? = _
   rw[setRow_other _ _ _ _ aT]
   exact Y.block g ad.lt) (by rw[an];simp only[List.size_toArray,aE];omega) (fun u V=>aL u (List.mem_of_mem_drop V))
  rw[hm]at this ⊢;rw[ah];exact this
 have aO:=yh (show ∃bl,Own c 11 63 ((E.setRow N D.toArray).drew.setRow N Q.toArray) base (.slice (some ⟨N,0,none⟩) (l.length+m) G) (l.take i++b::l.drop i) bl∧Kept (fun k=>k=g) w ((E.setRow N D.toArray).drew.setRow N Q.toArray)from by
  have az:Kept (fun _=>False) w ((E.setRow N D.toArray).drew.setRow N Q.toArray):=(((Kept.of_below (S:=fun _=>False) Y (fun k U h2=>by omega)).setRow (z:=N) (.inr (by omega)) _).drew).setRow (z:=N) (.inr (by omega)) _
  have aG:∀(x:Bkg) (cs:List Value),c w (QL base (.slice (some ⟨g,0,none⟩) l.length cap)) x cs→c ((E.setRow N D.toArray).drew.setRow N Q.toArray) (QL base (.slice (some ⟨N,0,none⟩) (l.length+m) G)) x cs:=fun x cs hc=>
   ao.keep hc fun k U aW=>⟨az.block k aW (fun h=>h),U.1,fun e=>by simp only[Value.ownBlock,Option.some.injEq]at e;omega⟩
  refine⟨_,h.insert (Nat.le_of_lt hi) ae (aG _ _ al) aG ?_,az.mono fun _ _ h=>h.elim⟩
  refine⟨by rw[←ar,J8];omega,.inr ⟨N,G,Q.toArray,by rw[hm],by omega,aj.row _,by omega,ay,by simpa using aF,by rw[←ar]⟩⟩)
 have bg:IntKind.i64.wrap ((i:Int)+(m:Int))=(i:Int)+(m:Int):=by rw[IntKind.wrap_i64];omega
 have a4:(0:Int)≤(i:Int)+(m:Int):=by omega
 have bb:i≤l.length:=by omega
 have be:((i:Int)+(m:Int)).toNat=i+m:=by omega
 have a5:(i:Int)≤(l.length:Int):=by omega
 have a0:G≤9223372036854775807:=by unfold maxLen at ay;omega
 have a1:¬(G=i):=by omega
 have a2:¬(G=i+m):=by omega
 have a9:¬(cap=i):=by omega
 have ba:(i:Int)≤(cap:Int):=by omega
 have a6:(i:Int)+(m:Int)≤(l.length:Int)+(m:Int):=by omega
 have HM:=yh hm
 have bd:cap≤9223372036854775807:=by unfold maxLen at am;omega
 clear al aJ ac av af aB ag ah aE aF ar an aL aK ai aj h ad hm aD ap aI aa Z ak aA ab hN hz aw aM aC aN ax au Y hV;go_enter func208,ntmps208
 go_wp2_with (first
  | (at_builtin;refine Lib.wpList_append_run _ rfl _ _ _ _ rfl _ _ rfl rfl _ _ (aq _) ?_)
  | (at_builtin;refine wpList_copy_runI _ rfl _ _ 30 30 rfl _ _ rfl rfl (aR _ _) ?_))
 go_region_law (refine step_copy_runI rfl _ _ 30 30 rfl _ _ (by simp[Act.eval,Act.put]) (by simp[Act.eval,Act.put]) (aS _ _ _) ?_)
 all_goals
  go_wp2_with fail;go_ret;obtain⟨bl,h1,h2⟩:=aO.out;exact⟨N,G,bl,rfl,h1,h2⟩
theorem Qzb {c:Cod Bkg}(F:Good c){w:World}{base n cap m U q:Nat}{A:Option Addr}{l:List Bkg}{xs:List Value}{b:Bkg}{V:List Value}(hm:m=1)(hq:m≤q)(am:q≤maxLen)(h:Own c 11 63 w base (.slice A n cap) l xs)(hn:n≤1000)(aa:base≤w.heap.size)
  (hV:Blk w U V.toArray 63) (an:V.length=11) (ac:c w (QL base (.slice A n cap)) b V) (af:QL base (.slice A n cap) U) :
  Calls prog 208 #[.slice A n cap,.int .i64 (n:Int),.slice (some ⟨U,0,none⟩) m q] w fun e w'=>∃W n' c' D,e=.returned (.slice W n' c')∧Own c 11 63 w' base (.slice W n' c') (l++[b]) D∧Kept (fun k=>(Value.slice A n cap).ownBlock=some k) w w':=by
 have au:¬((m:Int)=0):=by omega
 have aq:=h.lt
 have ad:n=l.length:=by
  obtain⟨W,n',c',hv,hs⟩:=h.sl F;simp only[Value.slice.injEq]at hv;rw[hv.2.1,hs.len]
 have ae:Sl c 11 w (QL base (.slice A n cap)) (some ⟨U,0,none⟩) m q [b]:=by
  refine⟨hm.symm,hq,am,fun i x hx=>?_⟩;rcases i with _|i
  ·simp at hx;subst hx;exact⟨U,0,V,rfl,af,ac,an,fun j u hu=>by simp only[Nat.zero_mul,Nat.zero_add];exact hV.cell (by simpa using hu)⟩
  ·simp at hx
 have ab:(l.length+m)*104≤140737488355328:=by omega
 have ak:n≤cap:=by
  rcases h.row.2 with⟨hv,_⟩|⟨g',ag,ah,hv,hb,ap,ak,_⟩
  ·simp only[Value.slice.injEq]at hv;omega
  ·simp only[Value.slice.injEq]at hv;omega
 have hA:A=none∧n=0∧cap=0∨∃g,A=some ⟨g,0,none⟩:=by
  rcases h.row.2 with⟨hv,_⟩|⟨g',ag,ah,hv,_⟩
  ·simp only[Value.slice.injEq]at hv;exact .inl hv
  ·simp only[Value.slice.injEq]at hv;exact .inr ⟨g',hv.1⟩
 have Y:=yh (fun(v':Value) (w':World) (D:List Value) (al:Own c 11 63 w' base v' (l++[b]) D) (I:w.grownBy w' (Value.slice A n cap).ownBlock)=>
  (⟨al,⟨I.os,I.tape,I.output,I.size,fun j hj aj=>I.block j hj (fun e=>aj e.symm)⟩⟩:Own c 11 63 w' base v' (l++[b]) D∧Kept (fun k=>(Value.slice A n cap).ownBlock=some k) w w'))
 have X:=yh h;have Z:=yh ae;have HM:=yh hm;have ao:=yh ad
 have ai:(m:Int)=1:=by omega
 clear h ae ac hV af hm ad ai;rcases hA with⟨rfl,rfl,rfl⟩|⟨g,rfl⟩
 ·go_enter func208,ntmps208;go_wp2_with (at_builtin;refine QC (t:=30) (e:=63) (bytes:=104) rfl (.tmp 23) (.tmp 24) rfl Xk F rfl X rfl Z (fun _ _ h=>h) ab (by omega) aa ?_;intro v' w' D E J _;obtain⟨A8,n8,c8,rfl,_⟩:=E.sl F;obtain⟨O,Q⟩:=Y _ _ _ E J);go_ret;exact⟨_,_,_,D,rfl,O,Q⟩
 ·have ar:(n:Int)≤(n:Int):=Int.le_refl _;by_cases hcap:cap=n
  ·subst hcap;go_enter func208,ntmps208;go_wp2_with (at_builtin;refine QC (t:=30) (e:=63) (bytes:=104) rfl (.tmp 23) (.tmp 24) rfl Xk F rfl X rfl Z (fun _ _ h=>h) ab (by omega) aa ?_;intro v' w' D E J _;obtain⟨A8,n8,c8,rfl,_⟩:=E.sl F;obtain⟨O,Q⟩:=Y _ _ _ E J);go_ret;exact⟨_,_,_,D,rfl,O,Q⟩
  ·go_enter func208,ntmps208;go_wp2_with (at_builtin;refine QC (t:=30) (e:=63) (bytes:=104) rfl (.tmp 23) (.tmp 24) rfl Xk F rfl X rfl Z (fun _ _ h=>h) ab (by omega) aa ?_;intro v' w' D E J _;obtain⟨A8,n8,c8,rfl,_⟩:=E.sl F;obtain⟨O,Q⟩:=Y _ _ _ E J);go_ret;exact⟨_,_,_,D,rfl,O,Q⟩
theorem Qyb {c:Cod Bkg}(Q:Good c){w:World}{base n cap i U:Nat}{A:Option Addr}{l:List Bkg}{xs:List Value}{b:Bkg}{Y:List Value}(h:Own c 11 63 w base (.slice A n cap) l xs)(hi:i≤l.length)(hn:l.length≤1000)(Z:base≤w.heap.size)
  (V:Blk w U Y.toArray 63) (X:Y.length=11) (W:c w (QL base (.slice A n cap)) b Y) (aa:QL base (.slice A n cap) U) :
  Calls prog 208 #[.slice A n cap,.int .i64 (i:Int),.slice (some ⟨U,0,none⟩) 1 1] w fun e w'=>∃E O F D,e=.returned (.slice E O F)∧Own c 11 63 w' base (.slice E O F) (l.take i++b::l.drop i) D∧Kept (fun k=>(Value.slice A n cap).ownBlock=some k) w w':=by
 have ae:n=l.length:=by
  obtain⟨E,O,F,J,hs⟩:=h.sl Q;simp only[Value.slice.injEq]at J;rw[J.2.1,hs.len]
 by_cases hlt:i<n
 ·obtain⟨g,c9,J,ac,ad⟩:=h.form (by omega);simp only[Value.slice.injEq]at J;obtain⟨rfl,af,rfl⟩:=J;have ab:U≠g:=fun e=>aa.2 (by rw[e];rfl);by_cases hr:n+1≤cap
  ·refine(XLa Q rfl h hlt hr (by omega) V X W ab).mono ?_;rintro e w' ⟨D,rfl,I,hk⟩;exact⟨_,_,_,D,rfl,I,hk.mono fun k _ hk=>by rw[hk];rfl⟩
  ·refine(Yja Q rfl h hlt (by omega) (by omega) Z V X W).mono ?_;rintro e w' ⟨N,G,D,rfl,I,hk⟩;exact⟨_,_,_,D,rfl,I,hk.mono fun k _ hk=>by rw[hk];rfl⟩
 ·obtain rfl:i=n:=by omega
  refine(Qzb Q rfl (J5 _) (by unfold maxLen;omega) h (by omega) Z V X W aa).mono ?_;rintro e w' ⟨E,O,F,D,rfl,I,hk⟩;refine⟨E,O,F,D,rfl,?_,hk⟩;rw[M1 (by omega),List.drop_eq_nil_of_le (by omega)];exact I
def Xj (l:List Bkg):Prop:=∀(i j:Nat) (a b:Bkg),i<j→l[i]? = some a→l[j]? = some b→a.id<b.id
theorem QP {l:List Bkg}(h:∀i,i+1<l.length→(l.getD i default).id<(l.getD (i+1) default).id):Xj l:=by
 have J:∀d i:Nat,i+1+d<l.length→(l.getD i default).id<(l.getD (i+1+d) default).id:=by
  intro d
  induction d with
  | zero=>exact fun i D=>h i D
  | succ d ih=>
   intro i D;have E:=ih i (by omega);have F:=h (i+1+d) (by omega);exact Int.lt_trans E F
 intro i j a b O I A;have Q:=(J0.1 A).1;have:=J (j-(i+1)) i (by omega);rw[show i+1+(j-(i+1))=j by omega,J7,J7,I,A]at this;exact this
def ZA (l:List Bkg) (t:Int):Bool:=l.any (fun b=>decide (b.id=t))
def Ze (l:List Bkg) (t:Int):Nat:=l.findIdx (fun b=>decide (t≤b.id))
def ZXa (l:List Bkg) (t:Int) (i:Nat):Prop:=∀(q:Nat) (b:Bkg),q<i→l[q]? = some b→b.id<t
def Xh (l:List Bkg) (t:Int) (i:Nat):Prop:=∀(q:Nat) (b:Bkg),i≤q→l[q]? = some b→t≤b.id
theorem X5a {l:List Bkg}{t:Int}{i:Nat}(J:i≤l.length)(A:ZXa l t i)(E:Xh l t i):Ze l t=i:=by
 unfold Ze;rcases Nat.lt_or_ge i l.length with h|h
 ·rw[List.findIdx_eq h];refine⟨J2 (E i _ (J5 _) (J1 h)),fun j F=>?_⟩;have:=A j _ F (J1 (by omega));simp;omega
 ·obtain rfl:i=l.length:=by omega
  rw[List.findIdx_eq_length];intro x I;obtain⟨q,D⟩:=List.getElem?_of_mem I;have:=A q x (J0.1 D).1 D;simp;omega
theorem Zbc {l:List Bkg}{t:Int}{i:Nat}{b:Bkg}(O:Xj l)(J:ZXa l t i)(I:Xh l t i)(E:l[i]? = some b):ZA l t=decide (b.id=t):=by
 unfold ZA;by_cases h:b.id=t
 ·rw[J2 h];exact List.any_eq_true.2 ⟨b,J6 E,J2 h⟩
 ·rw[J3 h];refine List.any_eq_false.2 fun x Q=>?_;obtain⟨q,A⟩:=List.getElem?_of_mem Q;simp only[decide_eq_true_eq];intro F;rcases Nat.lt_trichotomy q i with D|D|D
  ·have:=J q x D A;omega
  ·subst D;rw[E]at A;injection A with A;subst A;exact h F
  ·have U:=O i q b x D E A;have V:=I i b (J5 _) E;omega
theorem Zac {l:List Bkg}{t:Int}(D:ZXa l t l.length):ZA l t=false:=by
 unfold ZA;refine List.any_eq_false.2 fun x E=>?_;obtain⟨q,A⟩:=List.getElem?_of_mem E;have:=D q x (J0.1 A).1 A;simp;omega
theorem YXb {l:List Bkg}{t:Int}(h:∀b∈l,b.id≠t):ZA l t=false:=by
 unfold ZA;refine List.any_eq_false.2 fun x A=>?_
 simpa using h x A
theorem Zfa (b:Bkg)(v:Value)(t:Int)(w:World):Calls prog 207 #[.agg (Qk b v),.int .i64 t] w fun e w'=>e=.returned (.int .i64 (wrap64 (b.id-t)))∧yw w w':=by
 obtain⟨id,J,O,I,lev,A,D,F,upto,Q,E⟩:=b;go_enter func207,ntmps207;go_wp2_with fail;go_ret;exact⟨rfl,Qi _ _⟩
def Vn (t:Int):Prop:=-1000000000≤t∧t≤1000000000
theorem VXb (C:Option Addr)(n cap:Nat)(l:List Bkg)(t:Int)(w:World)(hl:Sl ZP 11 w All C n cap l)(hr:Xj l)(aq:∀b∈l,1≤b.id∧b.id≤999999)(hn:n≤16)(ht:InI t) :
  Calls prog 206 #[.slice C n cap,.int .i64 t,.func (.func 207) #[] #[]] w fun e w'=>∃i:Nat,e=.returned (.tuple #[.int .i64 (i:Int),.bool (ZA l t)])∧i≤l.length∧(Vn t→i=Ze l t)∧yw w w':=by
 have aE:=hl.max;have X:=yh hl.len;have HL:=yh hl;have HR:=yh hr;clear hr;have aj:=yh aq;clear aq;have HT:=yh ht;clear ht;obtain⟨q,U⟩:=yE (ZA l t);rw[←U];have HQ:=yh U;clear U;have eg:=enters_of func207 (by kernel_rfl) rfl;clear hl;go_enter func206,ntmps206;go_wp2_with fail
 go_loopg [9,10] n (fun gk vi vj wr=>∃i j:Nat,i≤j∧j≤n∧j-i≤gk∧vi=.int .i64 i∧vj=.int .i64 j∧Aside (Vn t→ZXa l t i∧Xh l t j)∧yw w wr)
 case atStart=>exact⟨0,n,M0 _,J5 _,by omega,rfl,rfl,fun _=>⟨fun q b h=>absurd h (Nat.not_lt_zero _),fun q b h U=>by have:=(J0.1 U).1;have:=X.out;omega⟩,J4 _ _⟩
 case round=>
  obtain⟨i,j,aB,ar,aA,rfl,rfl,O,I⟩:=hrel;by_cases hlt:i<j
  ·obtain⟨k,hk⟩:∃k:Nat,k=(i+j) / 2:=⟨_,rfl⟩
   have aC:i≤k:=by omega
   have aD:k<j:=by omega
   have HK:=yh hk;have aF:IntKind.i64.wrap ((i:Int)+j)=(i:Int)+j:=IntWalk.i64_in _ (by omega);go_upto_region 4 with(fail);go_cut [11] (fun v wx=>v=.int .i64 (k:Int)∧wr=wx)
   case first=>as_aux_lemma=>
    clear hk;go_wp2_with fail;go_meet;exact⟨by congr 1;rw[HK.out];omega,rfl⟩
   obtain⟨rfl,rfl⟩:=hcut
   have ay:k<n:=by omega
   obtain⟨D,E,⟨id,af,ag,ad,lev,aa,ab,ac,upto,ah,al⟩,Y,n3,c3,hA,V,hF,hI,A⟩:=(HL.bel I).bkg ay;subst hA;have y0:yI wr D (E+k*11) id:=A 0 _ rfl;have y1:yI wr D (E+k*11+1) af:=A 1 _ rfl;have y2:yI wr D (E+k*11+2) ag:=A 2 _ rfl;have y3:yI wr D (E+k*11+3) ad:=A 3 _ rfl;have y4:wr.cell? ⟨D,E+k*11+4,none⟩=some (.bool lev):=A 4 _ rfl;have y5:yI wr D (E+k*11+5) aa:=A 5 _ rfl;have y6:yI wr D (E+k*11+6) ab:=A 6 _ rfl;have y7:yI wr D (E+k*11+7) ac:=A 7 _ rfl;have y8:yI wr D (E+k*11+8) upto:=A 8 _ rfl;have y9:yI wr D (E+k*11+9) ah:=A 9 _ rfl;have an:yJ wr D (E+k*11+10) Y n3 c3:=A 10 _ rfl;have aw:(0:Int)≤(k:Int):=Int.natCast_nonneg _
   have ax:(k:Int)<(n:Int):=by omega
   have av:=yh (aj _ (J6 V));have Q:=yh (fun W=>Zfa ⟨id,af,ag,ad,lev,aa,ab,ac,upto,ah,al⟩ (.slice Y n3 c3) t W);obtain⟨z,hz⟩:=yE (wrap64 (id-t))
   have Z:=yh (show Vn t→z=id-t from fun F=>by
    have h1:=av.out;have h2:=F.1;have h3:=F.2;simp only at h1;rw[hz]
    exact IntWalk.wrap64_in _ (by omega))
   simp only at Q;rw[←hz]at Q;have HX:=yh V;clear V;clear A hF hI hz hk;go_wp2_with fail;refine yM (Q _) fun w1 ae=>?_;replace I:=I.trans (ae.mono I.size);clear ae y0 y1 y2 y3 y4 y5 y6 y7 y8 y9 an;by_cases hz0:z<0
   ·have ai:=yh (show Vn t→ZXa l t (k+1)∧Xh l t j from fun F=>by
     obtain⟨h1,h2⟩:=O F;refine⟨fun q b U J=>?_,h2⟩;have h3:=Z F;rcases Nat.lt_or_ge q k with h4|h4
     ·have h5:=HR q k b _ h4 J HX;simp only at h5;omega
     ·obtain rfl:q=k:=by omega
      rw[HX.out]at J;injection J with J;subst J;simp only
      omega)
    go_wp2_with fail;go_roundg (j-(k+1))
    case measure=>omega
    case rel=>exact⟨k+1,j,by omega,ar,by omega,by go_num,rfl,ai,I⟩
   ·have ai:=yh (show Vn t→ZXa l t i∧Xh l t k from fun F=>by
     obtain⟨h1,h2⟩:=O F;refine⟨h1,fun q b U J=>?_⟩;have h3:=Z F;rcases Nat.lt_or_ge k q with h4|h4
     ·have h5:=HR k q _ b h4 HX J;simp only at h5;omega
     ·obtain rfl:q=k:=by omega
      rw[HX.out]at J;injection J with J;subst J;simp only
      omega)
    go_wp2_with fail;go_roundg (k-i)
    case measure=>omega
    case rel=>exact⟨i,k,by omega,by omega,by omega,rfl,rfl,ai,I⟩
  ·obtain rfl:i=j:=by omega
   have ak:=yh (show Vn t→i=Ze l t from fun F=>(X5a (by rw[X.out];exact ar) (O F).1 (O F).2).symm)
   have ao:=yh (show ¬Vn t→q=false from fun F=>by
    rw[HQ.out];refine YXb fun b J he=>F ?_;have:=aj b J
    exact⟨by omega,by omega⟩)
   by_cases hin:i<n
   ·obtain⟨D,E,⟨id,af,ag,ad,lev,aa,ab,ac,upto,ah,al⟩,Y,n3,c3,hA,V,hF,hI,A⟩:=(HL.bel I).bkg hin;subst hA;have y0:yI wr D (E+i*11) id:=A 0 _ rfl;have y1:yI wr D (E+i*11+1) af:=A 1 _ rfl;have y2:yI wr D (E+i*11+2) ag:=A 2 _ rfl;have y3:yI wr D (E+i*11+3) ad:=A 3 _ rfl;have y4:wr.cell? ⟨D,E+i*11+4,none⟩=some (.bool lev):=A 4 _ rfl;have y5:yI wr D (E+i*11+5) aa:=A 5 _ rfl;have y6:yI wr D (E+i*11+6) ab:=A 6 _ rfl;have y7:yI wr D (E+i*11+7) ac:=A 7 _ rfl;have y8:yI wr D (E+i*11+8) upto:=A 8 _ rfl;have y9:yI wr D (E+i*11+9) ah:=A 9 _ rfl;have an:yJ wr D (E+i*11+10) Y n3 c3:=A 10 _ rfl;have aw:(0:Int)≤(i:Int):=Int.natCast_nonneg _
    have ax:(i:Int)<(n:Int):=by omega
    have Q:=yh (fun W=>Zfa ⟨id,af,ag,ad,lev,aa,ab,ac,upto,ah,al⟩ (.slice Y n3 c3) t W);obtain⟨z,hz⟩:=yE (wrap64 (id-t));have am:=hI.id;have au:=HT.out
    have Z:=yh (show z=0↔id=t from by
     rw[hz];simp only at am;unfold InI at am au
     constructor
     ·intro h0;unfold wrap64 at h0;omega
     ·intro h0;subst h0;rw[Int.sub_self]
      exact IntWalk.wrap64_in _ (by omega))
    simp only at Q;rw[←hz]at Q
    have ap:=yh (show q=decide (z=0)from by
     by_cases F:Vn t
     ·rw[HQ.out,Zbc HR.out (O F).1 (O F).2 V];simp only;exact decide_eq_decide.2 Z.symm
     ·rw[ao.out F,eq_comm,decide_eq_false_iff_not];intro h0;refine F ?_;have h1:=Z.1 h0;have h2:=aj _ (J6 V);simp only at h2
      exact⟨by omega,by omega⟩)
    clear A hF hI hz am au V;go_wp2_with fail;refine yM (Q _) fun w1 ae=>?_;replace I:=I.trans (ae.mono I.size);clear ae y0 y1 y2 y3 y4 y5 y6 y7 y8 y9 an;by_cases hz0:z=0
    ·obtain rfl:q=true:=by rw[ap.out,J2 hz0]
     subst hz0;go_wp2_with fail;go_ret2;exact⟨i,rfl,by have:=X.out;omega,ak,I⟩
    ·obtain rfl:q=false:=by rw[ap.out,J3 hz0]
     have az:(z==0)=false:=by simpa using hz0
     clear hz0;go_wp2_with fail;go_ret2;exact⟨i,rfl,by have:=X.out;omega,ak,I⟩
   ·obtain rfl:i=n:=by omega
    obtain rfl:q=false:=by
     by_cases F:Vn t
     ·rw[HQ.out];exact Zac (by rw[X.out];exact(O F).1)
     ·exact ao F
    go_wp2_with fail;go_ret2;exact⟨i,rfl,by have:=X.out;omega,ak,I⟩
theorem XY (x:Sai)(p:SaiV)(t:Int)(w:World)(hl:Sl ZP 11 w All p.C p.nb p.cb x.bks)(V:Xj x.bks)(Q:∀b∈x.bks,1≤b.id∧b.id≤999999)(U:x.bks.length≤16)(ht:InI t) :
  Calls prog 141 #[.agg (Qa x p),.int .i64 t] w fun e w'=>∃i:Nat,e=.returned (.tuple #[.int .i64 (i:Int),.bool (ZA x.bks t)])∧i≤x.bks.length∧(Vn t→i=Ze x.bks t)∧yw w w':=by
 obtain⟨A,n,cap,B,m,ab,D,nd,cd,E,ne,ce,C,nb,cb⟩:=p;simp only at hl
 have ad:nb≤16:=by rw[←hl.len];exact U
 have X:=yh (fun W h=>VXb C nb cb x.bks t W h V Q ad ht);have HL:=yh hl;clear hl V Q U;go_enter func141,ntmps141;go_upto_region 0 with(fail);go_cut [2,4,5] (fun q _ _ wx=>∃g,yp q g∧Blk wx g (Qa x ⟨A,n,cap,B,m,ab,D,nd,cd,E,ne,ce,C,nb,cb⟩) 32∧yw w wx)
 case first=>as_aux_lemma=>
  go_wp2_with fail;go_meet;exact⟨_,rfl,Zk _ _,Qi _ _⟩
 obtain⟨g,rfl,J,F⟩:=hcut;have ae:yJ wc g 11 C nb cb:=J.cell rfl;have Y:=yh (X wc (HL.bel F));clear J;go_wp2_with fail;refine Y.mono ?_;rintro e w2 ⟨i,rfl,O,I,ac⟩;have aa:=yh I;have Z:=yh O;clear I O;go_wp2_with fail;go_ret2;exact⟨i,rfl,Z,aa,F.trans (ac.mono F.size)⟩
def atI (l:List Bkg) (t:Int):Int:=UD (fun b=>decide (b.id=t)) l
theorem XL (x:Sai)(p:SaiV)(t:Int)(w:World)(hl:Sl ZP 11 w All p.C p.nb p.cb x.bks) :
  Calls prog 91 #[.agg (Qa x p),.int .i64 t] w fun e w'=>e=.returned (.int .i64 (atI x.bks t))∧yw w w':=by
 obtain⟨A,n,cap,B,m,au,D,nd,cd,E,ne,ce,C,nb,V⟩:=p;simp only at hl;have aj:=hl.bd;have HN:=yh hl.len;have HL:=yh hl;obtain⟨r,J⟩:=yE (atI x.bks t);rw[←J];have O:=yh J;clear J;clear hl;go_enter func91,ntmps91;go_upto_region 0 with(fail);go_cut [2,4] (fun q _ Z=>∃g,yp q g∧Blk Z g (Qa x ⟨A,n,cap,B,m,au,D,nd,cd,E,ne,ce,C,nb,V⟩) 32∧yw w Z)
 case first=>as_aux_lemma=>
  go_wp2_with fail;go_meet;exact⟨_,rfl,Zk _ _,Qi _ _⟩
 obtain⟨g,rfl,W,I⟩:=hcut;obtain⟨U,rfl⟩:=yE wc;have HG:=yh (show yJ U g 11 C nb V from W.cell rfl);have aa:=yh (HL.bel I);clear W;go_wp2_with fail
 go_loopg [5] nb (fun gk i wr=>∃k:Nat,k≤nb∧nb-k≤gk∧i=.int .i64 k∧Aside ((x.bks.take k).any (fun b=>decide (b.id=t))=false)∧wr=U)
 case atStart=>exact⟨0,M0 _,by omega,rfl,rfl,rfl⟩
 case round=>
  obtain⟨k,hk,ak,rfl,F,rfl⟩:=hrel;have ao:=HG.out;by_cases hlt:k<nb
  ·obtain⟨ab,ac,⟨id,an,ap,ah,lev,ad,ae,ag,upto,aq,af⟩,A3,n3,c3,hA,Y,hF,hI,X⟩:=aa.bkg hlt;subst hA;have y0:yI wr ab (ac+k*11) id:=X 0 _ rfl;have al:(0:Int)≤(k:Int):=Int.natCast_nonneg _
   have am:(k:Int)<(nb:Int):=by omega
   have Q:=yh Y;clear Y hF hI X;by_cases he:id=t
   ·obtain rfl:r=k:=by rw[O.out];exact VA F Q (J2 he)
    subst he;go_wp2_with fail;go_ret;exact⟨rfl,I⟩
   ·have ai:(id==t)=false:=by simpa using he
    have HV:=yh (show(x.bks.take (k+1)).any (fun b=>decide (b.id=t))=false by rw[Qu Q.out,F];exact J3 he);clear he;go_wp2_with fail;go_roundg (nb-(k+1))
    case measure=>omega
    case rel=>exact⟨k+1,by omega,by omega,by go_num,HV,rfl⟩
  ·obtain rfl:k=nb:=by omega
   obtain rfl:r=-1:=by
    rw[O.out];have hA:(x.bks.take k).any (fun b=>decide (b.id=t))=false:=F;rw[M1 (Nat.le_of_eq HN.out)]at hA;exact ZK hA
   go_wp2_with fail;go_ret;exact⟨rfl,I⟩
theorem ZHc {l:List Bkg}{t:Int}(h:ZA l t=false):atI l t=-1:=ZK h
end Go.Proofs.YtjdcokpmgionjaaGreat
