/-
  Laws and contracts.
-/
import Derived.Test.YtjdcokpmgionjaaGreatBun18
import Derived.BigQuiet
set_option linter.unusedSimpArgs false
set_option linter.unusedVariables false
set_option maxRecDepth 100000
set_option maxHeartbeats 20000000
namespace Go.Proofs.YtjdcokpmgionjaaGreat
open Proofs.Tryz Go.RowKit Go.Shelf
theorem UMb (f u:Int)(W:World):(binOp .eql 51 (.agg #[.int .i64 f,.int .i64 u]) (.agg #[.int .i64 f,.int .i64 u])).run prog W=.ok (.bool true) W:=by
 go_simp
theorem ULb (f u:Int)(W:World):(binOp .neq 138 (.agg #[.int .i64 f,.int .i64 u]) (.agg #[.int .i64 f,.int .i64 u])).run prog W=.ok (.bool false) W:=by
 go_simp
theorem Xub (s:List UInt8)(W:World):(binOp .neq 9 (Zb s) (Zb s)).run prog W=.ok (.bool false) W:=by
 go_simp
theorem Xtb (s:List UInt8)(a b:Int)(l:Bool)(W:World):(binOp .neq 136 (.agg #[Zb s,.int .i64 a,.int .i64 b,.bool l]) (.agg #[Zb s,.int .i64 a,.int .i64 b,.bool l])).run prog W=.ok (.bool false) W:=by
 go_simp
theorem ZNa (b:Bkg)(D:Option Addr)(U F:Nat)(E:Option Addr)(Q I:Nat)(w:World)(J:Sl Ql 3 w All D U F b.fol)(O:Sl Ql 3 w All E Q I b.fol) :
  Calls prog 76 #[.agg (Qj b (.slice D U F)),.agg (Qj b (.slice E Q I))] w fun e w'=>e=.returned (.bool true)∧yw w w':=by
 obtain⟨id,ac,ad,aa,lev,Y,Z,ag,upto,ae,A⟩:=b;simp only at J O;have V:=yh (fun X hX=>Vaa D E U F Q I A A X (J.bel hX) (O.bel hX));rw[J2 (rfl:A=A)]at V;clear J O;have ab:=fun W=>UMb ag upto W;go_enter func76,ntmps76;go_wp2_with fail;refine(V _ (Zl w _ _)).mono ?_;rintro e w2 ⟨rfl,q,rfl⟩;go_wp2_with fail;go_ret;exact⟨rfl,below_drewN (Zl _ _ _) _⟩
theorem Xka (x:Shp)(A:Option Addr)(n cap:Nat)(B:Option Addr)(m ab:Nat)(A':Option Addr)(n' av:Nat)(B':Option Addr)(D ac:Nat)(w:World)(h1:Sl UI 2 w All A n cap x.cats)(h2:Sl Uj 4 w All B m ab x.cabs)(h3:Sl UI 2 w All A' n' av x.cats)(h4:Sl Uj 4 w All B' D ac x.cabs) :
  Calls prog 21 #[.agg #[.int .i64 x.legs,.int .i64 x.souls,.slice A n cap,.slice B m ab],.agg #[.int .i64 x.legs,.int .i64 x.souls,.slice A' n' av,.slice B' D ac]] w fun e w'=>e=.returned (.bool true)∧yw w w':=by
 obtain rfl:n'=n:=by rw[←h1.len,←h3.len]
 obtain rfl:D=m:=by rw[←h2.len,←h4.len]
 have ap:=h1.bd;have ao:=h2.bd;have H1:=yh h1;have H2:=yh h2;have H3:=yh h3;have H4:=yh h4;clear h1 h2 h3 h4;go_enter func21,ntmps21;go_upto_region 0 with(fail);go_cut [2,3,4] (fun p p2 _ wx=>∃g h,yp p g∧yp p2 h∧Blk wx g #[.int .i64 x.legs,.int .i64 x.souls,.slice A n' cap,.slice B D ab] 25∧Blk wx h #[.int .i64 x.legs,.int .i64 x.souls,.slice A' n' av,.slice B' D ac] 25∧yw w wx)
 case first=>as_aux_lemma=>
  go_wp2_with fail;go_meet;exact⟨_,_,rfl,rfl,QB _ _ _,QC _ _ _,Zl _ _ _⟩
 obtain⟨g,h,rfl,rfl,Y,Z,ae⟩:=hcut;obtain⟨I,rfl⟩:=yE wc;have HG:=yh (fun X (E:yw I X)=>Y.bel E);have HH:=yh (fun X (E:yw I X)=>Z.bel E);have HT:=yh (fun X (E:yw I X)=>ae.trans (E.mono ae.size));have g0:yI I g 0 x.legs:=Y.cell rfl;have g1:yI I g 1 x.souls:=Y.cell rfl;have g2:yJ I g 2 A n' cap:=Y.cell rfl;have g3:yJ I g 3 B D ab:=Y.cell rfl;have k0:yI I h 0 x.legs:=Z.cell rfl;have k1:yI I h 1 x.souls:=Z.cell rfl;have k2:yJ I h 2 A' n' av:=Z.cell rfl;have k3:yJ I h 3 B' D ac:=Z.cell rfl;clear Y Z ae;go_wp2_with fail;clear g0 g1 g2 g3 k0 k1 k2 k3
 go_loopg [5] n' (fun gk i wr=>∃k:Nat,k≤n'∧n' - k≤gk∧i=.int .i64 k∧yw I wr)
 case atStart=>exact⟨0,M0 _,by omega,rfl,J4 _ _⟩
 case round=>
  obtain⟨k,hk,ak,rfl,F⟩:=hrel;have g2:yJ wr g 2 A n' cap:=(HG _ F).cell rfl;by_cases hlt:k < n'
  ·obtain⟨V,au,y,c0,c1,hA,hx,⟨A5,n5,c5,J,ah,_⟩,e0,e1⟩:=(H1.bel (HT _ F)).at2 hlt;simp only[List.cons.injEq,and_true]at J;obtain⟨rfl,rfl⟩:=J;obtain⟨Q,U,y2,c0,c1,ad,O,⟨A6,n6,c6,J,ai,_⟩,f0,f1⟩:=(H3.bel (HT _ F)).at2 hlt;simp only[List.cons.injEq,and_true]at J;obtain⟨rfl,rfl⟩:=J;rw[hx]at O;injection O with O;subst O;subst hA ad;obtain⟨nm,ag⟩:=yE y.name;rw[←ag]at e0 f0;have aq:=fun W=>Xub nm W
   have al:(0:Int)≤(k:Int):=by omega
   have am:(k:Int) < (n':Int):=by omega
   obtain⟨w1,rfl⟩:=yE wr
   have af:=yh (show ∀w',yw w1 w'→(yJ w' g 2 (some ⟨V,au,none⟩) n' cap∧yJ w' h 2 (some ⟨Q,U,none⟩) n' av∧w'.cell? ⟨V,au+k*2,none⟩=some (Zb nm)∧yJ w' V (au+k*2+1) A5 n5 c5∧w'.cell? ⟨Q,U+k*2,none⟩=some (Zb nm)∧yJ w' Q (U+k*2+1) A6 n6 c6)from fun w' E=>
    ⟨Qg E g2,Qg E ((HH _ F).cell rfl),Qg E e0,Qg E e1,Qg E f0,Qg E f1⟩)
   have HC:=yh (fun X (E:yw w1 X)=>Qta A5 A6 n5 c5 n6 c6 y.high y.high X (ah.bel E) (ai.bel E));rw[J2 (rfl:y.high=y.high)]at HC;clear hx ah ai e0 e1 f0 f1 ag;go_upto_region 6 with(fail);clear g2;have aa:yw w1 w1.drew:=(J4 _ _).drew;refine yZ (S:=(fun w'=>yJ w' g 2 (some ⟨V,au,none⟩) n' cap∧yJ w' h 2 (some ⟨Q,U,none⟩) n' av∧w'.cell? ⟨V,au+k*2,none⟩=some (Zb nm)∧yJ w' V (au+k*2+1) A5 n5 c5∧w'.cell? ⟨Q,U+k*2,none⟩=some (Zb nm)∧yJ w' Q (U+k*2+1) A6 n6 c6)) (af _ aa) fun aj=>?_;refine yT [0,1,2,3,4,5,6,7,8,9,10,11,12,13,14,15,16,17,18,19,20,21,22,23,24,25] ?_;iterate 26 (refine yS ?_;simp only[yU])
   refine yR 26 fun K hK=>?_;go_simp
   (go_at_call 65;refine(HC _ aa).mono ?_;rintro e w5 ⟨rfl,q,hq⟩;replace aa:yw w1 w5:=(by rw[hq];exact below_drewN aa _);clear hq)
   go_wp2_with fail;refine hK.out _ _ (af _ aa) fun aj=>?_;clear hK K
   try simp only[yU]
   refine yT [27,28] ?_;iterate 2 (refine yS ?_;simp only[yU])
   refine yD ?_;go_wp2_with fail;go_roundg (n' - (k+1))
   case measure=>omega
   case rel=>exact⟨k+1,by omega,by omega,by go_num,F.trans (aa.mono F.size)⟩
  ·obtain rfl:k=n':=by omega
   go_wp2_with fail;clear g2;obtain⟨W2,rfl⟩:=yE wr
   go_loopg [6] D (fun gk i wr=>∃k:Nat,k≤D∧D - k≤gk∧i=.int .i64 k∧yw I wr)
   case atStart=>exact⟨0,M0 _,by omega,rfl,F⟩
   case round=>
    clear F;obtain⟨k,hk,ak,rfl,F⟩:=hrel;have g3:yJ wr g 3 B D ab:=(HG _ F).cell rfl;by_cases hlt:k < D
    ·obtain⟨V,au,y,c0,c1,c2,c3,hA,hx,⟨J,_⟩,e0,e1,e2,e3⟩:=(H2.bel (HT _ F)).at4 hlt;simp only[List.cons.injEq,and_true]at J;obtain⟨rfl,rfl,rfl,rfl⟩:=J;obtain⟨Q,U,y2,c0,c1,c2,c3,ad,O,⟨J,_⟩,f0,f1,f2,f3⟩:=(H4.bel (HT _ F)).at4 hlt;simp only[List.cons.injEq,and_true]at J;obtain⟨rfl,rfl,rfl,rfl⟩:=J;rw[hx]at O;injection O with O;subst O;subst hA ad;have k3:yJ wr h 3 (some ⟨Q,U,none⟩) D ac:=(HH _ F).cell rfl;have an:=fun W=>Xtb y.name y.cat y.ber y.lev W
     have al:(0:Int)≤(k:Int):=by omega
     have am:(k:Int) < (D:Int):=by omega
     clear hx;go_upto_region 11 with(fail);go_quiet (fail);go_wp2_with fail;go_roundg (D - (k+1))
     case measure=>omega
     case rel=>exact⟨k+1,by omega,by omega,by go_num,below_drewN F _⟩
    ·obtain rfl:k=D:=by omega
     go_wp2_with fail;go_ret;exact⟨rfl,HT _ F⟩
theorem U9a (x:Fares)(A:Option Addr)(n cap:Nat)(B:Option Addr)(m aa:Nat)(A':Option Addr)(n' aq:Nat)(B':Option Addr)(D ar:Nat)(w:World)(h1:FareR w A n cap x B m aa)(h2:FareR w A' n' aq x B' D ar) :
  Calls prog 22 #[.agg #[.slice A n cap,.int .i64 x.alone,.int .i64 x.third,.slice B m aa,.int .i64 x.down],.agg #[.slice A' n' aq,.int .i64 x.alone,.int .i64 x.third,.slice B' D ar,.int .i64 x.down]] w fun e w'=>e=.returned (.bool true)∧yw w w':=by
 obtain rfl:n'=n:=by rw[←h1.leg.len,←h2.leg.len]
 obtain rfl:D=m:=by rw[←h1.bands.len,←h2.bands.len]
 have ao:=h1.leg.bd;have an:=h1.bands.bd;have H1:=yh h1;have H2:=yh h2;clear h1 h2;go_enter func22,ntmps22;go_upto_region 0 with(fail);go_cut [2,3,4] (fun p p2 _ wx=>∃g h,yp p g∧yp p2 h∧Blk wx g #[.slice A n' cap,.int .i64 x.alone,.int .i64 x.third,.slice B D aa,.int .i64 x.down] 29∧Blk wx h #[.slice A' n' aq,.int .i64 x.alone,.int .i64 x.third,.slice B' D ar,.int .i64 x.down] 29∧yw w wx)
 case first=>as_aux_lemma=>
  go_wp2_with fail;go_meet;exact⟨_,_,rfl,rfl,QB _ _ _,QC _ _ _,Zl _ _ _⟩
 obtain⟨g,h,rfl,rfl,Q,U,ae⟩:=hcut;obtain⟨E,rfl⟩:=yE wc;have HG:=yh (fun X (I:yw E X)=>Q.bel I);have HH:=yh (fun X (I:yw E X)=>U.bel I);have HT:=yh (fun X (I:yw E X)=>ae.trans (I.mono ae.size));have g0:yJ E g 0 A n' cap:=Q.cell rfl;have g1:yI E g 1 x.alone:=Q.cell rfl;have g2:yI E g 2 x.third:=Q.cell rfl;have g3:yJ E g 3 B D aa:=Q.cell rfl;have g4:yI E g 4 x.down:=Q.cell rfl;have k0:yJ E h 0 A' n' aq:=U.cell rfl;have k1:yI E h 1 x.alone:=U.cell rfl;have k2:yI E h 2 x.third:=U.cell rfl;have k3:yJ E h 3 B' D ar:=U.cell rfl;have k4:yI E h 4 x.down:=U.cell rfl;clear Q U ae;go_wp2_with fail;clear g0 g1 g2 g3 g4 k0 k1 k2 k3 k4
 go_loopg [5] n' (fun gk i wr=>∃k:Nat,k≤n'∧n' - k≤gk∧i=.int .i64 k∧yw E wr)
 case atStart=>exact⟨0,M0 _,by omega,rfl,J4 _ _⟩
 case round=>
  obtain⟨k,hk,aj,rfl,F⟩:=hrel;have g0:yJ wr g 0 A n' cap:=(HG _ F).cell rfl;by_cases hlt:k < n'
  ·obtain⟨ab,ac,y,c0,hA,hx,⟨A5,n5,c5,J,ag⟩,e0⟩:=(H1.leg.below (ZK Qc (by omega)) (by omega) (HT _ F)).at1 hlt;simp only[List.cons.injEq,and_true]at J;subst J;obtain⟨V,Z,y2,c0,ad,O,⟨A6,n6,c6,J,ah⟩,f0⟩:=(H2.leg.below (ZK Qc (by omega)) (by omega) (HT _ F)).at1 hlt;simp only[List.cons.injEq,and_true]at J;subst J;rw[hx]at O;injection O with O;subst O;subst hA ad
   have ak:(0:Int)≤(k:Int):=by omega
   have al:(k:Int) < (n':Int):=by omega
   obtain⟨w1,rfl⟩:=yE wr
   have af:=yh (show ∀w',yw w1 w'→(yJ w' g 0 (some ⟨ab,ac,none⟩) n' cap∧yJ w' h 0 (some ⟨V,Z,none⟩) n' aq∧yJ w' ab (ac+k) A5 n5 c5∧yJ w' V (Z+k) A6 n6 c6)from fun w' I=>
    ⟨Qg I g0,Qg I ((HH _ F).cell rfl),Qg I e0,Qg I f0⟩)
   have HC:=yh (fun X (I:yw w1 X)=>Qta A5 A6 n5 c5 n6 c6 y y X (ag.bel I) (ah.bel I));rw[J2 (rfl:y=y)]at HC;clear hx ag ah e0 f0;go_upto_region 6 with(fail);clear g0;have Y:yw w1 w1.drew:=(J4 _ _).drew;refine yZ (S:=(fun w'=>yJ w' g 0 (some ⟨ab,ac,none⟩) n' cap∧yJ w' h 0 (some ⟨V,Z,none⟩) n' aq∧yJ w' ab (ac+k) A5 n5 c5∧yJ w' V (Z+k) A6 n6 c6)) (af _ Y) fun ai=>?_;refine yT [0,1,2,3,4,5,6,7,8,9] ?_;iterate 10 (refine yS ?_;simp only[yU])
   refine yR 10 fun K hK=>?_;go_simp
   (go_at_call 65;refine(HC _ Y).mono ?_;rintro e w5 ⟨rfl,q,hq⟩;replace Y:yw w1 w5:=(by rw[hq];exact below_drewN Y _);clear hq)
   go_wp2_with fail;refine hK.out _ _ (af _ Y) fun ai=>?_;clear hK K
   try simp only[yU]
   refine yT [11] ?_;iterate 1 (refine yS ?_;simp only[yU])
   refine yD ?_;go_wp2_with fail;go_roundg (n' - (k+1))
   case measure=>omega
   case rel=>exact⟨k+1,by omega,by omega,by go_num,F.trans (Y.mono F.size)⟩
  ·obtain rfl:k=n':=by omega
   go_wp2_with fail;clear g0;obtain⟨W2,rfl⟩:=yE wr
   go_loopg [6] D (fun gk i wr=>∃k:Nat,k≤D∧D - k≤gk∧i=.int .i64 k∧yw E wr)
   case atStart=>exact⟨0,M0 _,by omega,rfl,F⟩
   case round=>
    clear F;obtain⟨k,hk,aj,rfl,F⟩:=hrel;have g3:yJ wr g 3 B D aa:=(HG _ F).cell rfl;by_cases hlt:k < D
    ·obtain⟨ab,ac,y,c0,c1,hA,hx,⟨J,_⟩,e0,e1⟩:=(H1.bands.below Qt (by omega) (HT _ F)).at2 hlt;simp only[List.cons.injEq,and_true]at J;obtain⟨rfl,rfl⟩:=J;obtain⟨V,Z,y2,c0,c1,ad,O,⟨J,_⟩,f0,f1⟩:=(H2.bands.below Qt (by omega) (HT _ F)).at2 hlt;simp only[List.cons.injEq,and_true]at J;obtain⟨rfl,rfl⟩:=J;rw[hx]at O;injection O with O;subst O;subst hA ad;have k3:yJ wr h 3 (some ⟨V,Z,none⟩) D ar:=(HH _ F).cell rfl;have am:=fun W=>ULb y.days y.part W
     have ak:(0:Int)≤(k:Int):=by omega
     have al:(k:Int) < (D:Int):=by omega
     clear hx;go_upto_region 11 with(fail);go_quiet (fail);go_wp2_with fail;go_roundg (D - (k+1))
     case measure=>omega
     case rel=>exact⟨k+1,by omega,by omega,by go_num,below_drewN F _⟩
    ·obtain rfl:k=D:=by omega
     go_wp2_with fail;go_ret;exact⟨rfl,HT _ F⟩
theorem YG {w:World}{g:Nat}{x:Sai}{p:SaiV}{t:TypeId}(h:Blk w g (Qa x p) t):yI w g 0 x.ship.legs∧yI w g 1 x.ship.souls∧yJ w g 2 p.A p.n p.cap∧yJ w g 3 p.B p.m p.cap2∧yJ w g 4 p.D p.nd p.cd∧yI w g 5 x.fares.alone∧yI w g 6 x.fares.third∧yJ w g 7 p.E p.ne p.ce∧yI w g 8 x.fares.down∧yI w g 9 x.day∧yI w g 10 x.leaves∧yJ w g 11 p.C p.nb p.cb∧w.cell? ⟨g,12,none⟩=some (.bool x.closed):=
 ⟨h.cell rfl,h.cell rfl,h.cell rfl,h.cell rfl,h.cell rfl,h.cell rfl,h.cell rfl,h.cell rfl,h.cell rfl,h.cell rfl,h.cell rfl,h.cell rfl,h.cell rfl⟩
theorem Yb (x:Sai)(p q:SaiV)(w:World)(h1:SaiR w x p)(h2:SaiR w x q) :
  Calls prog 18 #[.agg (Qa x p),.agg (Qa x q)] w fun e w'=>e=.returned (.bool true)∧yw w w':=by
 have aj:=yh (fun X (k1:SaiR X x p) (Y:SaiR X x q)=>Xka x.ship p.A p.n p.cap p.B p.m p.cap2 q.A q.n q.cap q.B q.m q.cap2 X k1.cats k1.cabs Y.cats Y.cabs);have ai:=yh (fun X (k1:SaiR X x p) (Y:SaiR X x q)=>U9a x.fares p.D p.nd p.cd p.E p.ne p.ce q.D q.nd q.cd q.E q.ne q.ce X k1.fares Y.fares);obtain⟨A,n,cap,B,m,al,D,nd,cd,E,ne,ce,C,F,cb⟩:=p;obtain⟨A',n',ak,B',m',am,D',aB,an,E',aC,ao,C',aM,aa⟩:=q
 obtain rfl:F=aM:=by rw[show F=x.bks.length from h1.bks.len.symm];exact h2.bks.len
 have aI:=h1.bks.bd;simp only at aj ai aI;have H1:=yh h1;have H2:=yh h2;clear h1 h2;go_enter func18,ntmps18;go_upto_region 0 with(fail);go_cut [2,3,4] (fun p p2 _ wx=>∃g h,yp p g∧yp p2 h∧Blk wx g (Qa x ⟨A,n,cap,B,m,al,D,nd,cd,E,ne,ce,C,F,cb⟩) 32∧Blk wx h (Qa x ⟨A',n',ak,B',m',am,D',aB,an,E',aC,ao,C',F,aa⟩) 32∧yw w wx)
 case first=>as_aux_lemma=>
  go_wp2_with fail;go_meet;exact⟨_,_,rfl,rfl,QB _ _ _,QC _ _ _,Zl _ _ _⟩
 obtain⟨g,h,rfl,rfl,hG,hH,ah⟩:=hcut;obtain⟨W1,rfl⟩:=yE wc;have HG:=yh (fun X (I:yw W1 X)=>hG.bel I);have HH:=yh (fun X (I:yw W1 X)=>hH.bel I);have HT:=yh (fun X (I:yw W1 X)=>ah.trans (I.mono ah.size));have ae:=yh (fun X (I:yw W1 X)=>H1.bel (HT X I));have af:=yh (fun X (I:yw W1 X)=>H2.bel (HT X I));clear hG hH ah;have J:yw W1 W1:=J4 _ _;go_upto_region 1 with(fail);go_cut [49] (fun p wx=>p=.bool false∧yw W1 wx)
 case first=>as_aux_lemma=>
  have hG:=HG _ J;have hH:=HH _ J;have s0:yI W1 g 0 x.ship.legs:=hG.cell rfl;have s1:yI W1 g 1 x.ship.souls:=hG.cell rfl;have s2:yJ W1 g 2 A n cap:=hG.cell rfl;have s3:yJ W1 g 3 B m al:=hG.cell rfl;have s4:yJ W1 g 4 D nd cd:=hG.cell rfl;have s5:yI W1 g 5 x.fares.alone:=hG.cell rfl;have s6:yI W1 g 6 x.fares.third:=hG.cell rfl;have s7:yJ W1 g 7 E ne ce:=hG.cell rfl;have s8:yI W1 g 8 x.fares.down:=hG.cell rfl;have s9:yI W1 g 9 x.day:=hG.cell rfl;have aN:yI W1 g 10 x.leaves:=hG.cell rfl;have aO:yJ W1 g 11 C F cb:=hG.cell rfl;have aP:W1.cell? ⟨g,12,none⟩=some (.bool x.closed):=hG.cell rfl;have k0:yI W1 h 0 x.ship.legs:=hH.cell rfl;have k1:yI W1 h 1 x.ship.souls:=hH.cell rfl;have Y:yJ W1 h 2 A' n' ak:=hH.cell rfl;have k3:yJ W1 h 3 B' m' am:=hH.cell rfl;have k9:yI W1 h 9 x.day:=hH.cell rfl;have aJ:yI W1 h 10 x.leaves:=hH.cell rfl;have aK:yJ W1 h 11 C' F aa:=hH.cell rfl;have aL:W1.cell? ⟨h,12,none⟩=some (.bool x.closed):=hH.cell rfl;have U:=yh (aj _ (ae _ J) (af _ J));clear hG hH;go_wp2_with fail;refine yM U fun O W=>?_;have hG:=HG _ W;have hH:=HH _ W;clear s0 s1 s2 s3 s4 s5 s6 s7 s8 s9 aN aO aP k0 k1 Y k3 k9 aJ aK aL U;have s4:yJ O g 4 D nd cd:=hG.cell rfl;have s5:yI O g 5 x.fares.alone:=hG.cell rfl;have s6:yI O g 6 x.fares.third:=hG.cell rfl;have s7:yJ O g 7 E ne ce:=hG.cell rfl;have s8:yI O g 8 x.fares.down:=hG.cell rfl;have k4:yJ O h 4 D' aB an:=hH.cell rfl;have k5:yI O h 5 x.fares.alone:=hH.cell rfl;have k6:yI O h 6 x.fares.third:=hH.cell rfl;have k7:yJ O h 7 E' aC ao:=hH.cell rfl;have k8:yI O h 8 x.fares.down:=hH.cell rfl;have U:=yh (ai _ (ae _ W) (af _ W));clear hG hH;go_wp2_with fail;refine yM U fun w3 aH=>?_;go_wp2_with fail;go_meet;exact⟨rfl,W.trans (aH.mono W.size)⟩
 obtain⟨rfl,av⟩:=hcut;replace J:=av;clear av;go_wp2_with fail
 go_loopg [5] F (fun gk i wr=>∃k:Nat,k≤F∧F - k≤gk∧i=.int .i64 k∧yw W1 wr)
 case atStart=>exact⟨0,M0 _,by omega,rfl,J⟩
 case round=>
  clear J;obtain⟨k,hk,aQ,rfl,J⟩:=hrel;have ap:yJ wr g 11 C F cb:=(HG _ J).cell rfl;by_cases hlt:k < F
  ·obtain⟨ab,aU,b,A3,n3,c3,hA,hx,hF,-,ax⟩:=(ae _ J).bks.bkg hlt;obtain⟨V,Z,b2,B3,m3,d3,ar,ad,au,-,ay⟩:=(af _ J).bks.bkg hlt;rw[hx]at ad;injection ad with ad;subst ad;simp only at hA ar;subst hA ar;obtain⟨w1,rfl⟩:=yE wr;have aq:yJ w1 h 11 (some ⟨V,Z,none⟩) F aa:=(HH _ J).cell rfl;have r1:w1.rangeAt ab (aU+k*11) (Qj b (.slice A3 n3 c3)).toList:=ax;have r2:w1.rangeAt V (Z+k*11) (Qj b (.slice B3 m3 d3)).toList:=ay;have aF:=yh r1;have aG:=yh r2;have ac:=yh (show ∀w',yw w1 w'→(yJ w' g 11 (some ⟨ab,aU,none⟩) F cb∧yJ w' h 11 (some ⟨V,Z,none⟩) F aa)from fun w' I=>⟨Qg I ap,Qg I aq⟩);have U:=yh (fun X (I:yw w1 X)=>ZNa b A3 n3 c3 B3 m3 d3 X (hF.bel I) (au.bel I))
   have aR:(0:Int)≤(k:Int):=by omega
   have aS:(k:Int) < (F:Int):=by omega
   clear hx hF au ax ay r1 r2 aq;go_upto_region 6 with(fail);clear ap;have Q:yw w1 w1.drew:=(J4 _ _).drew
   have az:w1.drew.rangeAt ab (aU+k*11) (Qj b (.slice A3 n3 c3)).toList:=by rw[World.rangeAt_drew];exact aF
   have aA:w1.drew.rangeAt V (Z+k*11) (Qj b (.slice B3 m3 d3)).toList:=by rw[World.rangeAt_drew];exact aG
   have aD:=yh az;have aE:=yh aA;clear az aA;refine yZ (S:=(fun w'=>yJ w' g 11 (some ⟨ab,aU,none⟩) F cb∧yJ w' h 11 (some ⟨V,Z,none⟩) F aa)) (ac _ Q) fun ag=>?_;refine yT [0,1,2,3,5,6,7,8] ?_;iterate 8 (refine yS ?_;simp only[yU])
   focus
    refine yr2 4 9 (fun K k4=>?_) (fun K k9=>?_)
    repeat first
     |
      revert k4
      intro hK
      (refine Vk rfl 63 (.tmp 60) rfl ab (aU+k*11) rfl (Qj b (.slice A3 n3 c3)).toList _ aD underlying63 (by kernel_rfl) (by kernel_rfl) ?_)
      refine hK.out _ _ (ac _ Q) fun ag=>?_;clear hK K
      try simp only[yU]
      first
       | refine yt1 9 (fun K k9=>?_)
       | rotate_left
     |
      revert k9
      intro hK
      (refine Vk rfl 63 (.tmp 65) rfl V (Z+k*11) rfl (Qj b (.slice B3 m3 d3)).toList _ aE underlying63 (by kernel_rfl) (by kernel_rfl) ?_)
      refine hK.out _ _ (ac _ Q) fun ag=>?_;clear hK K
      try simp only[yU]
      first
       | refine yt1 4 (fun K k4=>?_)
       | rotate_left
    all_goals
     refine yR 10 fun K hK=>?_;go_simp
     (go_at_call 76;refine yM (U _ Q) fun w5 aw=>?_;replace Q:=Q.trans (aw.mono Q.size);clear aw)
     go_wp2_with fail;refine hK.out _ _ (ac _ Q) fun ag=>?_;clear hK K
     try simp only[yU]
     refine yT [11] ?_;iterate 1 (refine yS ?_;simp only[yU])
     refine yD ?_;go_wp2_with fail;go_roundg (F - (k+1))
     case measure=>omega
     case rel=>exact⟨k+1,by omega,by omega,by go_num,J.trans (Q.mono J.size)⟩
  ·obtain rfl:k=F:=by omega
   go_wp2_with fail;go_ret;exact⟨rfl,HT _ J⟩
theorem Vla (x y:Sai)(p q:SaiV)(Q:Int)(w:World)(h1:SaiR w x p)(h2:SaiR w y q)(aj:x=okS Q y) :
  Calls prog 32 #[.agg (Qa x p),.int .i64 Q,.int .i64 Q,.agg (Qa y q)] w fun e w'=>e=.returned (.bool true)∧yw w w':=by
 have ac:=yh (fun(v:Sai) p q X k1 k2=>Yb v p q X k1 k2);have H1:=yh h1;have H2:=yh h2;obtain⟨A,n,cap,B,m,Y,D,nd,cd,E,ne,ce,C,nb,Z⟩:=p;obtain⟨A',n',ae,B',m',af,D',al,ah,E',am,ai,C',ak,ag⟩:=q;have ad:=yh aj;clear aj;clear h1 h2;go_enter func32,ntmps32;go_upto_region 0 with(fail);go_cut [4,7,8] (fun p p2 _ O=>∃g h,yp p g∧yp p2 h∧w.heap.size≤h∧g≠h∧Blk O g (Qa x ⟨A,n,cap,B,m,Y,D,nd,cd,E,ne,ce,C,nb,Z⟩) 32∧Blk O h (Qa y ⟨A',n',ae,B',m',af,D',al,ah,E',am,ai,C',ak,ag⟩) 32∧yw w O)
 case first=>as_aux_lemma=>
  go_wp2_with fail;go_meet;exact⟨_,_,rfl,rfl,by omega,by omega,QB _ _ _,QC _ _ _,Zl _ _ _⟩
 obtain⟨g,h,rfl,rfl,hh,an,hG,F,U⟩:=hcut;obtain⟨W1,rfl⟩:=yE wc;have V:=yh U;by_cases h0:Q=0
 ·subst h0;obtain rfl:x=y:=ad.out;have HG:=yh hG;have HH:=yh F;have W:=yh (ac x _ _ W1 (H1.bel U) (H2.bel U));have s0:yI W1 g 0 x.ship.legs:=hG.cell rfl;have s1:yI W1 g 1 x.ship.souls:=hG.cell rfl;have s2:yJ W1 g 2 A n cap:=hG.cell rfl;have s3:yJ W1 g 3 B m Y:=hG.cell rfl;have s4:yJ W1 g 4 D nd cd:=hG.cell rfl;have s5:yI W1 g 5 x.fares.alone:=hG.cell rfl;have s6:yI W1 g 6 x.fares.third:=hG.cell rfl;have s7:yJ W1 g 7 E ne ce:=hG.cell rfl;have s8:yI W1 g 8 x.fares.down:=hG.cell rfl;have s9:yI W1 g 9 x.day:=hG.cell rfl;have ar:yI W1 g 10 x.leaves:=hG.cell rfl;have au:yJ W1 g 11 C nb Z:=hG.cell rfl;have av:W1.cell? ⟨g,12,none⟩=some (.bool x.closed):=hG.cell rfl;have k0:yI W1 h 0 x.ship.legs:=F.cell rfl;have k1:yI W1 h 1 x.ship.souls:=F.cell rfl;have k2:yJ W1 h 2 A' n' ae:=F.cell rfl;have k3:yJ W1 h 3 B' m' af:=F.cell rfl;have k4:yJ W1 h 4 D' al ah:=F.cell rfl;have k5:yI W1 h 5 x.fares.alone:=F.cell rfl;have k6:yI W1 h 6 x.fares.third:=F.cell rfl;have k7:yJ W1 h 7 E' am ai:=F.cell rfl;have k8:yI W1 h 8 x.fares.down:=F.cell rfl;have k9:yI W1 h 9 x.day:=F.cell rfl;have ao:yI W1 h 10 x.leaves:=F.cell rfl;have ap:yJ W1 h 11 C' ak ag:=F.cell rfl;have aq:W1.cell? ⟨h,12,none⟩=some (.bool x.closed):=F.cell rfl;clear hG F U;go_wp2_with fail;refine yM W fun w3 aa=>?_;go_wp2_with fail;go_ret;exact⟨rfl,V.trans (aa.mono V.size)⟩
 ·obtain rfl:x=Qf:=by rw[ad.out,UN h0]
  have q0:(Q != 0)=true:=by simpa using h0
  have HG:=yh hG;have HH:=yh F;clear h0 hG F U;go_upto_region 2 with(fail);go_cut [7] (fun p O=>yp p h∧Blk O h (Qa Qf Qh) 32∧Kept (fun k=>k=h) W1 O)
  case first=>as_aux_lemma=>
   go_wp2_with (refine yX 32 (.tmp 7) (.tmp 11) h (Qa Qf Qh) HH ?_);go_meet;exact⟨rfl,HH.row _,(Kept.refl (fun k=>k=h) _).setRow (.inl rfl) _⟩
  obtain⟨rfl,J,hK⟩:=hcut;obtain⟨W2,rfl⟩:=yE wc;have ab:=V.trans (hK.below (B:=w.heap.size) V.size (fun k hk e=>by omega));have I:=HG.kept hK an;have W:=yh (ac Qf _ _ W2 (H1.bel ab) (Vt W2));have s0:yI W2 g 0 0:=I.cell rfl;have s1:yI W2 g 1 0:=I.cell rfl;have s2:yJ W2 g 2 A n cap:=I.cell rfl;have s3:yJ W2 g 3 B m Y:=I.cell rfl;have s4:yJ W2 g 4 D nd cd:=I.cell rfl;have s5:yI W2 g 5 0:=I.cell rfl;have s6:yI W2 g 6 0:=I.cell rfl;have s7:yJ W2 g 7 E ne ce:=I.cell rfl;have s8:yI W2 g 8 0:=I.cell rfl;have s9:yI W2 g 9 0:=I.cell rfl;have ar:yI W2 g 10 0:=I.cell rfl;have au:yJ W2 g 11 C nb Z:=I.cell rfl;have av:W2.cell? ⟨g,12,none⟩=some (.bool false):=I.cell rfl;have k0:yI W2 h 0 0:=J.cell rfl;have k1:yI W2 h 1 0:=J.cell rfl;have k2:yJ W2 h 2 none 0 0:=J.cell rfl;have k3:yJ W2 h 3 none 0 0:=J.cell rfl;have k4:yJ W2 h 4 none 0 0:=J.cell rfl;have k5:yI W2 h 5 0:=J.cell rfl;have k6:yI W2 h 6 0:=J.cell rfl;have k7:yJ W2 h 7 none 0 0:=J.cell rfl;have k8:yI W2 h 8 0:=J.cell rfl;have k9:yI W2 h 9 0:=J.cell rfl;have ao:yI W2 h 10 0:=J.cell rfl;have ap:yJ W2 h 11 none 0 0:=J.cell rfl;have aq:W2.cell? ⟨h,12,none⟩=some (.bool false):=J.cell rfl;clear I J hK;go_wp2_with fail;refine yM W fun w3 aa=>?_;go_wp2_with fail;go_ret;exact⟨rfl,ab.trans (aa.mono ab.size)⟩
end Go.Proofs.YtjdcokpmgionjaaGreat
