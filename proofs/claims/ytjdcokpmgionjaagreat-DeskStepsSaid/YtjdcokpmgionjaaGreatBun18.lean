/-
  Laws and contracts.
-/
import Derived.Test.YtjdcokpmgionjaaGreatBun17
set_option linter.unusedSimpArgs false
set_option linter.unusedVariables false
set_option maxRecDepth 100000
set_option maxHeartbeats 20000000
namespace Go.Proofs.YtjdcokpmgionjaaGreat
open Proofs.Tryz Go.RowKit Go.Shelf
theorem Vrb (f u:Int)(W:World):(binOp .eql 51 (.agg #[.int .i64 f,.int .i64 u]) (.agg #[.int .i64 f,.int .i64 u])).run prog W=.ok (.bool true) W:=by
 go_simp
theorem Vqb (f u:Int)(W:World):(binOp .neq 138 (.agg #[.int .i64 f,.int .i64 u]) (.agg #[.int .i64 f,.int .i64 u])).run prog W=.ok (.bool false) W:=by
 go_simp
theorem X8b (s:List UInt8)(W:World):(binOp .neq 9 (Zf s) (Zf s)).run prog W=.ok (.bool false) W:=by
 go_simp
theorem X7b (s:List UInt8)(a b:Int)(l:Bool)(W:World):(binOp .neq 136 (.agg #[Zf s,.int .i64 a,.int .i64 b,.bool l]) (.agg #[Zf s,.int .i64 a,.int .i64 b,.bool l])).run prog W=.ok (.bool false) W:=by
 go_simp
theorem Uha (b:Bkg)(D:Option Addr)(U F:Nat)(E:Option Addr)(Q I:Nat)(w:World)(J:Sl Qm 3 w All D U F b.fol)(O:Sl Qm 3 w All E Q I b.fol) :
  Calls prog 76 #[.agg (Qk b (.slice D U F)),.agg (Qk b (.slice E Q I))] w fun e w'=>e=.returned (.bool true)∧yw w w':=by
 obtain⟨id,ac,ad,aa,lev,Y,Z,ag,upto,ae,A⟩:=b;simp only at J O;have V:=yh (fun X hX=>VKa D E U F Q I A A X (J.bel hX) (O.bel hX));rw[J2 (rfl:A=A)]at V;clear J O;have ab:=fun W=>Vrb ag upto W;go_enter func76,ntmps76;go_wp2_with fail;refine(V _ (Zo w _ _)).mono ?_;rintro e w2 ⟨rfl,q,rfl⟩;go_wp2_with fail;go_ret;exact⟨rfl,below_drewN (Zo _ _ _) _⟩
theorem XMa (x:Shp)(A:Option Addr)(n cap:Nat)(B:Option Addr)(m ab:Nat)(A':Option Addr)(n' av:Nat)(B':Option Addr)(D ac:Nat)(w:World)(h1:Sl UX 2 w All A n cap x.cats)(h2:Sl Ut 4 w All B m ab x.cabs)(h3:Sl UX 2 w All A' n' av x.cats)(h4:Sl Ut 4 w All B' D ac x.cabs) :
  Calls prog 21 #[.agg #[.int .i64 x.legs,.int .i64 x.souls,.slice A n cap,.slice B m ab],.agg #[.int .i64 x.legs,.int .i64 x.souls,.slice A' n' av,.slice B' D ac]] w fun e w'=>e=.returned (.bool true)∧yw w w':=by
 obtain rfl:n'=n:=by rw[←h1.len,←h3.len]
 obtain rfl:D=m:=by rw[←h2.len,←h4.len]
 have ap:=h1.bd;have ao:=h2.bd;have H1:=yh h1;have H2:=yh h2;have H3:=yh h3;have H4:=yh h4;clear h1 h2 h3 h4;go_enter func21,ntmps21;go_upto_region 0 with(fail);go_cut [2,3,4] (fun p p2 _ wx=>∃g h,yp p g∧yp p2 h∧Blk wx g #[.int .i64 x.legs,.int .i64 x.souls,.slice A n' cap,.slice B D ab] 25∧Blk wx h #[.int .i64 x.legs,.int .i64 x.souls,.slice A' n' av,.slice B' D ac] 25∧yw w wx)
 case first=>as_aux_lemma=>
  go_wp2_with fail;go_meet;exact⟨_,_,rfl,rfl,QE _ _ _,QF _ _ _,Zo _ _ _⟩
 obtain⟨g,h,rfl,rfl,Y,Z,ae⟩:=hcut;obtain⟨I,rfl⟩:=yE wc;have HG:=yh (fun X (E:yw I X)=>Y.bel E);have HH:=yh (fun X (E:yw I X)=>Z.bel E);have HT:=yh (fun X (E:yw I X)=>ae.trans (E.mono ae.size));have g0:yI I g 0 x.legs:=Y.cell rfl;have g1:yI I g 1 x.souls:=Y.cell rfl;have g2:yJ I g 2 A n' cap:=Y.cell rfl;have g3:yJ I g 3 B D ab:=Y.cell rfl;have k0:yI I h 0 x.legs:=Z.cell rfl;have k1:yI I h 1 x.souls:=Z.cell rfl;have k2:yJ I h 2 A' n' av:=Z.cell rfl;have k3:yJ I h 3 B' D ac:=Z.cell rfl;clear Y Z ae;go_wp2_with fail;clear g0 g1 g2 g3 k0 k1 k2 k3
 go_loopg [5] n' (fun gk i wr=>∃k:Nat,k≤n'∧n'-k≤gk∧i=.int .i64 k∧yw I wr)
 case atStart=>exact⟨0,M0 _,by omega,rfl,J4 _ _⟩
 case round=>
  obtain⟨k,hk,ak,rfl,F⟩:=hrel;have g2:yJ wr g 2 A n' cap:=(HG _ F).cell rfl;by_cases hlt:k<n'
  ·obtain⟨V,au,y,c0,c1,hA,hx,⟨A5,n5,c5,J,ah,_⟩,e0,e1⟩:=(H1.bel (HT _ F)).at2 hlt;simp only[List.cons.injEq,and_true]at J;obtain⟨rfl,rfl⟩:=J;obtain⟨Q,U,y2,c0,c1,ad,O,⟨A6,n6,c6,J,ai,_⟩,f0,f1⟩:=(H3.bel (HT _ F)).at2 hlt;simp only[List.cons.injEq,and_true]at J;obtain⟨rfl,rfl⟩:=J;rw[hx]at O;injection O with O;subst O;subst hA ad;obtain⟨nm,ag⟩:=yE y.name;rw[←ag]at e0 f0;have aq:=fun W=>X8b nm W
   have al:(0:Int)≤(k:Int):=by omega
   have am:(k:Int)<(n':Int):=by omega
   obtain⟨w1,rfl⟩:=yE wr
   have af:=yh (show ∀w',yw w1 w'→(yJ w' g 2 (some ⟨V,au,none⟩) n' cap∧yJ w' h 2 (some ⟨Q,U,none⟩) n' av∧w'.cell? ⟨V,au+k*2,none⟩=some (Zf nm)∧yJ w' V (au+k*2+1) A5 n5 c5∧w'.cell? ⟨Q,U+k*2,none⟩=some (Zf nm)∧yJ w' Q (U+k*2+1) A6 n6 c6)from fun w' E=>
    ⟨Qh E g2,Qh E ((HH _ F).cell rfl),Qh E e0,Qh E e1,Qh E f0,Qh E f1⟩)
   have HC:=yh (fun X (E:yw w1 X)=>QSa A5 A6 n5 c5 n6 c6 y.high y.high X (ah.bel E) (ai.bel E));rw[J2 (rfl:y.high=y.high)]at HC;clear hx ah ai e0 e1 f0 f1 ag;go_upto_region 6 with(fail);clear g2;have aa:yw w1 w1.drew:=(J4 _ _).drew;refine yZ (S:=(fun w'=>yJ w' g 2 (some ⟨V,au,none⟩) n' cap∧yJ w' h 2 (some ⟨Q,U,none⟩) n' av∧w'.cell? ⟨V,au+k*2,none⟩=some (Zf nm)∧yJ w' V (au+k*2+1) A5 n5 c5∧w'.cell? ⟨Q,U+k*2,none⟩=some (Zf nm)∧yJ w' Q (U+k*2+1) A6 n6 c6)) (af _ aa) fun aj=>?_;refine yT [0,1,2,3,4,5,6,7,8,9,10,11,12,13,14,15,16,17,18,19,20,21,22,23,24,25] ?_;iterate 26 (refine yS ?_;simp only[yU])
   refine yR 26 fun K hK=>?_;go_simp
   (go_at_call 65;refine(HC _ aa).mono ?_;rintro e w5 ⟨rfl,q,hq⟩;replace aa:yw w1 w5:=(by rw[hq];exact below_drewN aa _);clear hq)
   go_wp2_with fail;refine hK.out _ _ (af _ aa) fun aj=>?_;clear hK K
   try simp only[yU]
   refine yT [27,28] ?_;iterate 2 (refine yS ?_;simp only[yU])
   refine yD ?_;go_wp2_with fail;go_roundg (n'-(k+1))
   case measure=>omega
   case rel=>exact⟨k+1,by omega,by omega,by go_num,F.trans (aa.mono F.size)⟩
  ·obtain rfl:k=n':=by omega
   go_wp2_with fail;clear g2;obtain⟨W2,rfl⟩:=yE wr
   go_loopg [6] D (fun gk i wr=>∃k:Nat,k≤D∧D-k≤gk∧i=.int .i64 k∧yw I wr)
   case atStart=>exact⟨0,M0 _,by omega,rfl,F⟩
   case round=>
    clear F;obtain⟨k,hk,ak,rfl,F⟩:=hrel;have g3:yJ wr g 3 B D ab:=(HG _ F).cell rfl;by_cases hlt:k<D
    ·obtain⟨V,au,y,c0,c1,c2,c3,hA,hx,⟨J,_⟩,e0,e1,e2,e3⟩:=(H2.bel (HT _ F)).at4 hlt;simp only[List.cons.injEq,and_true]at J;obtain⟨rfl,rfl,rfl,rfl⟩:=J;obtain⟨Q,U,y2,c0,c1,c2,c3,ad,O,⟨J,_⟩,f0,f1,f2,f3⟩:=(H4.bel (HT _ F)).at4 hlt;simp only[List.cons.injEq,and_true]at J;obtain⟨rfl,rfl,rfl,rfl⟩:=J;rw[hx]at O;injection O with O;subst O;subst hA ad;have k3:yJ wr h 3 (some ⟨Q,U,none⟩) D ac:=(HH _ F).cell rfl;have an:=fun W=>X7b y.name y.cat y.ber y.lev W
     have al:(0:Int)≤(k:Int):=by omega
     have am:(k:Int)<(D:Int):=by omega
     clear hx;go_upto_region 11 with(fail);go_quiet (fail);go_wp2_with fail;go_roundg (D-(k+1))
     case measure=>omega
     case rel=>exact⟨k+1,by omega,by omega,by go_num,below_drewN F _⟩
    ·obtain rfl:k=D:=by omega
     go_wp2_with fail;go_ret;exact⟨rfl,HT _ F⟩
theorem VJa (x:Fares)(A:Option Addr)(n cap:Nat)(B:Option Addr)(m aa:Nat)(A':Option Addr)(n' aq:Nat)(B':Option Addr)(D ar:Nat)(w:World)(h1:FareR w A n cap x B m aa)(h2:FareR w A' n' aq x B' D ar) :
  Calls prog 22 #[.agg #[.slice A n cap,.int .i64 x.alone,.int .i64 x.third,.slice B m aa,.int .i64 x.down],.agg #[.slice A' n' aq,.int .i64 x.alone,.int .i64 x.third,.slice B' D ar,.int .i64 x.down]] w fun e w'=>e=.returned (.bool true)∧yw w w':=by
 obtain rfl:n'=n:=by rw[←h1.leg.len,←h2.leg.len]
 obtain rfl:D=m:=by rw[←h1.bands.len,←h2.bands.len]
 have ao:=h1.leg.bd;have an:=h1.bands.bd;have H1:=yh h1;have H2:=yh h2;clear h1 h2;go_enter func22,ntmps22;go_upto_region 0 with(fail);go_cut [2,3,4] (fun p p2 _ wx=>∃g h,yp p g∧yp p2 h∧Blk wx g #[.slice A n' cap,.int .i64 x.alone,.int .i64 x.third,.slice B D aa,.int .i64 x.down] 29∧Blk wx h #[.slice A' n' aq,.int .i64 x.alone,.int .i64 x.third,.slice B' D ar,.int .i64 x.down] 29∧yw w wx)
 case first=>as_aux_lemma=>
  go_wp2_with fail;go_meet;exact⟨_,_,rfl,rfl,QE _ _ _,QF _ _ _,Zo _ _ _⟩
 obtain⟨g,h,rfl,rfl,Q,U,ae⟩:=hcut;obtain⟨E,rfl⟩:=yE wc;have HG:=yh (fun X (I:yw E X)=>Q.bel I);have HH:=yh (fun X (I:yw E X)=>U.bel I);have HT:=yh (fun X (I:yw E X)=>ae.trans (I.mono ae.size));have g0:yJ E g 0 A n' cap:=Q.cell rfl;have g1:yI E g 1 x.alone:=Q.cell rfl;have g2:yI E g 2 x.third:=Q.cell rfl;have g3:yJ E g 3 B D aa:=Q.cell rfl;have g4:yI E g 4 x.down:=Q.cell rfl;have k0:yJ E h 0 A' n' aq:=U.cell rfl;have k1:yI E h 1 x.alone:=U.cell rfl;have k2:yI E h 2 x.third:=U.cell rfl;have k3:yJ E h 3 B' D ar:=U.cell rfl;have k4:yI E h 4 x.down:=U.cell rfl;clear Q U ae;go_wp2_with fail;clear g0 g1 g2 g3 g4 k0 k1 k2 k3 k4
 go_loopg [5] n' (fun gk i wr=>∃k:Nat,k≤n'∧n'-k≤gk∧i=.int .i64 k∧yw E wr)
 case atStart=>exact⟨0,M0 _,by omega,rfl,J4 _ _⟩
 case round=>
  obtain⟨k,hk,aj,rfl,F⟩:=hrel;have g0:yJ wr g 0 A n' cap:=(HG _ F).cell rfl;by_cases hlt:k<n'
  ·obtain⟨ab,ac,y,c0,hA,hx,⟨A5,n5,c5,J,ag⟩,e0⟩:=(H1.leg.below (ZU Qd (by omega)) (by omega) (HT _ F)).at1 hlt;simp only[List.cons.injEq,and_true]at J;subst J;obtain⟨V,Z,y2,c0,ad,O,⟨A6,n6,c6,J,ah⟩,f0⟩:=(H2.leg.below (ZU Qd (by omega)) (by omega) (HT _ F)).at1 hlt;simp only[List.cons.injEq,and_true]at J;subst J;rw[hx]at O;injection O with O;subst O;subst hA ad
   have ak:(0:Int)≤(k:Int):=by omega
   have al:(k:Int)<(n':Int):=by omega
   obtain⟨w1,rfl⟩:=yE wr
   have af:=yh (show ∀w',yw w1 w'→(yJ w' g 0 (some ⟨ab,ac,none⟩) n' cap∧yJ w' h 0 (some ⟨V,Z,none⟩) n' aq∧yJ w' ab (ac+k) A5 n5 c5∧yJ w' V (Z+k) A6 n6 c6)from fun w' I=>
    ⟨Qh I g0,Qh I ((HH _ F).cell rfl),Qh I e0,Qh I f0⟩)
   have HC:=yh (fun X (I:yw w1 X)=>QSa A5 A6 n5 c5 n6 c6 y y X (ag.bel I) (ah.bel I));rw[J2 (rfl:y=y)]at HC;clear hx ag ah e0 f0;go_upto_region 6 with(fail);clear g0;have Y:yw w1 w1.drew:=(J4 _ _).drew;refine yZ (S:=(fun w'=>yJ w' g 0 (some ⟨ab,ac,none⟩) n' cap∧yJ w' h 0 (some ⟨V,Z,none⟩) n' aq∧yJ w' ab (ac+k) A5 n5 c5∧yJ w' V (Z+k) A6 n6 c6)) (af _ Y) fun ai=>?_;refine yT [0,1,2,3,4,5,6,7,8,9] ?_;iterate 10 (refine yS ?_;simp only[yU])
   refine yR 10 fun K hK=>?_;go_simp
   (go_at_call 65;refine(HC _ Y).mono ?_;rintro e w5 ⟨rfl,q,hq⟩;replace Y:yw w1 w5:=(by rw[hq];exact below_drewN Y _);clear hq)
   go_wp2_with fail;refine hK.out _ _ (af _ Y) fun ai=>?_;clear hK K
   try simp only[yU]
   refine yT [11] ?_;iterate 1 (refine yS ?_;simp only[yU])
   refine yD ?_;go_wp2_with fail;go_roundg (n'-(k+1))
   case measure=>omega
   case rel=>exact⟨k+1,by omega,by omega,by go_num,F.trans (Y.mono F.size)⟩
  ·obtain rfl:k=n':=by omega
   go_wp2_with fail;clear g0;obtain⟨W2,rfl⟩:=yE wr
   go_loopg [6] D (fun gk i wr=>∃k:Nat,k≤D∧D-k≤gk∧i=.int .i64 k∧yw E wr)
   case atStart=>exact⟨0,M0 _,by omega,rfl,F⟩
   case round=>
    clear F;obtain⟨k,hk,aj,rfl,F⟩:=hrel;have g3:yJ wr g 3 B D aa:=(HG _ F).cell rfl;by_cases hlt:k<D
    ·obtain⟨ab,ac,y,c0,c1,hA,hx,⟨J,_⟩,e0,e1⟩:=(H1.bands.below Qx (by omega) (HT _ F)).at2 hlt;simp only[List.cons.injEq,and_true]at J;obtain⟨rfl,rfl⟩:=J;obtain⟨V,Z,y2,c0,c1,ad,O,⟨J,_⟩,f0,f1⟩:=(H2.bands.below Qx (by omega) (HT _ F)).at2 hlt;simp only[List.cons.injEq,and_true]at J;obtain⟨rfl,rfl⟩:=J;rw[hx]at O;injection O with O;subst O;subst hA ad;have k3:yJ wr h 3 (some ⟨V,Z,none⟩) D ar:=(HH _ F).cell rfl;have am:=fun W=>Vqb y.days y.part W
     have ak:(0:Int)≤(k:Int):=by omega
     have al:(k:Int)<(D:Int):=by omega
     clear hx;go_upto_region 11 with(fail);go_quiet (fail);go_wp2_with fail;go_roundg (D-(k+1))
     case measure=>omega
     case rel=>exact⟨k+1,by omega,by omega,by go_num,below_drewN F _⟩
    ·obtain rfl:k=D:=by omega
     go_wp2_with fail;go_ret;exact⟨rfl,HT _ F⟩
theorem Y1 {w:World}{g:Nat}{x:Sai}{p:SaiV}{t:TypeId}(h:Blk w g (Qa x p) t):yI w g 0 x.ship.legs∧yI w g 1 x.ship.souls∧yJ w g 2 p.A p.n p.cap∧yJ w g 3 p.B p.m p.cap2∧yJ w g 4 p.D p.nd p.cd∧yI w g 5 x.fares.alone∧yI w g 6 x.fares.third∧yJ w g 7 p.E p.ne p.ce∧yI w g 8 x.fares.down∧yI w g 9 x.day∧yI w g 10 x.leaves∧yJ w g 11 p.C p.nb p.cb∧w.cell? ⟨g,12,none⟩=some (.bool x.closed):=
 ⟨h.cell rfl,h.cell rfl,h.cell rfl,h.cell rfl,h.cell rfl,h.cell rfl,h.cell rfl,h.cell rfl,h.cell rfl,h.cell rfl,h.cell rfl,h.cell rfl,h.cell rfl⟩
theorem YC (x:Sai)(p q:SaiV)(w:World)(h1:SaiR w x p)(h2:SaiR w x q) :
  Calls prog 18 #[.agg (Qa x p),.agg (Qa x q)] w fun e w'=>e=.returned (.bool true)∧yw w w':=by
 have aj:=yh (fun X (k1:SaiR X x p) (Y:SaiR X x q)=>XMa x.ship p.A p.n p.cap p.B p.m p.cap2 q.A q.n q.cap q.B q.m q.cap2 X k1.cats k1.cabs Y.cats Y.cabs);have ai:=yh (fun X (k1:SaiR X x p) (Y:SaiR X x q)=>VJa x.fares p.D p.nd p.cd p.E p.ne p.ce q.D q.nd q.cd q.E q.ne q.ce X k1.fares Y.fares);obtain⟨A,n,cap,B,m,al,D,nd,cd,E,ne,ce,C,F,cb⟩:=p;obtain⟨A',n',ak,B',m',am,D',aB,an,E',aC,ao,C',aM,aa⟩:=q
 obtain rfl:F=aM:=by rw[show F=x.bks.length from h1.bks.len.symm];exact h2.bks.len
 have aI:=h1.bks.bd;simp only at aj ai aI;have H1:=yh h1;have H2:=yh h2;clear h1 h2;go_enter func18,ntmps18;go_upto_region 0 with(fail);go_cut [2,3,4] (fun p p2 _ wx=>∃g h,yp p g∧yp p2 h∧Blk wx g (Qa x ⟨A,n,cap,B,m,al,D,nd,cd,E,ne,ce,C,F,cb⟩) 32∧Blk wx h (Qa x ⟨A',n',ak,B',m',am,D',aB,an,E',aC,ao,C',F,aa⟩) 32∧yw w wx)
 case first=>as_aux_lemma=>
  go_wp2_with fail;go_meet;exact⟨_,_,rfl,rfl,QE _ _ _,QF _ _ _,Zo _ _ _⟩
 obtain⟨g,h,rfl,rfl,hG,hH,ah⟩:=hcut;obtain⟨W1,rfl⟩:=yE wc;have HG:=yh (fun X (I:yw W1 X)=>hG.bel I);have HH:=yh (fun X (I:yw W1 X)=>hH.bel I);have HT:=yh (fun X (I:yw W1 X)=>ah.trans (I.mono ah.size));have ae:=yh (fun X (I:yw W1 X)=>H1.bel (HT X I));have af:=yh (fun X (I:yw W1 X)=>H2.bel (HT X I));clear hG hH ah;have J:yw W1 W1:=J4 _ _;go_upto_region 1 with(fail);go_cut [49] (fun p wx=>p=.bool false∧yw W1 wx)
 case first=>as_aux_lemma=>
  have hG:=HG _ J;have hH:=HH _ J;have s0:yI W1 g 0 x.ship.legs:=hG.cell rfl;have s1:yI W1 g 1 x.ship.souls:=hG.cell rfl;have s2:yJ W1 g 2 A n cap:=hG.cell rfl;have s3:yJ W1 g 3 B m al:=hG.cell rfl;have s4:yJ W1 g 4 D nd cd:=hG.cell rfl;have s5:yI W1 g 5 x.fares.alone:=hG.cell rfl;have s6:yI W1 g 6 x.fares.third:=hG.cell rfl;have s7:yJ W1 g 7 E ne ce:=hG.cell rfl;have s8:yI W1 g 8 x.fares.down:=hG.cell rfl;have s9:yI W1 g 9 x.day:=hG.cell rfl;have aN:yI W1 g 10 x.leaves:=hG.cell rfl;have aO:yJ W1 g 11 C F cb:=hG.cell rfl;have aP:W1.cell? ⟨g,12,none⟩=some (.bool x.closed):=hG.cell rfl;have k0:yI W1 h 0 x.ship.legs:=hH.cell rfl;have k1:yI W1 h 1 x.ship.souls:=hH.cell rfl;have Y:yJ W1 h 2 A' n' ak:=hH.cell rfl;have k3:yJ W1 h 3 B' m' am:=hH.cell rfl;have k9:yI W1 h 9 x.day:=hH.cell rfl;have aJ:yI W1 h 10 x.leaves:=hH.cell rfl;have aK:yJ W1 h 11 C' F aa:=hH.cell rfl;have aL:W1.cell? ⟨h,12,none⟩=some (.bool x.closed):=hH.cell rfl;have U:=yh (aj _ (ae _ J) (af _ J));clear hG hH;go_wp2_with fail;refine yM U fun O W=>?_;have hG:=HG _ W;have hH:=HH _ W;clear s0 s1 s2 s3 s4 s5 s6 s7 s8 s9 aN aO aP k0 k1 Y k3 k9 aJ aK aL U;have s4:yJ O g 4 D nd cd:=hG.cell rfl;have s5:yI O g 5 x.fares.alone:=hG.cell rfl;have s6:yI O g 6 x.fares.third:=hG.cell rfl;have s7:yJ O g 7 E ne ce:=hG.cell rfl;have s8:yI O g 8 x.fares.down:=hG.cell rfl;have k4:yJ O h 4 D' aB an:=hH.cell rfl;have k5:yI O h 5 x.fares.alone:=hH.cell rfl;have k6:yI O h 6 x.fares.third:=hH.cell rfl;have k7:yJ O h 7 E' aC ao:=hH.cell rfl;have k8:yI O h 8 x.fares.down:=hH.cell rfl;have U:=yh (ai _ (ae _ W) (af _ W));clear hG hH;go_wp2_with fail;refine yM U fun w3 aH=>?_;go_wp2_with fail;go_meet;exact⟨rfl,W.trans (aH.mono W.size)⟩
 obtain⟨rfl,av⟩:=hcut;replace J:=av;clear av;go_wp2_with fail
 go_loopg [5] F (fun gk i wr=>∃k:Nat,k≤F∧F-k≤gk∧i=.int .i64 k∧yw W1 wr)
 case atStart=>exact⟨0,M0 _,by omega,rfl,J⟩
 case round=>
  clear J;obtain⟨k,hk,aQ,rfl,J⟩:=hrel;have ap:yJ wr g 11 C F cb:=(HG _ J).cell rfl;by_cases hlt:k<F
  ·obtain⟨ab,aU,b,A3,n3,c3,hA,hx,hF,-,ax⟩:=(ae _ J).bks.bkg hlt;obtain⟨V,Z,b2,B3,m3,d3,ar,ad,au,-,ay⟩:=(af _ J).bks.bkg hlt;rw[hx]at ad;injection ad with ad;subst ad;simp only at hA ar;subst hA ar;obtain⟨w1,rfl⟩:=yE wr;have aq:yJ w1 h 11 (some ⟨V,Z,none⟩) F aa:=(HH _ J).cell rfl;have r1:w1.rangeAt ab (aU+k*11) (Qk b (.slice A3 n3 c3)).toList:=ax;have r2:w1.rangeAt V (Z+k*11) (Qk b (.slice B3 m3 d3)).toList:=ay;have aF:=yh r1;have aG:=yh r2;have ac:=yh (show ∀w',yw w1 w'→(yJ w' g 11 (some ⟨ab,aU,none⟩) F cb∧yJ w' h 11 (some ⟨V,Z,none⟩) F aa)from fun w' I=>⟨Qh I ap,Qh I aq⟩);have U:=yh (fun X (I:yw w1 X)=>Uha b A3 n3 c3 B3 m3 d3 X (hF.bel I) (au.bel I))
   have aR:(0:Int)≤(k:Int):=by omega
   have aS:(k:Int)<(F:Int):=by omega
   clear hx hF au ax ay r1 r2 aq;go_upto_region 6 with(fail);clear ap;have Q:yw w1 w1.drew:=(J4 _ _).drew
   have az:w1.drew.rangeAt ab (aU+k*11) (Qk b (.slice A3 n3 c3)).toList:=by rw[World.rangeAt_drew];exact aF
   have aA:w1.drew.rangeAt V (Z+k*11) (Qk b (.slice B3 m3 d3)).toList:=by rw[World.rangeAt_drew];exact aG
   have aD:=yh az;have aE:=yh aA;clear az aA;refine yZ (S:=(fun w'=>yJ w' g 11 (some ⟨ab,aU,none⟩) F cb∧yJ w' h 11 (some ⟨V,Z,none⟩) F aa)) (ac _ Q) fun ag=>?_;refine yT [0,1,2,3,5,6,7,8] ?_;iterate 8 (refine yS ?_;simp only[yU])
   focus
    refine yr2 4 9 (fun K k4=>?_) (fun K k9=>?_)
    repeat first
     |
      revert k4
      intro hK
      (refine VD rfl 63 (.tmp 60) rfl ab (aU+k*11) rfl (Qk b (.slice A3 n3 c3)).toList _ aD underlying63 (by kernel_rfl) (by kernel_rfl) ?_)
      refine hK.out _ _ (ac _ Q) fun ag=>?_;clear hK K
      try simp only[yU]
      first
       | refine yt1 9 (fun K k9=>?_)
       | rotate_left
     |
      revert k9
      intro hK
      (refine VD rfl 63 (.tmp 65) rfl V (Z+k*11) rfl (Qk b (.slice B3 m3 d3)).toList _ aE underlying63 (by kernel_rfl) (by kernel_rfl) ?_)
      refine hK.out _ _ (ac _ Q) fun ag=>?_;clear hK K
      try simp only[yU]
      first
       | refine yt1 4 (fun K k4=>?_)
       | rotate_left
    all_goals
     refine yR 10 fun K hK=>?_;go_simp
     (go_at_call 76;refine yM (U _ Q) fun w5 aw=>?_;replace Q:=Q.trans (aw.mono Q.size);clear aw)
     go_wp2_with fail;refine hK.out _ _ (ac _ Q) fun ag=>?_;clear hK K
     try simp only[yU]
     refine yT [11] ?_;iterate 1 (refine yS ?_;simp only[yU])
     refine yD ?_;go_wp2_with fail;go_roundg (F-(k+1))
     case measure=>omega
     case rel=>exact⟨k+1,by omega,by omega,by go_num,J.trans (Q.mono J.size)⟩
  ·obtain rfl:k=F:=by omega
   go_wp2_with fail;go_ret;exact⟨rfl,HT _ J⟩
theorem VUa (x y:Sai)(p q:SaiV)(Q:Int)(w:World)(h1:SaiR w x p)(h2:SaiR w y q)(aj:x=okS Q y) :
  Calls prog 32 #[.agg (Qa x p),.int .i64 Q,.int .i64 Q,.agg (Qa y q)] w fun e w'=>e=.returned (.bool true)∧yw w w':=by
 have ac:=yh (fun(v:Sai) p q X k1 k2=>YC v p q X k1 k2);have H1:=yh h1;have H2:=yh h2;obtain⟨A,n,cap,B,m,Y,D,nd,cd,E,ne,ce,C,nb,Z⟩:=p;obtain⟨A',n',ae,B',m',af,D',al,ah,E',am,ai,C',ak,ag⟩:=q;have ad:=yh aj;clear aj;clear h1 h2;go_enter func32,ntmps32;go_upto_region 0 with(fail);go_cut [4,7,8] (fun p p2 _ O=>∃g h,yp p g∧yp p2 h∧w.heap.size≤h∧g≠h∧Blk O g (Qa x ⟨A,n,cap,B,m,Y,D,nd,cd,E,ne,ce,C,nb,Z⟩) 32∧Blk O h (Qa y ⟨A',n',ae,B',m',af,D',al,ah,E',am,ai,C',ak,ag⟩) 32∧yw w O)
 case first=>as_aux_lemma=>
  go_wp2_with fail;go_meet;exact⟨_,_,rfl,rfl,by omega,by omega,QE _ _ _,QF _ _ _,Zo _ _ _⟩
 obtain⟨g,h,rfl,rfl,hh,an,hG,F,U⟩:=hcut;obtain⟨W1,rfl⟩:=yE wc;have V:=yh U;by_cases h0:Q=0
 ·subst h0;obtain rfl:x=y:=ad.out;have HG:=yh hG;have HH:=yh F;have W:=yh (ac x _ _ W1 (H1.bel U) (H2.bel U));have s0:yI W1 g 0 x.ship.legs:=hG.cell rfl;have s1:yI W1 g 1 x.ship.souls:=hG.cell rfl;have s2:yJ W1 g 2 A n cap:=hG.cell rfl;have s3:yJ W1 g 3 B m Y:=hG.cell rfl;have s4:yJ W1 g 4 D nd cd:=hG.cell rfl;have s5:yI W1 g 5 x.fares.alone:=hG.cell rfl;have s6:yI W1 g 6 x.fares.third:=hG.cell rfl;have s7:yJ W1 g 7 E ne ce:=hG.cell rfl;have s8:yI W1 g 8 x.fares.down:=hG.cell rfl;have s9:yI W1 g 9 x.day:=hG.cell rfl;have ar:yI W1 g 10 x.leaves:=hG.cell rfl;have au:yJ W1 g 11 C nb Z:=hG.cell rfl;have av:W1.cell? ⟨g,12,none⟩=some (.bool x.closed):=hG.cell rfl;have k0:yI W1 h 0 x.ship.legs:=F.cell rfl;have k1:yI W1 h 1 x.ship.souls:=F.cell rfl;have k2:yJ W1 h 2 A' n' ae:=F.cell rfl;have k3:yJ W1 h 3 B' m' af:=F.cell rfl;have k4:yJ W1 h 4 D' al ah:=F.cell rfl;have k5:yI W1 h 5 x.fares.alone:=F.cell rfl;have k6:yI W1 h 6 x.fares.third:=F.cell rfl;have k7:yJ W1 h 7 E' am ai:=F.cell rfl;have k8:yI W1 h 8 x.fares.down:=F.cell rfl;have k9:yI W1 h 9 x.day:=F.cell rfl;have ao:yI W1 h 10 x.leaves:=F.cell rfl;have ap:yJ W1 h 11 C' ak ag:=F.cell rfl;have aq:W1.cell? ⟨h,12,none⟩=some (.bool x.closed):=F.cell rfl;clear hG F U;go_wp2_with fail;refine yM W fun w3 aa=>?_;go_wp2_with fail;go_ret;exact⟨rfl,V.trans (aa.mono V.size)⟩
 ·obtain rfl:x=Qf:=by rw[ad.out,Ul h0]
  have q0:(Q !=0)=true:=by simpa using h0
  have HG:=yh hG;have HH:=yh F;clear h0 hG F U;go_upto_region 2 with(fail);go_cut [7] (fun p O=>yp p h∧Blk O h (Qa Qf Qg) 32∧Kept (fun k=>k=h) W1 O)
  case first=>as_aux_lemma=>
   go_wp2_with (refine yX 32 (.tmp 7) (.tmp 11) h (Qa Qf Qg) HH ?_);go_meet;exact⟨rfl,HH.row _,(yk h _).setRow (.inl rfl) _⟩
  obtain⟨rfl,J,hK⟩:=hcut;obtain⟨W2,rfl⟩:=yE wc;have ab:=V.trans (hK.below (B:=w.heap.size) V.size (fun k hk e=>by omega));have I:=HG.kept hK an;have W:=yh (ac Qf _ _ W2 (H1.bel ab) (UA W2));have s0:yI W2 g 0 0:=I.cell rfl;have s1:yI W2 g 1 0:=I.cell rfl;have s2:yJ W2 g 2 A n cap:=I.cell rfl;have s3:yJ W2 g 3 B m Y:=I.cell rfl;have s4:yJ W2 g 4 D nd cd:=I.cell rfl;have s5:yI W2 g 5 0:=I.cell rfl;have s6:yI W2 g 6 0:=I.cell rfl;have s7:yJ W2 g 7 E ne ce:=I.cell rfl;have s8:yI W2 g 8 0:=I.cell rfl;have s9:yI W2 g 9 0:=I.cell rfl;have ar:yI W2 g 10 0:=I.cell rfl;have au:yJ W2 g 11 C nb Z:=I.cell rfl;have av:W2.cell? ⟨g,12,none⟩=some (.bool false):=I.cell rfl;have k0:yI W2 h 0 0:=J.cell rfl;have k1:yI W2 h 1 0:=J.cell rfl;have k2:yJ W2 h 2 none 0 0:=J.cell rfl;have k3:yJ W2 h 3 none 0 0:=J.cell rfl;have k4:yJ W2 h 4 none 0 0:=J.cell rfl;have k5:yI W2 h 5 0:=J.cell rfl;have k6:yI W2 h 6 0:=J.cell rfl;have k7:yJ W2 h 7 none 0 0:=J.cell rfl;have k8:yI W2 h 8 0:=J.cell rfl;have k9:yI W2 h 9 0:=J.cell rfl;have ao:yI W2 h 10 0:=J.cell rfl;have ap:yJ W2 h 11 none 0 0:=J.cell rfl;have aq:W2.cell? ⟨h,12,none⟩=some (.bool false):=J.cell rfl;clear I J hK;go_wp2_with fail;refine yM W fun w3 aa=>?_;go_wp2_with fail;go_ret;exact⟨rfl,ab.trans (aa.mono ab.size)⟩
theorem Uu (w:World):Calls prog 58 #[] w fun e w'=>∃p,e=.returned (.agg (Qa Qs p))∧SaiR w' Qs p∧yw w w':=by
 go_enter func58,ntmps58
 go_wp2_with fail
 refine(Qpb _).mono ?_
 rintro e w1 ⟨A,n,cap,B,m,U,rfl,hc,hd,X⟩
 have I:=(Blk.new w M9 32).bel X
 have hb:=(Qi w (.cells M9 32)).trans (X.mono (by simp))
 have hc:=hc.keep (w':=w1) (S':=fun b=>b≠w.heap.size) Ug (by omega) (fun b hb _=>⟨rfl,fun e=>by subst e;simp at hb;omega⟩)
 have hd:=hd.keep (w':=w1) (S':=fun b=>b≠w.heap.size) Zx (by omega) (fun b hb _=>⟨rfl,fun e=>by subst e;simp at hb;omega⟩)
 clear X
 go_wp2_with fail
 refine(ZEb _).mono ?_
 rintro e Q ⟨D,Y,V,E,Z,W,rfl,J,O,F⟩
 have ac:=hb.size
 have J:=J.keep (w':=Q) (S':=fun b=>b≠w.heap.size) (ZU Qd (by omega)) (by omega) (fun b hb _=>⟨rfl,fun e=>by subst e;have:=I.lt;omega⟩)
 have O:=O.keep (w':=Q) (S':=fun b=>b≠w.heap.size) Qx (by omega) (fun b hb _=>⟨rfl,fun e=>by subst e;have:=I.lt;omega⟩)
 have hc:=hc.bel F
 have hd:=hd.bel F
 have aa:=I.bel F
 replace hb:=hb.trans (F.mono hb.size)
 have HC:=yh hc
 clear hc
 have HD:=yh hd
 clear hd
 have HF:=yh J
 clear J
 have HG:=yh O
 clear O
 have HB:=yh hb
 clear hb
 clear F I
 go_wp2_with (refine yX 32 (.tmp 0) (.tmp 3) w.heap.size (Qa Qs ⟨A,n,cap,B,m,U,D,Y,V,E,Z,W,none,0,0⟩) aa ?_)
 refine yq (.agg (Qa Qs ⟨A,n,cap,B,m,U,D,Y,V,E,Z,W,none,0,0⟩)) (k:=0) (aa.row _) underlying32 ?_
 have hK:=Y2b (J4 Q.heap.size Q) w.heap.size (Qa Qs ⟨A,n,cap,B,m,U,D,Y,V,E,Z,W,none,0,0⟩)
 exact⟨_,rfl,⟨(HC.kept hK (fun b _ hb e=>hb e)).all Ug (by omega),(HD.kept hK (fun b _ hb e=>hb e)).all Zx (by omega),⟨HF.keep (S':=All) (ZU Qd (by omega)) (by omega) (fun b hb ab=>⟨hK.block b ab hb,trivial⟩),(HG.kept hK (fun b _ hb e=>hb e)).all Qx (by omega),.of (by decide) (by decide),.of (by decide) (by decide),.of (by decide) (by decide)⟩,Sl.nil _ _ _ _⟩,HB.trans (hK.below (B:=w.heap.size) HB.size (fun k hk e=>by omega))⟩
theorem QYa (w:World):Calls prog 59 #[] w fun e w'=>∃q,e=.returned (.slice (some ⟨q,0,none⟩) 3 3)∧Blk w' q #[.int .i64 1,.int .i64 1,.int .i64 5,.int .i64 2,.bool true,.int .i64 1,.int .i64 0,.int .i64 0,.int .i64 2,.int .i64 0,.int .i64 0,.int .i64 2,.int .i64 4,.int .i64 5,.int .i64 0,.bool false,.int .i64 0,.int .i64 0,.int .i64 0,.int .i64 0,.int .i64 0,.int .i64 300,.int .i64 3,.int .i64 8,.int .i64 0,.int .i64 0,.bool false,.int .i64 0,.int .i64 0,.int .i64 0,.int .i64 0,.int .i64 0,.int .i64 0] 53∧yw w w':=by
 go_enter func59,ntmps59
 go_wp2_with fail
 go_ret
 exact⟨_,rfl,Blk.new w _ _,Qi _ _⟩
theorem Yta {w:World}{q:Nat}(h:Blk w q #[.int .i64 1,.int .i64 1,.int .i64 5,.int .i64 2,.bool true,.int .i64 1,.int .i64 0,.int .i64 0,.int .i64 2,.int .i64 0,.int .i64 0,.int .i64 2,.int .i64 4,.int .i64 5,.int .i64 0,.bool false,.int .i64 0,.int .i64 0,.int .i64 0,.int .i64 0,.int .i64 0,.int .i64 300,.int .i64 3,.int .i64 8,.int .i64 0,.int .i64 0,.bool false,.int .i64 0,.int .i64 0,.int .i64 0,.int .i64 0,.int .i64 0,.int .i64 0] 53):w.rangeAt q 0 (QY VF).toList:=fun j u A=>by
 rcases j with _|_|_|_|_|_|_|_|_|_|_|j<;>first|(simp[QY,VF]at A;subst A;exact h.cell rfl)|simp[QY]at A
def Usc:Sai:={ Qs with bks:=[YR] }
theorem VNa (w:World):Calls prog 10 #[] w fun e w'=>e=.returned (.bool true)∧yw w w':=by
 have az:=yh (fun p X Y=>Q4c X8 Vla Qs p VF X Y (fun h _=>QCa h) (.of (by decide) (by decide)))
 rw[YUb,QVc,V8b]at az
 obtain⟨bs,ae⟩:=yE (YGa VF)
 have aJ:=yh (fun X=>Qxb VF X)
 rw[ZUb,QR,←ae]at aJ
 have aC:=yh (fun p X Y=>ULa X8 Vla Qs p none 0 0 [] 0 bs X Y (Sl.nil _ _ _ _) (fun y h d hd=>by cases hd) (by rw[ae,YBa];exact fun y h _=>QCa h) (by rw[ae,YBa];exact fun _=>XPa) (by rw[ae,YBa];exact fun y h _=>ZNb h (QCa h)))
 have ab:=yh (fun p A cap X Y hl=>ULa X8 Vla Qs p A 1 cap [YG] 1 bs X Y hl (fun y h d hd _=>by rw[List.mem_singleton]at hd;subst hd;exact QCa h) (by rw[ae,YBa];exact fun y h _=>QCa h) (by rw[ae,YBa];exact fun _=>XPa) (by rw[ae,YBa];exact fun y h _=>ZNb h (QCa h)))
 rw[ae,Utc,←ae]at aC
 rw[ae,Uuc,←ae]at ab
 have bD:=yh (fun p A cap X Y hl=>V6a X8 Vla Qs p A 1 cap [YG] 1 X Y hl (fun y h d hd _=>by rw[List.mem_singleton]at hd;subst hd;exact QCa h))
 rw[Udb,Ueb]at bD
 have aj:=yh (fun A cap X hl=>Uvb A 1 cap [YG] 1 0 X hl (by decide) UJ)
 rw[V5b.1,V5b.2]at aj
 obtain⟨F1,bE⟩:=yE Usc
 rw[show({ Qs with bks:=[YR] } : Sai)=F1 from bE.symm]at az bD
 clear ae bE
 have a7:=yh (J4 w.heap.size w)
 go_enter func10,ntmps10
 go_upto_region 1 with(fail)
 go_cut [1,2,3] (fun q q2 q3 wx=>∃s a y p',yp q s∧yp q2 a∧q3=.int .i64 0∧Blk wx s (Qa y p') 32∧y=F1∧SaiR wx y p'∧Blk wx a (Qt Z3) 55∧yw w wx)
 case first=>
  clear aC ab bD aj aJ
  go_wp2_with fail
  refine(Uu _).mono ?_
  rintro e w1 ⟨p1,rfl,aD,a5⟩
  have ab:=yh aD
  clear aD
  have af:=yh a5
  clear a5
  go_wp2_with fail
  refine(QYa _).mono ?_
  rintro e w2 ⟨q,rfl,hA,al⟩
  have HR:=yh (Yta hA)
  have HC:=yh (az p1 _ (ab.bel al))
  have ai:=yh (af.trans (al.mono af.size))
  clear hA al
  go_wp2_with (refine wpList_load_mid rfl 53 (.tmp 19) rfl q 0 rfl (QY VF).toList _ HR underlying53 (by kernel_rfl) (by kernel_rfl) ?_)
  refine HC.mono ?_
  rintro e w3 ⟨⟨y,p',an,rfl,hy,aa,U⟩,ag⟩
  obtain rfl:an=Z3:=aa
  have HO:=yh U.sai
  have HY:=yh hy
  have ad:=yh (ai.trans (ag.mono ai.size))
  clear hy U ag HC az HR
  have aB:=yh (show ∀g,g=w3.heap.size→Blk ((w3.alloc (.cells M9 32)).alloc (.cells #[.int .i64 0,.int .i64 0] 55)) g M9 32 from fun g D=>by subst D;exact(Blk.new w3 _ _).old _)
  have aA:=yh (show ∀g,g=w3.heap.size+1→Blk (((w3.alloc (.cells M9 32)).alloc (.cells #[.int .i64 0,.int .i64 0] 55)).setRow w3.heap.size (Qa y p')) g #[.int .i64 0,.int .i64 0] 55 from fun g D=>by subst D;exact(Blk.new1 w3 _ _ _).rowOther (by omega) _)
  go_wp2_with (first|(refine wpList_store_row rfl 32 (.tmp 1) (.tmp 22) rfl _ (Qa y p') rfl rfl 32 _ (aB _ (by simp)) (by kernel_rfl) rfl (by simp[Value.oneCell']) ?_)|(refine wpList_store_row rfl 55 (.tmp 2) (.tmp 23) rfl _ (Qt Z3) rfl rfl 55 _ (aA _ (by simp)) (by kernel_rfl) rfl (by simp[Qt,Value.oneCell']) ?_))
  go_meet
  have ao:yw w3 ((((w3.alloc (.cells M9 32)).alloc (.cells #[.int .i64 0,.int .i64 0] 55)).setRow w3.heap.size (Qa y p')).setRow (w3.heap.size+1) (Qt Z3)):=M5 (M5 (Zo w3 _ _) (J5 _) _) (by omega) _
  exact⟨_,_,y,p',rfl,rfl,rfl,((aB _ rfl).row _).rowOther (by omega) _,HY,HO.bel ao,(aA _ rfl).row _,ad.trans (ao.mono ad.size)⟩
 obtain⟨s1,a1,y1,p1,rfl,rfl,rfl,bF,rfl,aD,av,hb⟩:=hcut
 obtain⟨V1,rfl⟩:=yE wc
 have ar:=yh (fun X (Y:yw V1 X)=>bF.bel Y)
 have aq:=yh (fun X (Y:yw V1 X)=>aD.bel Y)
 have ap:=yh (fun X (Y:yw V1 X)=>av.bel Y)
 have af:=yh hb
 clear hb
 clear bF aD av a7 az
 go_upto_region 2 with(fail)
 go_cut [4,5] (fun q r wx=>q=.string ⟨bs.toArray⟩∧r=.int .i64 0∧yw V1 wx)
 case first=>
  clear aC ab bD aj ar aq ap af
  go_wp2_with fail
  refine(QYa _).mono ?_
  rintro e w2 ⟨q,rfl,hA,al⟩
  have HR:=yh (Yta hA)
  have ai:=yh al
  clear al
  clear hA
  go_wp2_with (refine wpList_load_mid rfl 53 (.tmp 27) rfl q 0 rfl (QY VF).toList _ HR underlying53 (by kernel_rfl) (by kernel_rfl) ?_)
  refine yM (aJ _) fun w3 ag=>?_
  have ad:=yh ag
  clear ag
  go_wp2_with fail
  go_meet
  exact⟨rfl,rfl,ai.trans (ad.mono ai.size)⟩
 obtain⟨rfl,rfl,al⟩:=hcut
 obtain⟨V2,rfl⟩:=yE wc
 have ai:=yh al
 clear al
 clear aJ
 go_upto_region 3 with(fail)
 go_cut [6,7,8] (fun q q2 q3 wx=>∃s a A c,yp q s∧yp q2 a∧q3=.int .i64 0∧Blk wx s #[.slice A 1 c,.int .i64 1] 39∧Sl ZX 13 wx All A 1 c [YG]∧Blk wx a (Qt Z3) 55∧yw V2 wx)
 case first=>
  clear ab bD aj ar aq ap af ai
  go_wp2_with fail
  refine(Uu _).mono ?_
  rintro e w1 ⟨p4,rfl,I,bC⟩
  have HC:=yh (aC p4 _ I)
  have aR:=yh bC
  clear bC
  clear I
  go_wp2_with fail
  refine HC.mono ?_
  rintro e w3 ⟨⟨v,xs,an,he,aa,U⟩,ag⟩
  obtain rfl:an=Z3:=aa
  rw[Zv]at he
  rw[QR]at U
  obtain⟨A,n,c,rfl,hs⟩:=U.sl Qp
  obtain rfl:1=n:=hs.len
  have HD:=yh (hs.all Qp (by omega))
  have ad:=yh (aR.trans (ag.mono aR.size))
  subst he
  clear U hs ag HC
  have aB:=yh (show ∀g,g=w3.heap.size→Blk ((w3.alloc (.cells #[.slice none 0 0,.int .i64 0] 39)).alloc (.cells #[.int .i64 0,.int .i64 0] 55)) g #[.slice none 0 0,.int .i64 0] 39 from fun g D=>by subst D;exact(Blk.new w3 _ _).old _)
  have aA:=yh (show ∀g,g=w3.heap.size+1→Blk (((w3.alloc (.cells #[.slice none 0 0,.int .i64 0] 39)).alloc (.cells #[.int .i64 0,.int .i64 0] 55)).setRow w3.heap.size #[.slice A 1 c,.int .i64 1]) g #[.int .i64 0,.int .i64 0] 55 from fun g D=>by subst D;exact(Blk.new1 w3 _ _ _).rowOther (by omega) _)
  go_wp2_with (first|(refine wpList_store_row rfl 39 (.tmp 6) (.tmp 37) rfl _ #[.slice A 1 c,.int .i64 1] rfl rfl 39 _ (aB _ (by simp)) (by kernel_rfl) rfl (by simp[Value.oneCell']) ?_)|(refine wpList_store_row rfl 55 (.tmp 7) (.tmp 38) rfl _ (Qt Z3) rfl rfl 55 _ (aA _ (by simp)) (by kernel_rfl) rfl (by simp[Qt,Value.oneCell']) ?_))
  go_meet
  have ao:yw w3 ((((w3.alloc (.cells #[.slice none 0 0,.int .i64 0] 39)).alloc (.cells #[.int .i64 0,.int .i64 0] 55)).setRow w3.heap.size #[.slice A 1 c,.int .i64 1]).setRow (w3.heap.size+1) (Qt Z3)):=M5 (M5 (Zo w3 _ _) (J5 _) _) (by omega) _
  exact⟨_,_,A,c,rfl,rfl,rfl,((aB _ rfl).row _).rowOther (by omega) _,HD.bel ao,(aA _ rfl).row _,ad.trans (ao.mono ad.size)⟩
 obtain⟨s3,a3,A3,c3,rfl,rfl,rfl,ak,aZ,aw,ag⟩:=hcut
 obtain⟨V3,rfl⟩:=yE wc
 have aP:=ai.trans (ag.mono ai.size)
 have ad:=yh (fun X (Y:yw V3 X)=>aP.trans (Y.mono aP.size))
 have aK:=yh (fun X (Y:yw V3 X)=>ak.bel Y)
 have ac:=yh (fun X (Y:yw V3 X)=>aZ.bel Y)
 have ay:=yh (fun X (Y:yw V3 X)=>aw.bel Y)
 have J:=yh (show ∀X,yw V3 X→(fun w'=>yJ w' s3 0 A3 1 c3∧yI w' s3 1 1) X from fun X Y=>⟨(ak.bel Y).cell rfl,(ak.bel Y).cell rfl⟩)
 clear ag aP ak aZ aw ai aC
 go_upto_region 4 with(fail)
 go_cut [10,11] (fun q q2 wx=>∃a,yp q a∧q2=.int .i64 0∧Blk wx a (Qt Z3) 55∧yw V3 wx)
 case first=>
  clear bD aj ar aq ap af ad ay
  have bA:yw V3 V3.drew:=(J4 _ V3).drew
  refine yZ (S:=(fun w'=>yJ w' s3 0 A3 1 c3∧yI w' s3 1 1)) (J _ bA) fun O=>?_
  refine yT [1,2] ?_
  iterate 2 (refine yS ?_;simp only[yU])
  refine wpAnyH_ready (rs:=[0,8,9]) (by kernel_rfl) (by simp) ?_
  refine AllReadyH.cons (gA rfl) (fun K hK=>?_) ?m_1
  case m_1=>
   refine AllReadyH.cons (gA rfl) (fun K hK=>?_) ?m_2
   case m_2=>
    refine AllReadyH.cons (gA rfl) (fun K hK=>?_) AllReadyH.nil
    go_simp
    refine hK.out _ _ (J _ (bA.alloc bA.size (.cells #[.int .i64 0,.int .i64 0] 55))) fun O=>?_
    clear hK K
    try simp only[yU]
    (have E:=ZG bA #[.int .i64 0,.int .i64 0] 55;have Z:=Xz bA;(try replace F:=fun g D=>(F g D).bel (Qi _ (.cells #[.int .i64 0,.int .i64 0] 55)));(try replace I:=I.bel (Qi _ (.cells #[.int .i64 0,.int .i64 0] 55)));replace bA:=bA.alloc bA.size (.cells #[.int .i64 0,.int .i64 0] 55))
    refine wpAnyH_ready (rs:=[0,8]) (by kernel_rfl) (by simp) ?_
    refine AllReadyH.cons (gA rfl) (fun K hK=>?_) ?m_3
    case m_3=>
     refine AllReadyH.cons (gA rfl) (fun K hK=>?_) AllReadyH.nil
     go_simp
     refine hK.out _ _ (J _ (bA.alloc bA.size (.cells #[.slice none 0 0,.int .i64 0] 39))) fun O=>?_
     clear hK K
     try simp only[yU]
     (have F:=ZG bA #[.slice none 0 0,.int .i64 0] 39;have bB:=Xz bA;(try replace E:=fun g D=>(E g D).bel (Qi _ (.cells #[.slice none 0 0,.int .i64 0] 39)));(try replace I:=I.bel (Qi _ (.cells #[.slice none 0 0,.int .i64 0] 39)));replace bA:=bA.alloc bA.size (.cells #[.slice none 0 0,.int .i64 0] 39))
     refine wpAnyH_ready (rs:=[0]) (by kernel_rfl) (by simp) ?_
     refine AllReadyH.cons (gA rfl) (fun K hK=>?_) AllReadyH.nil
     go_simp
     (go_at_call 58;refine(Uu _).mono ?_;rintro e w4 ⟨p4,rfl,I,bC⟩;(try replace F:=fun g D=>(F g D).bel bC);(try replace E:=fun g D=>(E g D).bel bC);replace bA:=bA.trans (bC.mono bA.size);clear bC)
     go_wp2_with fail
     refine hK.out _ _ (J _ bA) fun O=>?_
     clear hK K
     try simp only[yU]
     refine wpAnyH_ready (rs:=[3]) (by kernel_rfl) (by simp) ?_
     refine AllReadyH.cons (gA rfl) (fun K hK=>?_) AllReadyH.nil
     go_simp
     (go_at_call 53;refine(ab p4 A3 c3 _ I (ac _ bA)).mono ?_;rintro e w5 ⟨⟨v,xs,an,he,aa,U⟩,Q⟩;obtain rfl:an=Z3:=aa;rw[Zv]at he;rw[QR]at U;obtain⟨A5,n5,c5,rfl,-⟩:=U.sl Qp;subst he;(try replace F:=fun g D=>(F g D).bel Q);(try replace E:=fun g D=>(E g D).bel Q);replace bA:=bA.trans (Q.mono bA.size);clear Q I U)
     go_wp2_with fail
     refine hK.out _ _ (J _ bA) fun O=>?_
     clear hK K
     try simp only[yU]
     refine yT [4,5,6,7] ?_
     iterate 4 (refine yS ?_;simp only[yU])
     refine yR 10 fun K hK=>?_
     (refine wp_store_row 39 (.tmp 9) (.tmp 45) rfl _ #[.slice A5 n5 c5,.int .i64 1] rfl rfl 39 _ (F _ (by simp)) (by kernel_rfl) rfl (by simp[Value.oneCell']) ?_)
     refine hK.out _ _ (J _ (M5 bA (bB _ (by simp)) _)) fun O=>?_
     clear hK K
     try simp only[yU]
     refine yR 11 fun K hK=>?_
     (refine wp_store_row 55 (.tmp 10) (.tmp 46) rfl _ (Qt Z3) rfl rfl 55 _ ((E _ (by simp)).rowOther (Blk.neTy (E _ (by simp)) (F _ (by simp)) (by decide)) _) (by kernel_rfl) rfl (by simp[Qt,Value.oneCell']) ?_)
     refine hK.out _ _ (J _ (M5 (M5 bA (bB _ (by simp)) _) (Z _ (by simp)) _)) fun O=>?_
     clear hK K
     try simp only[yU]
     refine yT [12] ?_
     iterate 1 (refine yS ?_;simp only[yU])
     refine yD ?_
     go_wp2_with fail
     go_meet
     exact⟨_,rfl,rfl,((E _ (by simp)).rowOther (Blk.neTy (E _ (by simp)) (F _ (by simp)) (by decide)) _).row _,M5 (M5 bA (bB _ (by simp)) _) (Z _ (by simp)) _⟩
    go_simp
    (go_at_call 58;refine(Uu _).mono ?_;rintro e w4 ⟨p4,rfl,I,bC⟩;(try replace F:=fun g D=>(F g D).bel bC);(try replace E:=fun g D=>(E g D).bel bC);replace bA:=bA.trans (bC.mono bA.size);clear bC)
    go_wp2_with fail
    refine hK.out _ _ (J _ bA) fun O=>?_
    clear hK K
    try simp only[yU]
    refine wpAnyH_ready (rs:=[3,8]) (by kernel_rfl) (by simp) ?_
    refine AllReadyH.cons (gA rfl) (fun K hK=>?_) ?m_4
    case m_4=>
     refine AllReadyH.cons (gA rfl) (fun K hK=>?_) AllReadyH.nil
     go_simp
     refine hK.out _ _ (J _ (bA.alloc bA.size (.cells #[.slice none 0 0,.int .i64 0] 39))) fun O=>?_
     clear hK K
     try simp only[yU]
     (have F:=ZG bA #[.slice none 0 0,.int .i64 0] 39;have bB:=Xz bA;(try replace E:=fun g D=>(E g D).bel (Qi _ (.cells #[.slice none 0 0,.int .i64 0] 39)));(try replace I:=I.bel (Qi _ (.cells #[.slice none 0 0,.int .i64 0] 39)));replace bA:=bA.alloc bA.size (.cells #[.slice none 0 0,.int .i64 0] 39))
     refine wpAnyH_ready (rs:=[3]) (by kernel_rfl) (by simp) ?_
     refine AllReadyH.cons (gA rfl) (fun K hK=>?_) AllReadyH.nil
     go_simp
     (go_at_call 53;refine(ab p4 A3 c3 _ I (ac _ bA)).mono ?_;rintro e w5 ⟨⟨v,xs,an,he,aa,U⟩,Q⟩;obtain rfl:an=Z3:=aa;rw[Zv]at he;rw[QR]at U;obtain⟨A5,n5,c5,rfl,-⟩:=U.sl Qp;subst he;(try replace F:=fun g D=>(F g D).bel Q);(try replace E:=fun g D=>(E g D).bel Q);replace bA:=bA.trans (Q.mono bA.size);clear Q I U)
     go_wp2_with fail
     refine hK.out _ _ (J _ bA) fun O=>?_
     clear hK K
     try simp only[yU]
     refine yT [4,5,6,7] ?_
     iterate 4 (refine yS ?_;simp only[yU])
     refine yR 10 fun K hK=>?_
     (refine wp_store_row 39 (.tmp 9) (.tmp 45) rfl _ #[.slice A5 n5 c5,.int .i64 1] rfl rfl 39 _ (F _ (by simp)) (by kernel_rfl) rfl (by simp[Value.oneCell']) ?_)
     refine hK.out _ _ (J _ (M5 bA (bB _ (by simp)) _)) fun O=>?_
     clear hK K
     try simp only[yU]
     refine yR 11 fun K hK=>?_
     (refine wp_store_row 55 (.tmp 10) (.tmp 46) rfl _ (Qt Z3) rfl rfl 55 _ ((E _ (by simp)).rowOther (Blk.neTy (E _ (by simp)) (F _ (by simp)) (by decide)) _) (by kernel_rfl) rfl (by simp[Qt,Value.oneCell']) ?_)
     refine hK.out _ _ (J _ (M5 (M5 bA (bB _ (by simp)) _) (Z _ (by simp)) _)) fun O=>?_
     clear hK K
     try simp only[yU]
     refine yT [12] ?_
     iterate 1 (refine yS ?_;simp only[yU])
     refine yD ?_
     go_wp2_with fail
     go_meet
     exact⟨_,rfl,rfl,((E _ (by simp)).rowOther (Blk.neTy (E _ (by simp)) (F _ (by simp)) (by decide)) _).row _,M5 (M5 bA (bB _ (by simp)) _) (Z _ (by simp)) _⟩
    go_simp
    (go_at_call 53;refine(ab p4 A3 c3 _ I (ac _ bA)).mono ?_;rintro e w5 ⟨⟨v,xs,an,he,aa,U⟩,Q⟩;obtain rfl:an=Z3:=aa;rw[Zv]at he;rw[QR]at U;obtain⟨A5,n5,c5,rfl,-⟩:=U.sl Qp;subst he;(try replace F:=fun g D=>(F g D).bel Q);(try replace E:=fun g D=>(E g D).bel Q);replace bA:=bA.trans (Q.mono bA.size);clear Q I U)
    go_wp2_with fail
    refine hK.out _ _ (J _ bA) fun O=>?_
    clear hK K
    try simp only[yU]
    refine yT [4,5,6,7] ?_
    iterate 4 (refine yS ?_;simp only[yU])
    refine wpAnyH_ready (rs:=[8]) (by kernel_rfl) (by simp) ?_
    refine AllReadyH.cons (gA rfl) (fun K hK=>?_) AllReadyH.nil
    go_simp
    refine hK.out _ _ (J _ (bA.alloc bA.size (.cells #[.slice none 0 0,.int .i64 0] 39))) fun O=>?_
    clear hK K
    try simp only[yU]
    (have F:=ZG bA #[.slice none 0 0,.int .i64 0] 39;have bB:=Xz bA;(try replace E:=fun g D=>(E g D).bel (Qi _ (.cells #[.slice none 0 0,.int .i64 0] 39)));(try replace I:=I.bel (Qi _ (.cells #[.slice none 0 0,.int .i64 0] 39)));replace bA:=bA.alloc bA.size (.cells #[.slice none 0 0,.int .i64 0] 39))
    refine yR 10 fun K hK=>?_
    (refine wp_store_row 39 (.tmp 9) (.tmp 45) rfl _ #[.slice A5 n5 c5,.int .i64 1] rfl rfl 39 _ (F _ (by simp)) (by kernel_rfl) rfl (by simp[Value.oneCell']) ?_)
    refine hK.out _ _ (J _ (M5 bA (bB _ (by simp)) _)) fun O=>?_
    clear hK K
    try simp only[yU]
    refine yR 11 fun K hK=>?_
    (refine wp_store_row 55 (.tmp 10) (.tmp 46) rfl _ (Qt Z3) rfl rfl 55 _ ((E _ (by simp)).rowOther (Blk.neTy (E _ (by simp)) (F _ (by simp)) (by decide)) _) (by kernel_rfl) rfl (by simp[Qt,Value.oneCell']) ?_)
    refine hK.out _ _ (J _ (M5 (M5 bA (bB _ (by simp)) _) (Z _ (by simp)) _)) fun O=>?_
    clear hK K
    try simp only[yU]
    refine yT [12] ?_
    iterate 1 (refine yS ?_;simp only[yU])
    refine yD ?_
    go_wp2_with fail
    go_meet
    exact⟨_,rfl,rfl,((E _ (by simp)).rowOther (Blk.neTy (E _ (by simp)) (F _ (by simp)) (by decide)) _).row _,M5 (M5 bA (bB _ (by simp)) _) (Z _ (by simp)) _⟩
   go_simp
   refine hK.out _ _ (J _ (bA.alloc bA.size (.cells #[.slice none 0 0,.int .i64 0] 39))) fun O=>?_
   clear hK K
   try simp only[yU]
   (have F:=ZG bA #[.slice none 0 0,.int .i64 0] 39;have bB:=Xz bA;(try replace E:=fun g D=>(E g D).bel (Qi _ (.cells #[.slice none 0 0,.int .i64 0] 39)));(try replace I:=I.bel (Qi _ (.cells #[.slice none 0 0,.int .i64 0] 39)));replace bA:=bA.alloc bA.size (.cells #[.slice none 0 0,.int .i64 0] 39))
   refine wpAnyH_ready (rs:=[0,9]) (by kernel_rfl) (by simp) ?_
   refine AllReadyH.cons (gA rfl) (fun K hK=>?_) ?m_5
   case m_5=>
    refine AllReadyH.cons (gA rfl) (fun K hK=>?_) AllReadyH.nil
    go_simp
    refine hK.out _ _ (J _ (bA.alloc bA.size (.cells #[.int .i64 0,.int .i64 0] 55))) fun O=>?_
    clear hK K
    try simp only[yU]
    (have E:=ZG bA #[.int .i64 0,.int .i64 0] 55;have Z:=Xz bA;(try replace F:=fun g D=>(F g D).bel (Qi _ (.cells #[.int .i64 0,.int .i64 0] 55)));(try replace I:=I.bel (Qi _ (.cells #[.int .i64 0,.int .i64 0] 55)));replace bA:=bA.alloc bA.size (.cells #[.int .i64 0,.int .i64 0] 55))
    refine wpAnyH_ready (rs:=[0]) (by kernel_rfl) (by simp) ?_
    refine AllReadyH.cons (gA rfl) (fun K hK=>?_) AllReadyH.nil
    go_simp
    (go_at_call 58;refine(Uu _).mono ?_;rintro e w4 ⟨p4,rfl,I,bC⟩;(try replace F:=fun g D=>(F g D).bel bC);(try replace E:=fun g D=>(E g D).bel bC);replace bA:=bA.trans (bC.mono bA.size);clear bC)
    go_wp2_with fail
    refine hK.out _ _ (J _ bA) fun O=>?_
    clear hK K
    try simp only[yU]
    refine wpAnyH_ready (rs:=[3]) (by kernel_rfl) (by simp) ?_
    refine AllReadyH.cons (gA rfl) (fun K hK=>?_) AllReadyH.nil
    go_simp
    (go_at_call 53;refine(ab p4 A3 c3 _ I (ac _ bA)).mono ?_;rintro e w5 ⟨⟨v,xs,an,he,aa,U⟩,Q⟩;obtain rfl:an=Z3:=aa;rw[Zv]at he;rw[QR]at U;obtain⟨A5,n5,c5,rfl,-⟩:=U.sl Qp;subst he;(try replace F:=fun g D=>(F g D).bel Q);(try replace E:=fun g D=>(E g D).bel Q);replace bA:=bA.trans (Q.mono bA.size);clear Q I U)
    go_wp2_with fail
    refine hK.out _ _ (J _ bA) fun O=>?_
    clear hK K
    try simp only[yU]
    refine yT [4,5,6,7] ?_
    iterate 4 (refine yS ?_;simp only[yU])
    refine yR 10 fun K hK=>?_
    (refine wp_store_row 39 (.tmp 9) (.tmp 45) rfl _ #[.slice A5 n5 c5,.int .i64 1] rfl rfl 39 _ (F _ (by simp)) (by kernel_rfl) rfl (by simp[Value.oneCell']) ?_)
    refine hK.out _ _ (J _ (M5 bA (bB _ (by simp)) _)) fun O=>?_
    clear hK K
    try simp only[yU]
    refine yR 11 fun K hK=>?_
    (refine wp_store_row 55 (.tmp 10) (.tmp 46) rfl _ (Qt Z3) rfl rfl 55 _ ((E _ (by simp)).rowOther (Blk.neTy (E _ (by simp)) (F _ (by simp)) (by decide)) _) (by kernel_rfl) rfl (by simp[Qt,Value.oneCell']) ?_)
    refine hK.out _ _ (J _ (M5 (M5 bA (bB _ (by simp)) _) (Z _ (by simp)) _)) fun O=>?_
    clear hK K
    try simp only[yU]
    refine yT [12] ?_
    iterate 1 (refine yS ?_;simp only[yU])
    refine yD ?_
    go_wp2_with fail
    go_meet
    exact⟨_,rfl,rfl,((E _ (by simp)).rowOther (Blk.neTy (E _ (by simp)) (F _ (by simp)) (by decide)) _).row _,M5 (M5 bA (bB _ (by simp)) _) (Z _ (by simp)) _⟩
   go_simp
   (go_at_call 58;refine(Uu _).mono ?_;rintro e w4 ⟨p4,rfl,I,bC⟩;(try replace F:=fun g D=>(F g D).bel bC);(try replace E:=fun g D=>(E g D).bel bC);replace bA:=bA.trans (bC.mono bA.size);clear bC)
   go_wp2_with fail
   refine hK.out _ _ (J _ bA) fun O=>?_
   clear hK K
   try simp only[yU]
   refine wpAnyH_ready (rs:=[3,9]) (by kernel_rfl) (by simp) ?_
   refine AllReadyH.cons (gA rfl) (fun K hK=>?_) ?m_6
   case m_6=>
    refine AllReadyH.cons (gA rfl) (fun K hK=>?_) AllReadyH.nil
    go_simp
    refine hK.out _ _ (J _ (bA.alloc bA.size (.cells #[.int .i64 0,.int .i64 0] 55))) fun O=>?_
    clear hK K
    try simp only[yU]
    (have E:=ZG bA #[.int .i64 0,.int .i64 0] 55;have Z:=Xz bA;(try replace F:=fun g D=>(F g D).bel (Qi _ (.cells #[.int .i64 0,.int .i64 0] 55)));(try replace I:=I.bel (Qi _ (.cells #[.int .i64 0,.int .i64 0] 55)));replace bA:=bA.alloc bA.size (.cells #[.int .i64 0,.int .i64 0] 55))
    refine wpAnyH_ready (rs:=[3]) (by kernel_rfl) (by simp) ?_
    refine AllReadyH.cons (gA rfl) (fun K hK=>?_) AllReadyH.nil
    go_simp
    (go_at_call 53;refine(ab p4 A3 c3 _ I (ac _ bA)).mono ?_;rintro e w5 ⟨⟨v,xs,an,he,aa,U⟩,Q⟩;obtain rfl:an=Z3:=aa;rw[Zv]at he;rw[QR]at U;obtain⟨A5,n5,c5,rfl,-⟩:=U.sl Qp;subst he;(try replace F:=fun g D=>(F g D).bel Q);(try replace E:=fun g D=>(E g D).bel Q);replace bA:=bA.trans (Q.mono bA.size);clear Q I U)
    go_wp2_with fail
    refine hK.out _ _ (J _ bA) fun O=>?_
    clear hK K
    try simp only[yU]
    refine yT [4,5,6,7] ?_
    iterate 4 (refine yS ?_;simp only[yU])
    refine yR 10 fun K hK=>?_
    (refine wp_store_row 39 (.tmp 9) (.tmp 45) rfl _ #[.slice A5 n5 c5,.int .i64 1] rfl rfl 39 _ (F _ (by simp)) (by kernel_rfl) rfl (by simp[Value.oneCell']) ?_)
    refine hK.out _ _ (J _ (M5 bA (bB _ (by simp)) _)) fun O=>?_
    clear hK K
    try simp only[yU]
    refine yR 11 fun K hK=>?_
    (refine wp_store_row 55 (.tmp 10) (.tmp 46) rfl _ (Qt Z3) rfl rfl 55 _ ((E _ (by simp)).rowOther (Blk.neTy (E _ (by simp)) (F _ (by simp)) (by decide)) _) (by kernel_rfl) rfl (by simp[Qt,Value.oneCell']) ?_)
    refine hK.out _ _ (J _ (M5 (M5 bA (bB _ (by simp)) _) (Z _ (by simp)) _)) fun O=>?_
    clear hK K
    try simp only[yU]
    refine yT [12] ?_
    iterate 1 (refine yS ?_;simp only[yU])
    refine yD ?_
    go_wp2_with fail
    go_meet
    exact⟨_,rfl,rfl,((E _ (by simp)).rowOther (Blk.neTy (E _ (by simp)) (F _ (by simp)) (by decide)) _).row _,M5 (M5 bA (bB _ (by simp)) _) (Z _ (by simp)) _⟩
   go_simp
   (go_at_call 53;refine(ab p4 A3 c3 _ I (ac _ bA)).mono ?_;rintro e w5 ⟨⟨v,xs,an,he,aa,U⟩,Q⟩;obtain rfl:an=Z3:=aa;rw[Zv]at he;rw[QR]at U;obtain⟨A5,n5,c5,rfl,-⟩:=U.sl Qp;subst he;(try replace F:=fun g D=>(F g D).bel Q);(try replace E:=fun g D=>(E g D).bel Q);replace bA:=bA.trans (Q.mono bA.size);clear Q I U)
   go_wp2_with fail
   refine hK.out _ _ (J _ bA) fun O=>?_
   clear hK K
   try simp only[yU]
   refine yT [4,5,6,7] ?_
   iterate 4 (refine yS ?_;simp only[yU])
   refine wpAnyH_ready (rs:=[9]) (by kernel_rfl) (by simp) ?_
   refine AllReadyH.cons (gA rfl) (fun K hK=>?_) AllReadyH.nil
   go_simp
   refine hK.out _ _ (J _ (bA.alloc bA.size (.cells #[.int .i64 0,.int .i64 0] 55))) fun O=>?_
   clear hK K
   try simp only[yU]
   (have E:=ZG bA #[.int .i64 0,.int .i64 0] 55;have Z:=Xz bA;(try replace F:=fun g D=>(F g D).bel (Qi _ (.cells #[.int .i64 0,.int .i64 0] 55)));(try replace I:=I.bel (Qi _ (.cells #[.int .i64 0,.int .i64 0] 55)));replace bA:=bA.alloc bA.size (.cells #[.int .i64 0,.int .i64 0] 55))
   refine yR 10 fun K hK=>?_
   (refine wp_store_row 39 (.tmp 9) (.tmp 45) rfl _ #[.slice A5 n5 c5,.int .i64 1] rfl rfl 39 _ (F _ (by simp)) (by kernel_rfl) rfl (by simp[Value.oneCell']) ?_)
   refine hK.out _ _ (J _ (M5 bA (bB _ (by simp)) _)) fun O=>?_
   clear hK K
   try simp only[yU]
   refine yR 11 fun K hK=>?_
   (refine wp_store_row 55 (.tmp 10) (.tmp 46) rfl _ (Qt Z3) rfl rfl 55 _ ((E _ (by simp)).rowOther (Blk.neTy (E _ (by simp)) (F _ (by simp)) (by decide)) _) (by kernel_rfl) rfl (by simp[Qt,Value.oneCell']) ?_)
   refine hK.out _ _ (J _ (M5 (M5 bA (bB _ (by simp)) _) (Z _ (by simp)) _)) fun O=>?_
   clear hK K
   try simp only[yU]
   refine yT [12] ?_
   iterate 1 (refine yS ?_;simp only[yU])
   refine yD ?_
   go_wp2_with fail
   go_meet
   exact⟨_,rfl,rfl,((E _ (by simp)).rowOther (Blk.neTy (E _ (by simp)) (F _ (by simp)) (by decide)) _).row _,M5 (M5 bA (bB _ (by simp)) _) (Z _ (by simp)) _⟩
  go_simp
  (go_at_call 58;refine(Uu _).mono ?_;rintro e w4 ⟨p4,rfl,I,bC⟩;(try replace F:=fun g D=>(F g D).bel bC);(try replace E:=fun g D=>(E g D).bel bC);replace bA:=bA.trans (bC.mono bA.size);clear bC)
  go_wp2_with fail
  refine hK.out _ _ (J _ bA) fun O=>?_
  clear hK K
  try simp only[yU]
  refine wpAnyH_ready (rs:=[3,8,9]) (by kernel_rfl) (by simp) ?_
  refine AllReadyH.cons (gA rfl) (fun K hK=>?_) ?m_7
  case m_7=>
   refine AllReadyH.cons (gA rfl) (fun K hK=>?_) ?m_8
   case m_8=>
    refine AllReadyH.cons (gA rfl) (fun K hK=>?_) AllReadyH.nil
    go_simp
    refine hK.out _ _ (J _ (bA.alloc bA.size (.cells #[.int .i64 0,.int .i64 0] 55))) fun O=>?_
    clear hK K
    try simp only[yU]
    (have E:=ZG bA #[.int .i64 0,.int .i64 0] 55;have Z:=Xz bA;(try replace F:=fun g D=>(F g D).bel (Qi _ (.cells #[.int .i64 0,.int .i64 0] 55)));(try replace I:=I.bel (Qi _ (.cells #[.int .i64 0,.int .i64 0] 55)));replace bA:=bA.alloc bA.size (.cells #[.int .i64 0,.int .i64 0] 55))
    refine wpAnyH_ready (rs:=[3,8]) (by kernel_rfl) (by simp) ?_
    refine AllReadyH.cons (gA rfl) (fun K hK=>?_) ?m_9
    case m_9=>
     refine AllReadyH.cons (gA rfl) (fun K hK=>?_) AllReadyH.nil
     go_simp
     refine hK.out _ _ (J _ (bA.alloc bA.size (.cells #[.slice none 0 0,.int .i64 0] 39))) fun O=>?_
     clear hK K
     try simp only[yU]
     (have F:=ZG bA #[.slice none 0 0,.int .i64 0] 39;have bB:=Xz bA;(try replace E:=fun g D=>(E g D).bel (Qi _ (.cells #[.slice none 0 0,.int .i64 0] 39)));(try replace I:=I.bel (Qi _ (.cells #[.slice none 0 0,.int .i64 0] 39)));replace bA:=bA.alloc bA.size (.cells #[.slice none 0 0,.int .i64 0] 39))
     refine wpAnyH_ready (rs:=[3]) (by kernel_rfl) (by simp) ?_
     refine AllReadyH.cons (gA rfl) (fun K hK=>?_) AllReadyH.nil
     go_simp
     (go_at_call 53;refine(ab p4 A3 c3 _ I (ac _ bA)).mono ?_;rintro e w5 ⟨⟨v,xs,an,he,aa,U⟩,Q⟩;obtain rfl:an=Z3:=aa;rw[Zv]at he;rw[QR]at U;obtain⟨A5,n5,c5,rfl,-⟩:=U.sl Qp;subst he;(try replace F:=fun g D=>(F g D).bel Q);(try replace E:=fun g D=>(E g D).bel Q);replace bA:=bA.trans (Q.mono bA.size);clear Q I U)
     go_wp2_with fail
     refine hK.out _ _ (J _ bA) fun O=>?_
     clear hK K
     try simp only[yU]
     refine yT [4,5,6,7] ?_
     iterate 4 (refine yS ?_;simp only[yU])
     refine yR 10 fun K hK=>?_
     (refine wp_store_row 39 (.tmp 9) (.tmp 45) rfl _ #[.slice A5 n5 c5,.int .i64 1] rfl rfl 39 _ (F _ (by simp)) (by kernel_rfl) rfl (by simp[Value.oneCell']) ?_)
     refine hK.out _ _ (J _ (M5 bA (bB _ (by simp)) _)) fun O=>?_
     clear hK K
     try simp only[yU]
     refine yR 11 fun K hK=>?_
     (refine wp_store_row 55 (.tmp 10) (.tmp 46) rfl _ (Qt Z3) rfl rfl 55 _ ((E _ (by simp)).rowOther (Blk.neTy (E _ (by simp)) (F _ (by simp)) (by decide)) _) (by kernel_rfl) rfl (by simp[Qt,Value.oneCell']) ?_)
     refine hK.out _ _ (J _ (M5 (M5 bA (bB _ (by simp)) _) (Z _ (by simp)) _)) fun O=>?_
     clear hK K
     try simp only[yU]
     refine yT [12] ?_
     iterate 1 (refine yS ?_;simp only[yU])
     refine yD ?_
     go_wp2_with fail
     go_meet
     exact⟨_,rfl,rfl,((E _ (by simp)).rowOther (Blk.neTy (E _ (by simp)) (F _ (by simp)) (by decide)) _).row _,M5 (M5 bA (bB _ (by simp)) _) (Z _ (by simp)) _⟩
    go_simp
    (go_at_call 53;refine(ab p4 A3 c3 _ I (ac _ bA)).mono ?_;rintro e w5 ⟨⟨v,xs,an,he,aa,U⟩,Q⟩;obtain rfl:an=Z3:=aa;rw[Zv]at he;rw[QR]at U;obtain⟨A5,n5,c5,rfl,-⟩:=U.sl Qp;subst he;(try replace F:=fun g D=>(F g D).bel Q);(try replace E:=fun g D=>(E g D).bel Q);replace bA:=bA.trans (Q.mono bA.size);clear Q I U)
    go_wp2_with fail
    refine hK.out _ _ (J _ bA) fun O=>?_
    clear hK K
    try simp only[yU]
    refine yT [4,5,6,7] ?_
    iterate 4 (refine yS ?_;simp only[yU])
    refine wpAnyH_ready (rs:=[8]) (by kernel_rfl) (by simp) ?_
    refine AllReadyH.cons (gA rfl) (fun K hK=>?_) AllReadyH.nil
    go_simp
    refine hK.out _ _ (J _ (bA.alloc bA.size (.cells #[.slice none 0 0,.int .i64 0] 39))) fun O=>?_
    clear hK K
    try simp only[yU]
    (have F:=ZG bA #[.slice none 0 0,.int .i64 0] 39;have bB:=Xz bA;(try replace E:=fun g D=>(E g D).bel (Qi _ (.cells #[.slice none 0 0,.int .i64 0] 39)));(try replace I:=I.bel (Qi _ (.cells #[.slice none 0 0,.int .i64 0] 39)));replace bA:=bA.alloc bA.size (.cells #[.slice none 0 0,.int .i64 0] 39))
    refine yR 10 fun K hK=>?_
    (refine wp_store_row 39 (.tmp 9) (.tmp 45) rfl _ #[.slice A5 n5 c5,.int .i64 1] rfl rfl 39 _ (F _ (by simp)) (by kernel_rfl) rfl (by simp[Value.oneCell']) ?_)
    refine hK.out _ _ (J _ (M5 bA (bB _ (by simp)) _)) fun O=>?_
    clear hK K
    try simp only[yU]
    refine yR 11 fun K hK=>?_
    (refine wp_store_row 55 (.tmp 10) (.tmp 46) rfl _ (Qt Z3) rfl rfl 55 _ ((E _ (by simp)).rowOther (Blk.neTy (E _ (by simp)) (F _ (by simp)) (by decide)) _) (by kernel_rfl) rfl (by simp[Qt,Value.oneCell']) ?_)
    refine hK.out _ _ (J _ (M5 (M5 bA (bB _ (by simp)) _) (Z _ (by simp)) _)) fun O=>?_
    clear hK K
    try simp only[yU]
    refine yT [12] ?_
    iterate 1 (refine yS ?_;simp only[yU])
    refine yD ?_
    go_wp2_with fail
    go_meet
    exact⟨_,rfl,rfl,((E _ (by simp)).rowOther (Blk.neTy (E _ (by simp)) (F _ (by simp)) (by decide)) _).row _,M5 (M5 bA (bB _ (by simp)) _) (Z _ (by simp)) _⟩
   go_simp
   refine hK.out _ _ (J _ (bA.alloc bA.size (.cells #[.slice none 0 0,.int .i64 0] 39))) fun O=>?_
   clear hK K
   try simp only[yU]
   (have F:=ZG bA #[.slice none 0 0,.int .i64 0] 39;have bB:=Xz bA;(try replace E:=fun g D=>(E g D).bel (Qi _ (.cells #[.slice none 0 0,.int .i64 0] 39)));(try replace I:=I.bel (Qi _ (.cells #[.slice none 0 0,.int .i64 0] 39)));replace bA:=bA.alloc bA.size (.cells #[.slice none 0 0,.int .i64 0] 39))
   refine wpAnyH_ready (rs:=[3,9]) (by kernel_rfl) (by simp) ?_
   refine AllReadyH.cons (gA rfl) (fun K hK=>?_) ?m_10
   case m_10=>
    refine AllReadyH.cons (gA rfl) (fun K hK=>?_) AllReadyH.nil
    go_simp
    refine hK.out _ _ (J _ (bA.alloc bA.size (.cells #[.int .i64 0,.int .i64 0] 55))) fun O=>?_
    clear hK K
    try simp only[yU]
    (have E:=ZG bA #[.int .i64 0,.int .i64 0] 55;have Z:=Xz bA;(try replace F:=fun g D=>(F g D).bel (Qi _ (.cells #[.int .i64 0,.int .i64 0] 55)));(try replace I:=I.bel (Qi _ (.cells #[.int .i64 0,.int .i64 0] 55)));replace bA:=bA.alloc bA.size (.cells #[.int .i64 0,.int .i64 0] 55))
    refine wpAnyH_ready (rs:=[3]) (by kernel_rfl) (by simp) ?_
    refine AllReadyH.cons (gA rfl) (fun K hK=>?_) AllReadyH.nil
    go_simp
    (go_at_call 53;refine(ab p4 A3 c3 _ I (ac _ bA)).mono ?_;rintro e w5 ⟨⟨v,xs,an,he,aa,U⟩,Q⟩;obtain rfl:an=Z3:=aa;rw[Zv]at he;rw[QR]at U;obtain⟨A5,n5,c5,rfl,-⟩:=U.sl Qp;subst he;(try replace F:=fun g D=>(F g D).bel Q);(try replace E:=fun g D=>(E g D).bel Q);replace bA:=bA.trans (Q.mono bA.size);clear Q I U)
    go_wp2_with fail
    refine hK.out _ _ (J _ bA) fun O=>?_
    clear hK K
    try simp only[yU]
    refine yT [4,5,6,7] ?_
    iterate 4 (refine yS ?_;simp only[yU])
    refine yR 10 fun K hK=>?_
    (refine wp_store_row 39 (.tmp 9) (.tmp 45) rfl _ #[.slice A5 n5 c5,.int .i64 1] rfl rfl 39 _ (F _ (by simp)) (by kernel_rfl) rfl (by simp[Value.oneCell']) ?_)
    refine hK.out _ _ (J _ (M5 bA (bB _ (by simp)) _)) fun O=>?_
    clear hK K
    try simp only[yU]
    refine yR 11 fun K hK=>?_
    (refine wp_store_row 55 (.tmp 10) (.tmp 46) rfl _ (Qt Z3) rfl rfl 55 _ ((E _ (by simp)).rowOther (Blk.neTy (E _ (by simp)) (F _ (by simp)) (by decide)) _) (by kernel_rfl) rfl (by simp[Qt,Value.oneCell']) ?_)
    refine hK.out _ _ (J _ (M5 (M5 bA (bB _ (by simp)) _) (Z _ (by simp)) _)) fun O=>?_
    clear hK K
    try simp only[yU]
    refine yT [12] ?_
    iterate 1 (refine yS ?_;simp only[yU])
    refine yD ?_
    go_wp2_with fail
    go_meet
    exact⟨_,rfl,rfl,((E _ (by simp)).rowOther (Blk.neTy (E _ (by simp)) (F _ (by simp)) (by decide)) _).row _,M5 (M5 bA (bB _ (by simp)) _) (Z _ (by simp)) _⟩
   go_simp
   (go_at_call 53;refine(ab p4 A3 c3 _ I (ac _ bA)).mono ?_;rintro e w5 ⟨⟨v,xs,an,he,aa,U⟩,Q⟩;obtain rfl:an=Z3:=aa;rw[Zv]at he;rw[QR]at U;obtain⟨A5,n5,c5,rfl,-⟩:=U.sl Qp;subst he;(try replace F:=fun g D=>(F g D).bel Q);(try replace E:=fun g D=>(E g D).bel Q);replace bA:=bA.trans (Q.mono bA.size);clear Q I U)
   go_wp2_with fail
   refine hK.out _ _ (J _ bA) fun O=>?_
   clear hK K
   try simp only[yU]
   refine yT [4,5,6,7] ?_
   iterate 4 (refine yS ?_;simp only[yU])
   refine wpAnyH_ready (rs:=[9]) (by kernel_rfl) (by simp) ?_
   refine AllReadyH.cons (gA rfl) (fun K hK=>?_) AllReadyH.nil
   go_simp
   refine hK.out _ _ (J _ (bA.alloc bA.size (.cells #[.int .i64 0,.int .i64 0] 55))) fun O=>?_
   clear hK K
   try simp only[yU]
   (have E:=ZG bA #[.int .i64 0,.int .i64 0] 55;have Z:=Xz bA;(try replace F:=fun g D=>(F g D).bel (Qi _ (.cells #[.int .i64 0,.int .i64 0] 55)));(try replace I:=I.bel (Qi _ (.cells #[.int .i64 0,.int .i64 0] 55)));replace bA:=bA.alloc bA.size (.cells #[.int .i64 0,.int .i64 0] 55))
   refine yR 10 fun K hK=>?_
   (refine wp_store_row 39 (.tmp 9) (.tmp 45) rfl _ #[.slice A5 n5 c5,.int .i64 1] rfl rfl 39 _ (F _ (by simp)) (by kernel_rfl) rfl (by simp[Value.oneCell']) ?_)
   refine hK.out _ _ (J _ (M5 bA (bB _ (by simp)) _)) fun O=>?_
   clear hK K
   try simp only[yU]
   refine yR 11 fun K hK=>?_
   (refine wp_store_row 55 (.tmp 10) (.tmp 46) rfl _ (Qt Z3) rfl rfl 55 _ ((E _ (by simp)).rowOther (Blk.neTy (E _ (by simp)) (F _ (by simp)) (by decide)) _) (by kernel_rfl) rfl (by simp[Qt,Value.oneCell']) ?_)
   refine hK.out _ _ (J _ (M5 (M5 bA (bB _ (by simp)) _) (Z _ (by simp)) _)) fun O=>?_
   clear hK K
   try simp only[yU]
   refine yT [12] ?_
   iterate 1 (refine yS ?_;simp only[yU])
   refine yD ?_
   go_wp2_with fail
   go_meet
   exact⟨_,rfl,rfl,((E _ (by simp)).rowOther (Blk.neTy (E _ (by simp)) (F _ (by simp)) (by decide)) _).row _,M5 (M5 bA (bB _ (by simp)) _) (Z _ (by simp)) _⟩
  go_simp
  (go_at_call 53;refine(ab p4 A3 c3 _ I (ac _ bA)).mono ?_;rintro e w5 ⟨⟨v,xs,an,he,aa,U⟩,Q⟩;obtain rfl:an=Z3:=aa;rw[Zv]at he;rw[QR]at U;obtain⟨A5,n5,c5,rfl,-⟩:=U.sl Qp;subst he;(try replace F:=fun g D=>(F g D).bel Q);(try replace E:=fun g D=>(E g D).bel Q);replace bA:=bA.trans (Q.mono bA.size);clear Q I U)
  go_wp2_with fail
  refine hK.out _ _ (J _ bA) fun O=>?_
  clear hK K
  try simp only[yU]
  refine yT [4,5,6,7] ?_
  iterate 4 (refine yS ?_;simp only[yU])
  refine wpAnyH_ready (rs:=[8,9]) (by kernel_rfl) (by simp) ?_
  refine AllReadyH.cons (gA rfl) (fun K hK=>?_) ?m_11
  case m_11=>
   refine AllReadyH.cons (gA rfl) (fun K hK=>?_) AllReadyH.nil
   go_simp
   refine hK.out _ _ (J _ (bA.alloc bA.size (.cells #[.int .i64 0,.int .i64 0] 55))) fun O=>?_
   clear hK K
   try simp only[yU]
   (have E:=ZG bA #[.int .i64 0,.int .i64 0] 55;have Z:=Xz bA;(try replace F:=fun g D=>(F g D).bel (Qi _ (.cells #[.int .i64 0,.int .i64 0] 55)));(try replace I:=I.bel (Qi _ (.cells #[.int .i64 0,.int .i64 0] 55)));replace bA:=bA.alloc bA.size (.cells #[.int .i64 0,.int .i64 0] 55))
   refine wpAnyH_ready (rs:=[8]) (by kernel_rfl) (by simp) ?_
   refine AllReadyH.cons (gA rfl) (fun K hK=>?_) AllReadyH.nil
   go_simp
   refine hK.out _ _ (J _ (bA.alloc bA.size (.cells #[.slice none 0 0,.int .i64 0] 39))) fun O=>?_
   clear hK K
   try simp only[yU]
   (have F:=ZG bA #[.slice none 0 0,.int .i64 0] 39;have bB:=Xz bA;(try replace E:=fun g D=>(E g D).bel (Qi _ (.cells #[.slice none 0 0,.int .i64 0] 39)));(try replace I:=I.bel (Qi _ (.cells #[.slice none 0 0,.int .i64 0] 39)));replace bA:=bA.alloc bA.size (.cells #[.slice none 0 0,.int .i64 0] 39))
   refine yR 10 fun K hK=>?_
   (refine wp_store_row 39 (.tmp 9) (.tmp 45) rfl _ #[.slice A5 n5 c5,.int .i64 1] rfl rfl 39 _ (F _ (by simp)) (by kernel_rfl) rfl (by simp[Value.oneCell']) ?_)
   refine hK.out _ _ (J _ (M5 bA (bB _ (by simp)) _)) fun O=>?_
   clear hK K
   try simp only[yU]
   refine yR 11 fun K hK=>?_
   (refine wp_store_row 55 (.tmp 10) (.tmp 46) rfl _ (Qt Z3) rfl rfl 55 _ ((E _ (by simp)).rowOther (Blk.neTy (E _ (by simp)) (F _ (by simp)) (by decide)) _) (by kernel_rfl) rfl (by simp[Qt,Value.oneCell']) ?_)
   refine hK.out _ _ (J _ (M5 (M5 bA (bB _ (by simp)) _) (Z _ (by simp)) _)) fun O=>?_
   clear hK K
   try simp only[yU]
   refine yT [12] ?_
   iterate 1 (refine yS ?_;simp only[yU])
   refine yD ?_
   go_wp2_with fail
   go_meet
   exact⟨_,rfl,rfl,((E _ (by simp)).rowOther (Blk.neTy (E _ (by simp)) (F _ (by simp)) (by decide)) _).row _,M5 (M5 bA (bB _ (by simp)) _) (Z _ (by simp)) _⟩
  go_simp
  refine hK.out _ _ (J _ (bA.alloc bA.size (.cells #[.slice none 0 0,.int .i64 0] 39))) fun O=>?_
  clear hK K
  try simp only[yU]
  (have F:=ZG bA #[.slice none 0 0,.int .i64 0] 39;have bB:=Xz bA;(try replace E:=fun g D=>(E g D).bel (Qi _ (.cells #[.slice none 0 0,.int .i64 0] 39)));(try replace I:=I.bel (Qi _ (.cells #[.slice none 0 0,.int .i64 0] 39)));replace bA:=bA.alloc bA.size (.cells #[.slice none 0 0,.int .i64 0] 39))
  refine wpAnyH_ready (rs:=[9]) (by kernel_rfl) (by simp) ?_
  refine AllReadyH.cons (gA rfl) (fun K hK=>?_) AllReadyH.nil
  go_simp
  refine hK.out _ _ (J _ (bA.alloc bA.size (.cells #[.int .i64 0,.int .i64 0] 55))) fun O=>?_
  clear hK K
  try simp only[yU]
  (have E:=ZG bA #[.int .i64 0,.int .i64 0] 55;have Z:=Xz bA;(try replace F:=fun g D=>(F g D).bel (Qi _ (.cells #[.int .i64 0,.int .i64 0] 55)));(try replace I:=I.bel (Qi _ (.cells #[.int .i64 0,.int .i64 0] 55)));replace bA:=bA.alloc bA.size (.cells #[.int .i64 0,.int .i64 0] 55))
  refine yR 10 fun K hK=>?_
  (refine wp_store_row 39 (.tmp 9) (.tmp 45) rfl _ #[.slice A5 n5 c5,.int .i64 1] rfl rfl 39 _ (F _ (by simp)) (by kernel_rfl) rfl (by simp[Value.oneCell']) ?_)
  refine hK.out _ _ (J _ (M5 bA (bB _ (by simp)) _)) fun O=>?_
  clear hK K
  try simp only[yU]
  refine yR 11 fun K hK=>?_
  (refine wp_store_row 55 (.tmp 10) (.tmp 46) rfl _ (Qt Z3) rfl rfl 55 _ ((E _ (by simp)).rowOther (Blk.neTy (E _ (by simp)) (F _ (by simp)) (by decide)) _) (by kernel_rfl) rfl (by simp[Qt,Value.oneCell']) ?_)
  refine hK.out _ _ (J _ (M5 (M5 bA (bB _ (by simp)) _) (Z _ (by simp)) _)) fun O=>?_
  clear hK K
  try simp only[yU]
  refine yT [12] ?_
  iterate 1 (refine yS ?_;simp only[yU])
  refine yD ?_
  go_wp2_with fail
  go_meet
  exact⟨_,rfl,rfl,((E _ (by simp)).rowOther (Blk.neTy (E _ (by simp)) (F _ (by simp)) (by decide)) _).row _,M5 (M5 bA (bB _ (by simp)) _) (Z _ (by simp)) _⟩
 obtain⟨a4,rfl,rfl,ax,bC⟩:=hcut
 obtain⟨V4,rfl⟩:=yE wc
 have aH:=yh (fun X (Y:yw V4 X)=>ax.bel Y)
 have ah:=yh (fun X (Y:yw V4 X)=>bC.trans (Y.mono bC.size))
 clear ax bC ab
 go_upto_region 5 with(fail)
 go_cut [12,13] (fun q e wx=>e=.int .i64 0∧(∃s y p',yp q s∧Blk wx s (Qa y p') 32∧y=y1∧SaiR wx y p')∧yw V4 wx)
 case first=>
  clear aj ar aq ap af ad ay aH
  have bA:yw V4 V4.drew:=(J4 _ V4).drew
  refine yZ (S:=(fun w'=>yJ w' s3 0 A3 1 c3∧yI w' s3 1 1)) (J _ (ah _ bA)) fun O=>?_
  refine yT [1] ?_
  iterate 1 (refine yS ?_;simp only[yU])
  focus
   refine yr2 0 6 (fun K k0=>?_) (fun K k6=>?_)
   repeat first
    |
     revert k0
     intro hK
     go_simp
     (go_at_call 58;refine(Uu _).mono ?_;rintro e w4 ⟨p4,rfl,I,bC⟩;(try replace F:=fun g D=>(F g D).bel bC);replace bA:=bA.trans (bC.mono bA.size);clear bC)
     go_wp2_with fail
     refine hK.out _ _ (J _ (ah _ bA)) fun O=>?_
     clear hK K
     try simp only[yU]
     first
      | refine yt2 2 6 (fun K k2=>?_) (fun K k6=>?_)
      | refine yt1 2 (fun K k2=>?_)
    |
     revert k2
     intro hK
     go_simp
     (go_at_call 16;(try have bh:=fun g D=>Blk.lt (F g D));refine(bD p4 A3 c3 _ I (ac _ (ah _ bA))).mono ?_;rintro e w5 ⟨⟨y,p',rfl,hy,U⟩,Q⟩;have bi:y1=y:=hy.symm;subst bi;clear hy;(try replace F:=fun g D=>(F g D).bel Q);replace bA:=bA.trans (Q.mono bA.size);clear Q I)
     go_wp2_with fail
     refine hK.out _ _ (J _ (ah _ bA)) fun O=>?_
     clear hK K
     try simp only[yU]
     refine yT [3,4,5] ?_
     iterate 3 (refine yS ?_;simp only[yU])
     first
      | refine yt1 6 (fun K k6=>?_)
      | rotate_left
    |
     revert k6
     intro hK
     go_simp
     refine hK.out _ _ (J _ (ah _ (bA.alloc bA.size (.cells M9 32)))) fun O=>?_
     clear hK K
     try simp only[yU]
     (have F:=ZG bA M9 32;have bB:=Xz bA;(try replace I:=I.bel (Qi _ (.cells M9 32)));(try have bf:=Qi w5 (.cells M9 32));replace bA:=bA.alloc bA.size (.cells M9 32))
     first
      | refine yt1 0 (fun K k0=>?_)
      | refine yt1 2 (fun K k2=>?_)
      | rotate_left
   all_goals
    refine yR 7 fun K hK=>?_
    (refine wp_store_row 32 (.tmp 12) (.tmp 52) rfl _ (Qa y1 p') rfl rfl 32 _ (F _ (by simp)) (by kernel_rfl) rfl (by simp[Value.oneCell']) ?_)
    refine hK.out _ _ (J _ (ah _ (M5 bA (bB _ (by simp)) _))) fun O=>?_
    clear hK K
    try simp only[yU]
    refine yT [8] ?_
    iterate 1 (refine yS ?_;simp only[yU])
    refine yD ?_
    go_wp2_with fail
    go_meet
    refine⟨rfl,⟨_,y1,p',rfl,(F _ (by simp)).row _,rfl,?_⟩,M5 bA (bB _ (by simp)) _⟩
    first|exact U.sai.bel (M5 bf (J5 _) _)|exact(U.kept ((yk _ w5).setRow (.inl rfl) _) (fun k hk e=>by have:=bh _ rfl;have h2:V4.drew.heap.size=V4.heap.size:=rfl;omega)).sai
 obtain⟨rfl,⟨s5,y5,p5,rfl,bG,a6,a2⟩,Q⟩:=hcut
 obtain⟨V5,rfl⟩:=yE wc
 have bj:y1=y5:=a6.symm
 subst bj
 have aO:=yh (fun X (Y:yw V5 X)=>bG.bel Y)
 have aN:=yh (fun X (Y:yw V5 X)=>a2.bel Y)
 have aG:=yh (fun X (Y:yw V5 X)=>Q.trans (Y.mono Q.size))
 clear bG a2 Q a6 bD J
 go_upto_region 6 with(fail)
 go_cut [14,15] (fun q e wx=>e=.int .i64 0∧(∃s A c,yp q s∧Blk wx s #[.slice A 1 c,.int .i64 1] 39∧Sl ZX 13 wx All A 1 c [YG])∧yw V5 wx)
 case first=>
  have am:=ah _ (aG _ (J4 _ _))
  have HC:=yh (aj A3 c3 V5 (ac _ am))
  have hz:=aK _ am
  clear ar aq ap af ad ay aH ac aj aK aO aN aG ah am
  go_wp2_with (refine yV (.tmp 6) hz underlying39 ?_)
  refine HC.mono ?_
  rintro e w8 ⟨⟨v,xs,he,U⟩,aE⟩
  rw[Zv]at he
  rw[QR]at U
  obtain⟨A,n,c,rfl,hs⟩:=U.sl Qp
  obtain rfl:1=n:=hs.len
  have a8:=yh (hs.all Qp (by omega))
  have aI:=yh aE
  subst he
  clear U hs aE HC hz
  go_wp2_with (refine yX 39 (.tmp 14) (.tmp 57) w8.heap.size #[.slice A 1 c,.int .i64 1] (Blk.new w8 #[.slice none 0 0,.int .i64 0] 39) ?_)
  go_meet
  have ao:yw w8 ((w8.alloc (.cells #[.slice none 0 0,.int .i64 0] 39)).setRow w8.heap.size #[.slice A 1 c,.int .i64 1]):=M5 (Qi w8 _) (J5 _) _
  exact⟨rfl,⟨_,A,c,rfl,(Blk.new w8 _ _).row _,a8.bel ao⟩,aI.trans (ao.mono aI.size)⟩
 obtain⟨rfl,⟨s6,A6,c6,rfl,aL,a0⟩,aM⟩:=hcut
 obtain⟨V6,rfl⟩:=yE wc
 have aQ:=aG _ aM
 have am:=ah _ aQ
 have aF:=ad _ am
 have av:=ap _ aF
 have aw:=ay _ am
 have ax:=aH _ aQ
 have ak:=aK _ am
 have bo:yI V6 a1 0 0:=av.cell rfl
 have bp:yI V6 a1 1 800:=av.cell rfl
 have bq:yI V6 a3 0 0:=aw.cell rfl
 have br:yI V6 a3 1 800:=aw.cell rfl
 have bH:yI V6 a4 0 0:=ax.cell rfl
 have bt:yI V6 a4 1 800:=ax.cell rfl
 have bk:yJ V6 s3 0 A3 1 c3:=ak.cell rfl
 have bl:yI V6 s3 1 1:=ak.cell rfl
 have bm:yJ V6 s6 0 A6 1 c6:=aL.cell rfl
 have bn:yI V6 s6 1 1:=aL.cell rfl
 obtain⟨f0,f1,f2,f3,f4,f5,f6,f7,f8,f9,a9,ba,bb⟩:=Y1 (aO _ aM)
 obtain⟨g0,g1,g2,g3,g4,g5,g6,g7,g8,g9,bc,bd,be⟩:=Y1 (ar _ aF)
 have bg:∀W:World,(binOp .eql 55 (.agg #[.int .i64 0,.int .i64 800]) (.agg #[.int .i64 0,.int .i64 800])).run prog W=.ok (.bool true) W:=fun W=>(VRb Z3 Z3 W).trans (by rw[J2 rfl])
 have aU:=yh (YC y1 p5 p1 V6 (aN _ aM) (aq _ aF))
 have aV:=yh (fun V (hV:yw V6 V)=>ZYa A6 A3 1 c6 1 c3 [YG] [YG] 1 1 V (a0.bel hV) ((ac _ am).bel hV))
 have aX:=yh ak
 have aY:=yh aL
 have aT:=yh (af.trans (aF.mono af.size))
 clear aQ am aF av aw ax ak aL a0 aM ap ay aH aK ar aO aN aq ac ah aG ad aj af
 go_wp2_with fail
 refine yM aU fun w7 au=>?_
 have aW:=yh (aV _ au)
 have bu:yJ w7 s3 0 A3 1 c3:=(aX.bel au).cell rfl
 have bv:yI w7 s3 1 1:=(aX.bel au).cell rfl
 have bw:yJ w7 s6 0 A6 1 c6:=(aY.bel au).cell rfl
 have bx:yI w7 s6 1 1:=(aY.bel au).cell rfl
 have aS:=yh (aT.trans (au.mono aT.size))
 clear au aU aV f0 f1 f2 f3 f4 f5 f6 f7 f8 f9 a9 ba bb g0 g1 g2 g3 g4 g5 g6 g7 g8 g9 bc bd be bo bp bq br bH bt bk bl bm bn bg
 go_wp2_with fail
 refine yM aW fun w8 aE=>?_
 have aI:=yh (aS.trans (aE.mono aS.size))
 have hd:decide ((1:Int)=1∧[YG]=[YG])=true:=J2 ⟨rfl,rfl⟩
 clear aE aW
 go_wp2_with fail
 go_ret
 exact⟨by first|rfl|simp[hd],aI⟩
end Go.Proofs.YtjdcokpmgionjaaGreat
