/-
  Words, laws and contracts: SameS, SameT.
-/
import Derived.Test.YtjdcokpmgionjaaGreatBun23
import Derived.BigQuiet
set_option linter.unusedSimpArgs false
set_option linter.unusedVariables false
set_option maxRecDepth 100000
set_option maxHeartbeats 20000000
namespace Go.Proofs.YtjdcokpmgionjaaGreat
open Go.RowKit Go.Shelf
theorem VEb (f u:Int)(W:World):(binOp .eql 51 (.agg #[.int .i64 f,.int .i64 u]) (.agg #[.int .i64 f,.int .i64 u])).run Tryz.prog W=.ok (.bool true) W:=by
 go_simp
theorem VDb (f u:Int)(W:World):(binOp .neq 138 (.agg #[.int .i64 f,.int .i64 u]) (.agg #[.int .i64 f,.int .i64 u])).run Tryz.prog W=.ok (.bool false) W:=by
 go_simp
theorem Ywb (s:List UInt8)(W:World):(binOp .neq 9 (Zb s) (Zb s)).run Tryz.prog W=.ok (.bool false) W:=by
 go_simp
theorem Yvb (s:List UInt8)(a b:Int)(l:Bool)(W:World):(binOp .neq 136 (.agg #[Zb s,.int .i64 a,.int .i64 b,.bool l]) (.agg #[Zb s,.int .i64 a,.int .i64 b,.bool l])).run Tryz.prog W=.ok (.bool false) W:=by
 go_simp
theorem ZOa (b:Bkg)(D:Option Addr)(U F:Nat)(E:Option Addr)(Q I:Nat)(w:World)(J:Sl Qw 3 w All D U F b.fol)(O:Sl Qw 3 w All E Q I b.fol) :
  Calls Tryz.prog 76 #[.agg (Qz b (.slice D U F)),.agg (Qz b (.slice E Q I))] w fun e w'=>e=.returned (.bool true)∧yw w w':=by
 obtain⟨id,ac,ad,aa,lev,Y,Z,af,upto,ae,A⟩:=b;simp only at J O;have V:=yh (fun X hX=>Vpa D E U F Q I A A X (J.bel hX) (O.bel hX));rw[decide_eq_true (rfl:A=A)]at V;clear J O
 have ab:=fun W=>VEb af upto W
 go_enter Tryz.func76,Tryz.ntmps76
 go_wp2_with fail
 refine(V.out _ (Zh w _ _)).mono ?_;rintro e w2 ⟨rfl,q,rfl⟩
 go_wp2_with fail
 go_ret
 exact⟨rfl,below_drewN (Zh _ _ _) _⟩
theorem Qra (x:Shp)(A:Option Addr)(n cap:Nat)(B:Option Addr)(m az:Nat)(A':Option Addr)(n' ay:Nat)(B':Option Addr)(D ac:Nat)(w:World)(h1:Sl Um 2 w All A n cap x.cats)(h2:Sl ZW 4 w All B m az x.cabs)(h3:Sl Um 2 w All A' n' ay x.cats)(h4:Sl ZW 4 w All B' D ac x.cabs) :
  Calls Tryz.prog 21 #[.agg #[.int .i64 x.legs,.int .i64 x.souls,.slice A n cap,.slice B m az],.agg #[.int .i64 x.legs,.int .i64 x.souls,.slice A' n' ay,.slice B' D ac]] w fun e w'=>e=.returned (.bool true)∧yw w w':=by
 obtain rfl:n'=n:=by rw[←h1.len,←h3.len]
 obtain rfl:D=m:=by rw[←h2.len,←h4.len]
 have av:=h1.bd;have au:=h2.bd;have H1:=yh h1;have H2:=yh h2;have H3:=yh h3;have H4:=yh h4;clear h1 h2 h3 h4
 go_enter Tryz.func21,Tryz.ntmps21
 go_upto_region 0 with(fail)
 go_cut [2,3,4] (fun p p2 _ wx=>∃g h,p=.pointer (some ⟨g,0,none⟩)∧p2=.pointer (some ⟨h,0,none⟩)∧Blk wx g #[.int .i64 x.legs,.int .i64 x.souls,.slice A n' cap,.slice B D az] 25∧Blk wx h #[.int .i64 x.legs,.int .i64 x.souls,.slice A' n' ay,.slice B' D ac] 25∧yw w wx)
 case first=>as_aux_lemma=>
  go_wp2_with fail
  go_meet
  exact⟨_,_,rfl,rfl,QA _ _ _,QB _ _ _,Zh _ _ _⟩
 obtain⟨g,h,rfl,rfl,Y,Z,af⟩:=hcut;obtain⟨I,al⟩:∃V,V=wc:=⟨_,rfl⟩;subst al;have HG:=yh (fun X (E:yw I X)=>Y.bel E);have HH:=yh (fun X (E:yw I X)=>Z.bel E);have HT:=yh (fun X (E:yw I X)=>af.trans (E.mono af.size));have g0:yI I g 0 x.legs:=Y.cell rfl;have g1:yI I g 1 x.souls:=Y.cell rfl;have g2:yJ I g 2 A n' cap:=Y.cell rfl;have g3:yJ I g 3 B D az:=Y.cell rfl;have k0:yI I h 0 x.legs:=Z.cell rfl;have k1:yI I h 1 x.souls:=Z.cell rfl;have k2:yJ I h 2 A' n' ay:=Z.cell rfl;have k3:yJ I h 3 B' D ac:=Z.cell rfl;clear Y Z af
 go_wp2_with fail
 clear g0 g1 g2 g3 k0 k1 k2 k3
 go_loopg [5] n' (fun gk i wr=>∃k:Nat,k≤n'∧n' - k≤gk∧i=.int .i64 k∧yw I wr)
 case atStart=>exact⟨0,Nat.zero_le _,by omega,rfl,Below.refl _ _⟩
 case round=>
  obtain⟨k,hk,an,rfl,F⟩:=hrel;have g2:yJ wr g 2 A n' cap:=(HG.out _ F).cell rfl
  by_cases hlt:k < n'
  ·obtain⟨ab,ax,y,c0,c1,hA,hx,⟨A5,n5,c5,J,ai,_⟩,e0,e1⟩:=(H1.out.bel (HT.out _ F)).at2 hlt
   simp only[List.cons.injEq,and_true]at J;obtain⟨rfl,rfl⟩:=J;obtain⟨Q,U,y2,c0,c1,ad,O,⟨A6,n6,c6,J,aj,_⟩,f0,f1⟩:=(H3.out.bel (HT.out _ F)).at2 hlt;simp only[List.cons.injEq,and_true]at J;obtain⟨rfl,rfl⟩:=J;rw[hx]at O
   injection O with O
   subst O;subst hA ad;obtain⟨nm,ah⟩:∃s,s=y.name:=⟨_,rfl⟩;rw[←ah]at e0 f0
   have aw:=fun W=>Ywb nm W
   have ao:(0:Int)≤(k:Int):=by omega
   have ap:(k:Int) < (n':Int):=by omega
   obtain⟨w1,aq⟩:∃V,V=wr:=⟨_,rfl⟩;subst aq
   have ag:=yh (show ∀w',yw w1 w'→(yJ w' g 2 (some ⟨ab,ax,none⟩) n' cap∧yJ w' h 2 (some ⟨Q,U,none⟩) n' ay∧w'.cell? ⟨ab,ax+k*2,none⟩=some (Zb nm)∧yJ w' ab (ax+k*2+1) A5 n5 c5∧w'.cell? ⟨Q,U+k*2,none⟩=some (Zb nm)∧yJ w' Q (U+k*2+1) A6 n6 c6)from fun w' E=>
    ⟨Qg E g2,Qg E ((HH.out _ F).cell rfl),Qg E e0,Qg E e1,Qg E f0,Qg E f1⟩)
   have HC:=yh (fun X (E:yw w1 X)=>XA A5 A6 n5 c5 n6 c6 y.high y.high X (ai.bel E) (aj.bel E));rw[decide_eq_true (rfl:y.high=y.high)]at HC;clear hx ai aj e0 e1 f0 f1 ah
   go_upto_region 6 with(fail)
   clear g2;have aa:yw w1 w1.drew:=(Below.refl _ _).drew;refine wp_region_held_drew (S:=(fun w'=>yJ w' g 2 (some ⟨ab,ax,none⟩) n' cap∧yJ w' h 2 (some ⟨Q,U,none⟩) n' ay∧w'.cell? ⟨ab,ax+k*2,none⟩=some (Zb nm)∧yJ w' ab (ax+k*2+1) A5 n5 c5∧w'.cell? ⟨Q,U+k*2,none⟩=some (Zb nm)∧yJ w' Q (U+k*2+1) A6 n6 c6)) (by kernel_rfl) (ag.out _ aa) (fun ak=>?_);refine yT [0,1,2,3,4,5,6,7,8,9,10,11,12,13,14,15,16,17,18,19,20,21,22,23,24,25] (by kernel_rfl) (by assumption) ?_
   iterate 26 (refine yS (v:=?_) (gA rfl) (fun _ _ _ h=>h) rfl ?_ ?_;rotate_left;(focus (intro w ae;(try dsimp only at ae);go_simp<;>with_reducible rfl));simp only[yP,yA,yB,yC])
   refine yR 26 (by kernel_rfl) (gA rfl) fun K hK=>?_
   go_simp
   (go_at_call 65;refine(HC.out _ aa).mono ?_;rintro e w5 ⟨rfl,q,hq⟩;replace aa:yw w1 w5:=(by rw[hq];exact below_drewN aa _);clear hq)
   go_wp2_with fail
   refine hK.out _ _ (ag.out _ aa) fun ak=>?_
   clear hK K
   try simp only[yP,yQ,yA,yB,yC]
   refine yT [27,28] (by kernel_rfl) (by assumption) ?_
   iterate 2 (refine yS (v:=?_) (gA rfl) (fun _ _ _ h=>h) rfl ?_ ?_;rotate_left;(focus (intro w ae;(try dsimp only at ae);go_simp<;>with_reducible rfl));simp only[yP,yA,yB,yC])
   refine wpAnyH_done (by kernel_rfl) ?_ _
   go_wp2_with fail
   go_roundg (n' - (k+1))
   case measure=>omega
   case rel=>exact⟨k+1,by omega,by omega,by go_num,F.trans (aa.mono F.size)⟩
  ·obtain rfl:k=n':=by omega
   go_wp2_with fail
   clear g2;obtain⟨W2,am⟩:∃V,V=wr:=⟨_,rfl⟩;subst am
   go_loopg [6] D (fun gk i wr=>∃k:Nat,k≤D∧D - k≤gk∧i=.int .i64 k∧yw I wr)
   case atStart=>exact⟨0,Nat.zero_le _,by omega,rfl,F⟩
   case round=>
    clear F;obtain⟨k,hk,an,rfl,F⟩:=hrel;have g3:yJ wr g 3 B D az:=(HG.out _ F).cell rfl
    by_cases hlt:k < D
    ·obtain⟨ab,ax,y,c0,c1,c2,c3,hA,hx,⟨J,_⟩,e0,e1,e2,e3⟩:=(H2.out.bel (HT.out _ F)).at4 hlt
     simp only[List.cons.injEq,and_true]at J;obtain⟨rfl,rfl,rfl,rfl⟩:=J;obtain⟨Q,U,y2,c0,c1,c2,c3,ad,O,⟨J,_⟩,f0,f1,f2,f3⟩:=(H4.out.bel (HT.out _ F)).at4 hlt;simp only[List.cons.injEq,and_true]at J;obtain⟨rfl,rfl,rfl,rfl⟩:=J;rw[hx]at O
     injection O with O
     subst O;subst hA ad;have k3:yJ wr h 3 (some ⟨Q,U,none⟩) D ac:=(HH.out _ F).cell rfl
     have ar:=fun W=>Yvb y.name y.cat y.ber y.lev W
     have ao:(0:Int)≤(k:Int):=by omega
     have ap:(k:Int) < (D:Int):=by omega
     clear hx
     go_upto_region 11 with(fail)
     go_quiet (fail)
     go_wp2_with fail
     go_roundg (D - (k+1))
     case measure=>omega
     case rel=>exact⟨k+1,by omega,by omega,by go_num,below_drewN F _⟩
    ·obtain rfl:k=D:=by omega
     go_wp2_with fail
     go_ret
     exact⟨rfl,HT.out _ F⟩
theorem YR (x:Fares)(A:Option Addr)(n cap:Nat)(B:Option Addr)(m aa:Nat)(A':Option Addr)(n' aw:Nat)(B':Option Addr)(D ax:Nat)(w:World)(h1:FareR w A n cap x B m aa)(h2:FareR w A' n' aw x B' D ax) :
  Calls Tryz.prog 22 #[.agg #[.slice A n cap,.int .i64 x.alone,.int .i64 x.third,.slice B m aa,.int .i64 x.down],.agg #[.slice A' n' aw,.int .i64 x.alone,.int .i64 x.third,.slice B' D ax,.int .i64 x.down]] w fun e w'=>e=.returned (.bool true)∧yw w w':=by
 obtain rfl:n'=n:=by rw[←h1.leg.len,←h2.leg.len]
 obtain rfl:D=m:=by rw[←h1.bands.len,←h2.bands.len]
 have au:=h1.leg.bd;have ar:=h1.bands.bd;have H1:=yh h1;have H2:=yh h2;clear h1 h2
 go_enter Tryz.func22,Tryz.ntmps22
 go_upto_region 0 with(fail)
 go_cut [2,3,4] (fun p p2 _ wx=>∃g h,p=.pointer (some ⟨g,0,none⟩)∧p2=.pointer (some ⟨h,0,none⟩)∧Blk wx g #[.slice A n' cap,.int .i64 x.alone,.int .i64 x.third,.slice B D aa,.int .i64 x.down] 29∧Blk wx h #[.slice A' n' aw,.int .i64 x.alone,.int .i64 x.third,.slice B' D ax,.int .i64 x.down] 29∧yw w wx)
 case first=>as_aux_lemma=>
  go_wp2_with fail
  go_meet
  exact⟨_,_,rfl,rfl,QA _ _ _,QB _ _ _,Zh _ _ _⟩
 obtain⟨g,h,rfl,rfl,Q,U,af⟩:=hcut;obtain⟨E,ak⟩:∃V,V=wc:=⟨_,rfl⟩;subst ak;have HG:=yh (fun X (I:yw E X)=>Q.bel I);have HH:=yh (fun X (I:yw E X)=>U.bel I);have HT:=yh (fun X (I:yw E X)=>af.trans (I.mono af.size));have g0:yJ E g 0 A n' cap:=Q.cell rfl;have g1:yI E g 1 x.alone:=Q.cell rfl;have g2:yI E g 2 x.third:=Q.cell rfl;have g3:yJ E g 3 B D aa:=Q.cell rfl;have g4:yI E g 4 x.down:=Q.cell rfl;have k0:yJ E h 0 A' n' aw:=U.cell rfl;have k1:yI E h 1 x.alone:=U.cell rfl;have k2:yI E h 2 x.third:=U.cell rfl;have k3:yJ E h 3 B' D ax:=U.cell rfl;have k4:yI E h 4 x.down:=U.cell rfl;clear Q U af
 go_wp2_with fail
 clear g0 g1 g2 g3 g4 k0 k1 k2 k3 k4
 go_loopg [5] n' (fun gk i wr=>∃k:Nat,k≤n'∧n' - k≤gk∧i=.int .i64 k∧yw E wr)
 case atStart=>exact⟨0,Nat.zero_le _,by omega,rfl,Below.refl _ _⟩
 case round=>
  obtain⟨k,hk,am,rfl,F⟩:=hrel;have g0:yJ wr g 0 A n' cap:=(HG.out _ F).cell rfl
  by_cases hlt:k < n'
  ·obtain⟨ab,ac,y,c0,hA,hx,⟨A5,n5,c5,J,ah⟩,e0⟩:=(H1.out.leg.below (Zt Qb (by omega)) (by omega) (HT.out _ F)).at1 hlt
   simp only[List.cons.injEq,and_true]at J;subst J;obtain⟨av,Z,y2,c0,ad,O,⟨A6,n6,c6,J,ai⟩,f0⟩:=(H2.out.leg.below (Zt Qb (by omega)) (by omega) (HT.out _ F)).at1 hlt;simp only[List.cons.injEq,and_true]at J;subst J;rw[hx]at O
   injection O with O
   subst O;subst hA ad
   have an:(0:Int)≤(k:Int):=by omega
   have ao:(k:Int) < (n':Int):=by omega
   obtain⟨w1,ap⟩:∃V,V=wr:=⟨_,rfl⟩;subst ap
   have ag:=yh (show ∀w',yw w1 w'→(yJ w' g 0 (some ⟨ab,ac,none⟩) n' cap∧yJ w' h 0 (some ⟨av,Z,none⟩) n' aw∧yJ w' ab (ac+k) A5 n5 c5∧yJ w' av (Z+k) A6 n6 c6)from fun w' I=>
    ⟨Qg I g0,Qg I ((HH.out _ F).cell rfl),Qg I e0,Qg I f0⟩)
   have HC:=yh (fun X (I:yw w1 X)=>XA A5 A6 n5 c5 n6 c6 y y X (ah.bel I) (ai.bel I));rw[decide_eq_true (rfl:y=y)]at HC;clear hx ah ai e0 f0
   go_upto_region 6 with(fail)
   clear g0;have Y:yw w1 w1.drew:=(Below.refl _ _).drew;refine wp_region_held_drew (S:=(fun w'=>yJ w' g 0 (some ⟨ab,ac,none⟩) n' cap∧yJ w' h 0 (some ⟨av,Z,none⟩) n' aw∧yJ w' ab (ac+k) A5 n5 c5∧yJ w' av (Z+k) A6 n6 c6)) (by kernel_rfl) (ag.out _ Y) (fun aj=>?_);refine yT [0,1,2,3,4,5,6,7,8,9] (by kernel_rfl) (by assumption) ?_
   iterate 10 (refine yS (v:=?_) (gA rfl) (fun _ _ _ h=>h) rfl ?_ ?_;rotate_left;(focus (intro w ae;(try dsimp only at ae);go_simp<;>with_reducible rfl));simp only[yP,yA,yB,yC])
   refine yR 10 (by kernel_rfl) (gA rfl) fun K hK=>?_
   go_simp
   (go_at_call 65;refine(HC.out _ Y).mono ?_;rintro e w5 ⟨rfl,q,hq⟩;replace Y:yw w1 w5:=(by rw[hq];exact below_drewN Y _);clear hq)
   go_wp2_with fail
   refine hK.out _ _ (ag.out _ Y) fun aj=>?_
   clear hK K
   try simp only[yP,yQ,yA,yB,yC]
   refine yT [11] (by kernel_rfl) (by assumption) ?_
   iterate 1 (refine yS (v:=?_) (gA rfl) (fun _ _ _ h=>h) rfl ?_ ?_;rotate_left;(focus (intro w ae;(try dsimp only at ae);go_simp<;>with_reducible rfl));simp only[yP,yA,yB,yC])
   refine wpAnyH_done (by kernel_rfl) ?_ _
   go_wp2_with fail
   go_roundg (n' - (k+1))
   case measure=>omega
   case rel=>exact⟨k+1,by omega,by omega,by go_num,F.trans (Y.mono F.size)⟩
  ·obtain rfl:k=n':=by omega
   go_wp2_with fail
   clear g0;obtain⟨W2,al⟩:∃V,V=wr:=⟨_,rfl⟩;subst al
   go_loopg [6] D (fun gk i wr=>∃k:Nat,k≤D∧D - k≤gk∧i=.int .i64 k∧yw E wr)
   case atStart=>exact⟨0,Nat.zero_le _,by omega,rfl,F⟩
   case round=>
    clear F;obtain⟨k,hk,am,rfl,F⟩:=hrel;have g3:yJ wr g 3 B D aa:=(HG.out _ F).cell rfl
    by_cases hlt:k < D
    ·obtain⟨ab,ac,y,c0,c1,hA,hx,⟨J,_⟩,e0,e1⟩:=(H1.out.bands.below Qs (by omega) (HT.out _ F)).at2 hlt
     simp only[List.cons.injEq,and_true]at J;obtain⟨rfl,rfl⟩:=J;obtain⟨av,Z,y2,c0,c1,ad,O,⟨J,_⟩,f0,f1⟩:=(H2.out.bands.below Qs (by omega) (HT.out _ F)).at2 hlt;simp only[List.cons.injEq,and_true]at J;obtain⟨rfl,rfl⟩:=J;rw[hx]at O
     injection O with O
     subst O;subst hA ad;have k3:yJ wr h 3 (some ⟨av,Z,none⟩) D ax:=(HH.out _ F).cell rfl
     have aq:=fun W=>VDb y.days y.part W
     have an:(0:Int)≤(k:Int):=by omega
     have ao:(k:Int) < (D:Int):=by omega
     clear hx
     go_upto_region 11 with(fail)
     go_quiet (fail)
     go_wp2_with fail
     go_roundg (D - (k+1))
     case measure=>omega
     case rel=>exact⟨k+1,by omega,by omega,by go_num,below_drewN F _⟩
    ·obtain rfl:k=D:=by omega
     go_wp2_with fail
     go_ret
     exact⟨rfl,HT.out _ F⟩
theorem Z7 {w:World}{g:Nat}{x:Sai}{p:SaiV}{t:TypeId}(h:Blk w g (Qa x p) t):yI w g 0 x.ship.legs∧yI w g 1 x.ship.souls∧yJ w g 2 p.A p.n p.cap∧yJ w g 3 p.B p.m p.cap2∧yJ w g 4 p.D p.nd p.cd∧yI w g 5 x.fares.alone∧yI w g 6 x.fares.third∧yJ w g 7 p.E p.ne p.ce∧yI w g 8 x.fares.down∧yI w g 9 x.day∧yI w g 10 x.leaves∧yJ w g 11 p.C p.nb p.cb∧w.cell? ⟨g,12,none⟩=some (.bool x.closed):=
 ⟨h.cell rfl,h.cell rfl,h.cell rfl,h.cell rfl,h.cell rfl,h.cell rfl,h.cell rfl,h.cell rfl,h.cell rfl,h.cell rfl,h.cell rfl,h.cell rfl,h.cell rfl⟩
theorem U9 (x:Sai)(p q:SaiV)(w:World)(h1:SaiR w x p)(h2:SaiR w x q) :
  Calls Tryz.prog 18 #[.agg (Qa x p),.agg (Qa x q)] w fun e w'=>e=.returned (.bool true)∧yw w w':=by
 have ak:=yh (fun X (k1:SaiR X x p) (Y:SaiR X x q)=>Qra x.ship p.A p.n p.cap p.B p.m p.cap2 q.A q.n q.cap q.B q.m q.cap2 X k1.cats k1.cabs Y.cats Y.cabs);have aj:=yh (fun X (k1:SaiR X x p) (Y:SaiR X x q)=>YR x.fares p.D p.nd p.cd p.E p.ne p.ce q.D q.nd q.cd q.E q.ne q.ce X k1.fares Y.fares);obtain⟨A,n,cap,B,m,am,D,nd,cd,E,ne,ce,C,F,cb⟩:=p;obtain⟨A',n',al,B',m',an,D',aC,ao,E',aD,ap,C',aP,aa⟩:=q
 obtain rfl:F=aP:=by rw[show F=x.bks.length from h1.bks.len.symm];exact h2.bks.len
 have aK:=h1.bks.bd;simp only at ak aj aK;have H1:=yh h1;have H2:=yh h2;clear h1 h2
 go_enter Tryz.func18,Tryz.ntmps18
 go_upto_region 0 with(fail)
 go_cut [2,3,4] (fun p p2 _ wx=>∃g h,p=.pointer (some ⟨g,0,none⟩)∧p2=.pointer (some ⟨h,0,none⟩)∧Blk wx g (Qa x ⟨A,n,cap,B,m,am,D,nd,cd,E,ne,ce,C,F,cb⟩) 32∧Blk wx h (Qa x ⟨A',n',al,B',m',an,D',aC,ao,E',aD,ap,C',F,aa⟩) 32∧yw w wx)
 case first=>as_aux_lemma=>
  go_wp2_with fail
  go_meet
  exact⟨_,_,rfl,rfl,QA _ _ _,QB _ _ _,Zh _ _ _⟩
 obtain⟨g,h,rfl,rfl,hG,hH,ai⟩:=hcut;obtain⟨W1,aI⟩:∃V,V=wc:=⟨_,rfl⟩;subst aI;have HG:=yh (fun X (I:yw W1 X)=>hG.bel I);have HH:=yh (fun X (I:yw W1 X)=>hH.bel I);have HT:=yh (fun X (I:yw W1 X)=>ai.trans (I.mono ai.size));have ae:=yh (fun X (I:yw W1 X)=>H1.out.bel (HT.out X I));have af:=yh (fun X (I:yw W1 X)=>H2.out.bel (HT.out X I));clear hG hH ai;have J:yw W1 W1:=Below.refl _ _
 go_upto_region 1 with(fail)
 go_cut [49] (fun p wx=>p=.bool false∧yw W1 wx)
 case first=>as_aux_lemma=>
  have hG:=HG.out _ J;have hH:=HH.out _ J;have s0:yI W1 g 0 x.ship.legs:=hG.cell rfl;have s1:yI W1 g 1 x.ship.souls:=hG.cell rfl;have s2:yJ W1 g 2 A n cap:=hG.cell rfl;have s3:yJ W1 g 3 B m am:=hG.cell rfl;have s4:yJ W1 g 4 D nd cd:=hG.cell rfl;have s5:yI W1 g 5 x.fares.alone:=hG.cell rfl;have s6:yI W1 g 6 x.fares.third:=hG.cell rfl;have s7:yJ W1 g 7 E ne ce:=hG.cell rfl;have s8:yI W1 g 8 x.fares.down:=hG.cell rfl;have s9:yI W1 g 9 x.day:=hG.cell rfl;have aQ:yI W1 g 10 x.leaves:=hG.cell rfl;have aR:yJ W1 g 11 C F cb:=hG.cell rfl;have aS:W1.cell? ⟨g,12,none⟩=some (.bool x.closed):=hG.cell rfl;have k0:yI W1 h 0 x.ship.legs:=hH.cell rfl;have k1:yI W1 h 1 x.ship.souls:=hH.cell rfl;have Y:yJ W1 h 2 A' n' al:=hH.cell rfl;have k3:yJ W1 h 3 B' m' an:=hH.cell rfl;have k9:yI W1 h 9 x.day:=hH.cell rfl;have aM:yI W1 h 10 x.leaves:=hH.cell rfl;have aN:yJ W1 h 11 C' F aa:=hH.cell rfl;have aO:W1.cell? ⟨h,12,none⟩=some (.bool x.closed):=hH.cell rfl;have U:=yh (ak.out _ (ae.out _ J) (af.out _ J));clear hG hH
  go_wp2_with fail
  refine U.out.mono ?_;rintro e O ⟨rfl,W⟩;have hG:=HG.out _ W;have hH:=HH.out _ W;clear s0 s1 s2 s3 s4 s5 s6 s7 s8 s9 aQ aR aS k0 k1 Y k3 k9 aM aN aO U;have s4:yJ O g 4 D nd cd:=hG.cell rfl;have s5:yI O g 5 x.fares.alone:=hG.cell rfl;have s6:yI O g 6 x.fares.third:=hG.cell rfl;have s7:yJ O g 7 E ne ce:=hG.cell rfl;have s8:yI O g 8 x.fares.down:=hG.cell rfl;have k4:yJ O h 4 D' aC ao:=hH.cell rfl;have k5:yI O h 5 x.fares.alone:=hH.cell rfl;have k6:yI O h 6 x.fares.third:=hH.cell rfl;have k7:yJ O h 7 E' aD ap:=hH.cell rfl;have k8:yI O h 8 x.fares.down:=hH.cell rfl;have U:=yh (aj.out _ (ae.out _ W) (af.out _ W));clear hG hH
  go_wp2_with fail
  refine U.out.mono ?_;rintro e w3 ⟨rfl,aJ⟩
  go_wp2_with fail
  go_meet
  exact⟨rfl,W.trans (aJ.mono W.size)⟩
 obtain⟨rfl,aw⟩:=hcut;replace J:=aw;clear aw
 go_wp2_with fail
 go_loopg [5] F (fun gk i wr=>∃k:Nat,k≤F∧F - k≤gk∧i=.int .i64 k∧yw W1 wr)
 case atStart=>exact⟨0,Nat.zero_le _,by omega,rfl,J⟩
 case round=>
  clear J;obtain⟨k,hk,aT,rfl,J⟩:=hrel;have aq:yJ wr g 11 C F cb:=(HG.out _ J).cell rfl
  by_cases hlt:k < F
  ·obtain⟨ab,aX,b,A3,n3,c3,hA,hx,hF,-,ay⟩:=(ae.out _ J).bks.bkg hlt
   obtain⟨aW,Z,b2,B3,m3,d3,au,ad,av,-,az⟩:=(af.out _ J).bks.bkg hlt;rw[hx]at ad
   injection ad with ad
   subst ad;simp only at hA au;subst hA au;obtain⟨w1,aL⟩:∃V,V=wr:=⟨_,rfl⟩;subst aL;have ar:yJ w1 h 11 (some ⟨aW,Z,none⟩) F aa:=(HH.out _ J).cell rfl;have r1:w1.rangeAt ab (aX+k*11) (Qz b (.slice A3 n3 c3)).toList:=ay;have r2:w1.rangeAt aW (Z+k*11) (Qz b (.slice B3 m3 d3)).toList:=az;have aG:=yh r1;have aH:=yh r2;have ac:=yh (show ∀w',yw w1 w'→(yJ w' g 11 (some ⟨ab,aX,none⟩) F cb∧yJ w' h 11 (some ⟨aW,Z,none⟩) F aa)from fun w' I=>⟨Qg I aq,Qg I ar⟩);have U:=yh (fun X (I:yw w1 X)=>ZOa b A3 n3 c3 B3 m3 d3 X (hF.bel I) (av.bel I))
   have aU:(0:Int)≤(k:Int):=by omega
   have aV:(k:Int) < (F:Int):=by omega
   clear hx hF av ay az r1 r2 ar
   go_upto_region 6 with(fail)
   clear aq;have Q:yw w1 w1.drew:=(Below.refl _ _).drew
   have aA:w1.drew.rangeAt ab (aX+k*11) (Qz b (.slice A3 n3 c3)).toList:=by rw[World.rangeAt_drew];exact aG.out
   have aB:w1.drew.rangeAt aW (Z+k*11) (Qz b (.slice B3 m3 d3)).toList:=by rw[World.rangeAt_drew];exact aH.out
   have aE:=yh aA;have aF:=yh aB;clear aA aB;refine wp_region_held_drew (S:=(fun w'=>yJ w' g 11 (some ⟨ab,aX,none⟩) F cb∧yJ w' h 11 (some ⟨aW,Z,none⟩) F aa)) (by kernel_rfl) (ac.out _ Q) (fun ag=>?_);refine yT [0,1,2,3,5,6,7,8] (by kernel_rfl) (by assumption) ?_
   iterate 8 (refine yS (v:=?_) (gA rfl) (fun _ _ _ h=>h) rfl ?_ ?_;rotate_left;(focus (intro w ah;(try dsimp only at ah);go_simp<;>with_reducible rfl));simp only[yP,yA,yB,yC])
   focus
    refine Qja 4 9 (by kernel_rfl) (gA rfl) (gA rfl) (fun K k4=>?_) (fun K k9=>?_)
    repeat first
     |
      revert k4
      intro hK
      (refine YZ rfl 63 (.tmp 60) rfl ab (aX+k*11) rfl (Qz b (.slice A3 n3 c3)).toList _ aE.out Tryz.underlying63 (by kernel_rfl) (by kernel_rfl) ?_)
      refine hK.out _ _ (ac.out _ Q) fun ag=>?_
      clear hK K
      try simp only[yP,yQ,yA,yB,yC]
      first
       | refine UF 9 (by(fail_if_success (fail_if_success decide +kernel));kernel_rfl) (gA rfl) (fun K k9=>?_)
       | rotate_left
     |
      revert k9
      intro hK
      (refine YZ rfl 63 (.tmp 65) rfl aW (Z+k*11) rfl (Qz b (.slice B3 m3 d3)).toList _ aF.out Tryz.underlying63 (by kernel_rfl) (by kernel_rfl) ?_)
      refine hK.out _ _ (ac.out _ Q) fun ag=>?_
      clear hK K
      try simp only[yP,yQ,yA,yB,yC]
      first
       | refine UF 4 (by(fail_if_success (fail_if_success decide +kernel));kernel_rfl) (gA rfl) (fun K k4=>?_)
       | rotate_left
    all_goals
     refine yR 10 (by kernel_rfl) (gA rfl) fun K hK=>?_
     go_simp
     (go_at_call 76;refine(U.out _ Q).mono ?_;rintro e w5 ⟨rfl,ax⟩;replace Q:=Q.trans (ax.mono Q.size);clear ax)
     go_wp2_with fail
     refine hK.out _ _ (ac.out _ Q) fun ag=>?_
     clear hK K
     try simp only[yP,yQ,yA,yB,yC]
     refine yT [11] (by kernel_rfl) (by assumption) ?_
     iterate 1 (refine yS (v:=?_) (gA rfl) (fun _ _ _ h=>h) rfl ?_ ?_;rotate_left;(focus (intro w ah;(try dsimp only at ah);go_simp<;>with_reducible rfl));simp only[yP,yA,yB,yC])
     refine wpAnyH_done (by kernel_rfl) ?_ _
     go_wp2_with fail
     go_roundg (F - (k+1))
     case measure=>omega
     case rel=>exact⟨k+1,by omega,by omega,by go_num,J.trans (Q.mono J.size)⟩
  ·obtain rfl:k=F:=by omega
   go_wp2_with fail
   go_ret
   exact⟨rfl,HT.out _ J⟩
end Go.Proofs.YtjdcokpmgionjaaGreat
