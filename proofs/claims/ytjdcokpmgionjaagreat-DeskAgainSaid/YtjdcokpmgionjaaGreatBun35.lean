/-
  Words, laws and contracts: DeskO, DeskP, DeskQ.
-/
import Derived.Test.YtjdcokpmgionjaaGreatBun6
import Derived.Test.YtjdcokpmgionjaaGreatBun27
import Derived.Test.YtjdcokpmgionjaaGreatBun29
import Derived.Test.YtjdcokpmgionjaaGreatBun34
import Derived.BigQuiet
set_option linter.unusedSimpArgs false
set_option linter.unusedVariables false
set_option maxRecDepth 100000
set_option maxHeartbeats 20000000
namespace Go.Proofs.YtjdcokpmgionjaaGreat
open Go.RowKit Go.Shelf
def Zwa (x:Sai) (a:Ask):Prop:=Xb a∧InI x.ship.legs
theorem U8b:MadeC (fun x a=>a.kind=2∧Zwa x a) ⟨fun x a=>U5 x (Zm x a),fun x a=>Us x (Zm x a) 2⟩:=by
 intro x p a g w hS hG ⟨J,hA,hl⟩
 show Calls _ _ _ _ fun e w'=>Vz w' w.heap.size (Us x (Zm x a) 2) (U5 x (Zm x a)) e∧_
 have hI:=UDa hA hl;have Q:=yh (fun X hX=>X8a x p (Zm x a) none 0 0 X hX (by rw[VVa];exact Sl.nil _ _ _ _) hI);have ay:=yh (fun X hX=>ZBa x p a g X hX);obtain⟨bo,ak⟩:∃b,b=Zm x a:=⟨_,rfl⟩;rw[←ak]at Q ay ⊢;obtain⟨R,hR⟩:∃r,r=Us x bo 2:=⟨_,rfl⟩;obtain⟨Y,hY⟩:∃r,r=U5 x bo:=⟨_,rfl⟩;rw[←hR,←hY]at Q ⊢;clear hI;have HS:=yh hS;have Z:=yh (fun X (hX:yw w X)=>hG.bel hX);have aq:=hG.lt;clear ak hR hY hA hl hS hG;obtain⟨A,n,cap,B,m,ah,D,nd,cd,E,ne,ce,C,nb,cb⟩:=p
 go_enter Tryz.func172,Tryz.ntmps172
 go_upto_region 0 with(fail)
 go_cut [3,4,5] (fun p p2 p3 wx=>∃c z,p=.pointer (some ⟨c,0,none⟩)∧p2=.pointer (some ⟨z,0,none⟩)∧p3=.int .i64 0∧w.heap.size≤z∧w.heap.size≤c∧c≠z∧AskAt wx c a∧Blk wx z #[.int .i64 0,.int .i64 0,.slice none 0 0,.slice none 0 0,.slice none 0 0,.int .i64 0,.int .i64 0,.slice none 0 0,.int .i64 0,.int .i64 0,.int .i64 0,.slice none 0 0,.bool false] 32∧yw w wx)
 case first=>
  clear Q ay Z HS
  go_wp2_with fail
  go_meet
  exact⟨_,_,rfl,rfl,rfl,by omega,by omega,by omega,QA _ _ _,QB _ _ _,Zh _ _ _⟩
 obtain⟨c,z,rfl,rfl,rfl,hz,ap,an,hC,hZ,hb⟩:=hcut;obtain⟨I,al⟩:∃V,V=wc:=⟨_,rfl⟩;subst al;have av:=hZ.lt
 have ao:g≠z:=by omega
 have O:=yh (show ∀X,Kept (fun k=>k=z) I X→(fun w'=>yI w' g 0 x.ship.legs∧yI w' g 1 x.ship.souls∧yJ w' g 2 A n cap∧yJ w' g 3 B m ah∧yJ w' g 4 D nd cd∧yI w' g 5 x.fares.alone∧yI w' g 6 x.fares.third∧yJ w' g 7 E ne ce∧yI w' g 8 x.fares.down∧yI w' g 9 x.day∧yI w' g 10 x.leaves∧yJ w' g 11 C nb cb∧w'.cell? ⟨g,12,none⟩=some (.bool x.closed)∧yI w' c 0 a.number∧yI w' c 1 a.kind∧yI w' c 2 a.id∧yI w' c 3 a.guests∧w'.cell? ⟨c,4,none⟩=some (.bool a.level)∧yI w' c 5 a.cabin∧yI w' c 6 a.category∧yI w' c 7 a.frm∧yI w' c 8 a.upto∧yI w' c 9 a.til∧yI w' c 10 a.amount) X from fun X hX=>by
  have hg:=(Z.out _ hb).kept hX ao;have F:Blk X c (Q1 a) 53:=Blk.kept hC hX an;exact⟨hg.cell rfl,hg.cell rfl,hg.cell rfl,hg.cell rfl,hg.cell rfl,hg.cell rfl,hg.cell rfl,hg.cell rfl,hg.cell rfl,hg.cell rfl,hg.cell rfl,hg.cell rfl,hg.cell rfl,F.cell rfl,F.cell rfl,F.cell rfl,F.cell rfl,F.cell rfl,F.cell rfl,F.cell rfl,F.cell rfl,F.cell rfl,F.cell rfl,F.cell rfl⟩)
 have c1:yI I c 1 a.kind:=hC.all.2.1
 have q1:(a.kind == 1)=false:=by rw[J];rfl
 have q2:(a.kind == 2)=true:=by rw[J];rfl
 clear J;have HB:=yh hb;clear hb;have HZ:=yh hZ;clear hZ;have ac:=Q.out;simp only[Qa]at ac;have ab:=ay.out;simp only[Q1]at ab;have ag:=yh ac;have ae:=yh ab;clear ac ab Q ay;have HT:=yh (fun X (hX:yw I X)=>HB.out.trans (hX.mono HB.out.size));clear hC
 go_upto_region 5 with(fail)
 clear c1 q1 q2;have aw:yw I I.drew:=(Below.refl _ I).drew
 have W:=fun X (hX:yw I X)=>Kept.of_below (S:=fun k=>k=z) hX (fun k J h=>by omega)
 refine wp_region_held_drew (S:=(fun w'=>yI w' g 0 x.ship.legs∧yI w' g 1 x.ship.souls∧yJ w' g 2 A n cap∧yJ w' g 3 B m ah∧yJ w' g 4 D nd cd∧yI w' g 5 x.fares.alone∧yI w' g 6 x.fares.third∧yJ w' g 7 E ne ce∧yI w' g 8 x.fares.down∧yI w' g 9 x.day∧yI w' g 10 x.leaves∧yJ w' g 11 C nb cb∧w'.cell? ⟨g,12,none⟩=some (.bool x.closed)∧yI w' c 0 a.number∧yI w' c 1 a.kind∧yI w' c 2 a.id∧yI w' c 3 a.guests∧w'.cell? ⟨c,4,none⟩=some (.bool a.level)∧yI w' c 5 a.cabin∧yI w' c 6 a.category∧yI w' c 7 a.frm∧yI w' c 8 a.upto∧yI w' c 9 a.til∧yI w' c 10 a.amount)) (by kernel_rfl) (O.out _ (W _ aw)) (fun aa=>?_);refine yT [0,1,2,3,4,5] (by kernel_rfl) (by assumption) ?_
 iterate 6 (refine yS (v:=?_) (gA rfl) (fun _ _ _ h=>h) rfl ?_ ?_;rotate_left;(focus (intro w U;(try dsimp only at U);go_simp<;>with_reducible rfl));simp only[yP,yA,yB,yC])
 refine yR 6 (by kernel_rfl) (gA rfl) fun K hK=>?_
 go_simp
 (go_at_call 223;refine(ae.out _ (Z.out _ (HT.out _ aw))).mono ?_;rintro e w6 ⟨rfl,aj⟩;replace aw:=aw.trans (aj.mono aw.size);clear aj)
 go_wp2_with fail
 refine hK.out _ _ (O.out _ (W _ aw)) fun aa=>?_
 clear hK K
 try simp only[yP,yQ,yA,yB,yC]
 refine yR 7 (by kernel_rfl) (gA rfl) fun K hK=>?_
 go_simp
 (go_at_call 33;refine(ag.out _ (HS.out.bel (HT.out _ aw))).mono ?_;rintro e w7 ⟨⟨y,p',rfl,hy,hO⟩,ax⟩;have ar:=aw.size;replace aw:=aw.trans (ax.mono aw.size);have HO:=yh hO;have HY:=yh hy;clear ax hO hy)
 go_wp2_with fail
 refine hK.out _ _ (O.out _ (W _ aw)) fun aa=>?_
 clear hK K
 try simp only[yP,yQ,yA,yB,yC]
 refine yT [8,9] (by kernel_rfl) (by assumption) ?_
 iterate 2 (refine yS (v:=?_) (gA rfl) (fun _ _ _ h=>h) rfl ?_ ?_;rotate_left;(focus (intro w U;(try dsimp only at U);go_simp<;>with_reducible rfl));simp only[yP,yA,yB,yC])
 refine yR 10 (by kernel_rfl) (gA rfl) fun K hK=>?_
 (refine wp_store_row 32 (.tmp 4) (.tmp 33) rfl _ (Qa y p') rfl rfl 32 _ (HZ.out.bel aw) (by kernel_rfl) rfl (by simp[Value.oneCell']) ?_)
 refine hK.out _ _ (O.out _ ((W _ aw).setRow (.inl rfl) _)) fun aa=>?_
 clear hK K
 try simp only[yP,yQ,yA,yB,yC]
 refine yT [11] (by kernel_rfl) (by assumption) ?_
 iterate 1 (refine yS (v:=?_) (gA rfl) (fun _ _ _ h=>h) rfl ?_ ?_;rotate_left;(focus (intro w U;(try dsimp only at U);go_simp<;>with_reducible rfl));simp only[yP,yA,yB,yC])
 refine wpAnyH_done (by kernel_rfl) ?_ _;have am:=HZ.out.bel aw;have ai:Kept (fun k=>k=z) _ (World.setRow _ z (Qa y p')):=(Kept.refl (fun k=>k=z) w7).setRow (.inl rfl) _;have ax:=HT.out _ aw;have af:=yh ai;clear ai;have ad:=yh ax;clear ax;have au:=HB.out.size;clear O W aw HT HB Z HS ag ae
 go_wp2_with fail
 refine bodyPost_ret (v:=.tuple #[.agg (Qa y p'),.int .i64 R]) ((am.row _).ret2 (k:=4) (u:=5) (by kernel_rfl) rfl rfl Tryz.underlying32 (by kernel_rfl) (by kernel_rfl)) rfl ?_;exact⟨⟨y,p',rfl,HY.out,(HO.out.kept af.out (fun k J e=>by omega)).mono (by omega)⟩,ad.out.trans (af.out.below (B:=w.heap.size) ad.out.size (fun k J e=>by omega))⟩
theorem U9b:MadeC (fun x a=>a.kind=3∧Zwa x a) ⟨fun x a=>YA x a.id,fun x a=>Yz x a.id⟩:=by
 intro x p a g w hS hG ⟨J,hA,hl⟩
 show Calls _ _ _ _ fun e w'=>Vz w' w.heap.size (Yz x a.id) (YA x a.id) e∧_
 have W:=yh (fun X F=>V6b x p a.id X F hA.2.2.1);obtain⟨R,hR⟩:∃r,r=Yz x a.id:=⟨_,rfl⟩;obtain⟨Y,hY⟩:∃r,r=YA x a.id:=⟨_,rfl⟩;rw[←hR,←hY]at W ⊢;have HS:=yh hS;have Z:=yh (fun X (F:yw w X)=>hG.bel F);have am:=hG.lt;clear hR hY hA hl hS hG;obtain⟨A,n,cap,B,m,ae,D,nd,cd,E,ne,ce,C,nb,cb⟩:=p
 go_enter Tryz.func172,Tryz.ntmps172
 go_upto_region 0 with(fail)
 go_cut [3,4,5] (fun p p2 p3 wx=>∃c z,p=.pointer (some ⟨c,0,none⟩)∧p2=.pointer (some ⟨z,0,none⟩)∧p3=.int .i64 0∧w.heap.size≤z∧w.heap.size≤c∧c≠z∧AskAt wx c a∧Blk wx z #[.int .i64 0,.int .i64 0,.slice none 0 0,.slice none 0 0,.slice none 0 0,.int .i64 0,.int .i64 0,.slice none 0 0,.int .i64 0,.int .i64 0,.int .i64 0,.slice none 0 0,.bool false] 32∧yw w wx)
 case first=>
  clear W Z HS
  go_wp2_with fail
  go_meet
  exact⟨_,_,rfl,rfl,rfl,by omega,by omega,by omega,QA _ _ _,QB _ _ _,Zh _ _ _⟩
 obtain⟨c,z,rfl,rfl,rfl,hz,al,aj,hC,hZ,hb⟩:=hcut;obtain⟨I,ah⟩:∃V,V=wc:=⟨_,rfl⟩;subst ah;have ap:=hZ.lt
 have ak:g≠z:=by omega
 have HK:=yh (show ∀X,Kept (fun k=>k=z) I X→(fun w'=>yI w' g 0 x.ship.legs∧yI w' g 1 x.ship.souls∧yJ w' g 2 A n cap∧yJ w' g 3 B m ae∧yJ w' g 4 D nd cd∧yI w' g 5 x.fares.alone∧yI w' g 6 x.fares.third∧yJ w' g 7 E ne ce∧yI w' g 8 x.fares.down∧yI w' g 9 x.day∧yI w' g 10 x.leaves∧yJ w' g 11 C nb cb∧w'.cell? ⟨g,12,none⟩=some (.bool x.closed)∧yI w' c 0 a.number∧yI w' c 1 a.kind∧yI w' c 2 a.id∧yI w' c 3 a.guests∧w'.cell? ⟨c,4,none⟩=some (.bool a.level)∧yI w' c 5 a.cabin∧yI w' c 6 a.category∧yI w' c 7 a.frm∧yI w' c 8 a.upto∧yI w' c 9 a.til∧yI w' c 10 a.amount) X from fun X F=>by
  have hg:=(Z.out _ hb).kept F ak;have hc:Blk X c (Q1 a) 53:=Blk.kept hC F aj;exact⟨hg.cell rfl,hg.cell rfl,hg.cell rfl,hg.cell rfl,hg.cell rfl,hg.cell rfl,hg.cell rfl,hg.cell rfl,hg.cell rfl,hg.cell rfl,hg.cell rfl,hg.cell rfl,hg.cell rfl,hc.cell rfl,hc.cell rfl,hc.cell rfl,hc.cell rfl,hc.cell rfl,hc.cell rfl,hc.cell rfl,hc.cell rfl,hc.cell rfl,hc.cell rfl,hc.cell rfl⟩)
 have c1:yI I c 1 a.kind:=hC.all.2.1
 have q1:(a.kind == 1)=false:=by rw[J];rfl
 have q2:(a.kind == 2)=false:=by rw[J];rfl
 have q3:(a.kind == 3)=true:=by rw[J];rfl
 clear J;have U:=yh hb;clear hb;have HZ:=yh hZ;clear hZ;have aa:=W.out;simp only[Qa]at aa;have ad:=yh aa;clear aa W;have HT:=yh (fun X (F:yw I X)=>U.out.trans (F.mono U.out.size));clear hC
 go_upto_region 7 with(fail)
 clear c1 q1 q2 q3;have aq:yw I I.drew:=(Below.refl _ I).drew
 have ar:=fun X (F:yw I X)=>Kept.of_below (S:=fun k=>k=z) F (fun k J h=>by omega)
 refine wp_region_held_drew (S:=(fun w'=>yI w' g 0 x.ship.legs∧yI w' g 1 x.ship.souls∧yJ w' g 2 A n cap∧yJ w' g 3 B m ae∧yJ w' g 4 D nd cd∧yI w' g 5 x.fares.alone∧yI w' g 6 x.fares.third∧yJ w' g 7 E ne ce∧yI w' g 8 x.fares.down∧yI w' g 9 x.day∧yI w' g 10 x.leaves∧yJ w' g 11 C nb cb∧w'.cell? ⟨g,12,none⟩=some (.bool x.closed)∧yI w' c 0 a.number∧yI w' c 1 a.kind∧yI w' c 2 a.id∧yI w' c 3 a.guests∧w'.cell? ⟨c,4,none⟩=some (.bool a.level)∧yI w' c 5 a.cabin∧yI w' c 6 a.category∧yI w' c 7 a.frm∧yI w' c 8 a.upto∧yI w' c 9 a.til∧yI w' c 10 a.amount)) (by kernel_rfl) (HK.out _ (ar _ aq)) (fun af=>?_);refine yT [0,1,2,3,4,5] (by kernel_rfl) (by assumption) ?_
 iterate 6 (refine yS (v:=?_) (gA rfl) (fun _ _ _ h=>h) rfl ?_ ?_;rotate_left;(focus (intro w O;(try dsimp only at O);go_simp<;>with_reducible rfl));simp only[yP,yA,yB,yC])
 refine yR 6 (by kernel_rfl) (gA rfl) fun K hK=>?_
 go_simp
 (go_at_call 34;refine(ad.out _ (HS.out.bel (HT.out _ aq))).mono ?_;rintro e w7 ⟨⟨y,p',rfl,hy,hO⟩,Q⟩;have an:=aq.size;replace aq:=aq.trans (Q.mono aq.size);have HO:=yh hO;have HY:=yh hy;clear Q hO hy)
 go_wp2_with fail
 refine hK.out _ _ (HK.out _ (ar _ aq)) fun af=>?_
 clear hK K
 try simp only[yP,yQ,yA,yB,yC]
 refine yT [7,8] (by kernel_rfl) (by assumption) ?_
 iterate 2 (refine yS (v:=?_) (gA rfl) (fun _ _ _ h=>h) rfl ?_ ?_;rotate_left;(focus (intro w O;(try dsimp only at O);go_simp<;>with_reducible rfl));simp only[yP,yA,yB,yC])
 refine yR 9 (by kernel_rfl) (gA rfl) fun K hK=>?_
 (refine wp_store_row 32 (.tmp 4) (.tmp 44) rfl _ (Qa y p') rfl rfl 32 _ (HZ.out.bel aq) (by kernel_rfl) rfl (by simp[Value.oneCell']) ?_)
 refine hK.out _ _ (HK.out _ ((ar _ aq).setRow (.inl rfl) _)) fun af=>?_
 clear hK K
 try simp only[yP,yQ,yA,yB,yC]
 refine yT [10] (by kernel_rfl) (by assumption) ?_
 iterate 1 (refine yS (v:=?_) (gA rfl) (fun _ _ _ h=>h) rfl ?_ ?_;rotate_left;(focus (intro w O;(try dsimp only at O);go_simp<;>with_reducible rfl));simp only[yP,yA,yB,yC])
 refine wpAnyH_done (by kernel_rfl) ?_ _;have ai:=HZ.out.bel aq;have ag:Kept (fun k=>k=z) _ (World.setRow _ z (Qa y p')):=(Kept.refl (fun k=>k=z) w7).setRow (.inl rfl) _;have Q:=HT.out _ aq;have ac:=yh ag;clear ag;have ab:=yh Q;clear Q;have ao:=U.out.size;clear HK ar aq HT U Z HS ad
 go_wp2_with fail
 refine bodyPost_ret (v:=.tuple #[.agg (Qa y p'),.int .i64 R]) ((ai.row _).ret2 (k:=4) (u:=5) (by kernel_rfl) rfl rfl Tryz.underlying32 (by kernel_rfl) (by kernel_rfl)) rfl ?_;exact⟨⟨y,p',rfl,HY.out,(HO.out.kept ac.out (fun k J e=>by omega)).mono (by omega)⟩,ab.out.trans (ac.out.below (B:=w.heap.size) ab.out.size (fun k J e=>by omega))⟩
theorem Vab:MadeC (fun x a=>a.kind=4∧Zwa x a) ⟨fun x a=>Ys x a.id a.amount,fun x a=>Yr x a.id a.amount⟩:=by
 intro x p a g w hS hG ⟨I,hA,hl⟩
 show Calls _ _ _ _ fun e w'=>Vz w' w.heap.size (Yr x a.id a.amount) (Ys x a.id a.amount) e∧_
 have W:=yh (fun X F=>Y6b x p a.id a.amount X F hA.2.2.1 hA.2.2.2.2.2.2.2.2.2);obtain⟨R,hR⟩:∃r,r=Yr x a.id a.amount:=⟨_,rfl⟩;obtain⟨Y,hY⟩:∃r,r=Ys x a.id a.amount:=⟨_,rfl⟩;rw[←hR,←hY]at W ⊢;have HS:=yh hS;have Z:=yh (fun X (F:yw w X)=>hG.bel F);have am:=hG.lt;clear hR hY hA hl hS hG;obtain⟨A,n,cap,B,m,ae,D,nd,cd,E,ne,ce,C,nb,cb⟩:=p
 go_enter Tryz.func172,Tryz.ntmps172
 go_upto_region 0 with(fail)
 go_cut [3,4,5] (fun p p2 p3 wx=>∃c z,p=.pointer (some ⟨c,0,none⟩)∧p2=.pointer (some ⟨z,0,none⟩)∧p3=.int .i64 0∧w.heap.size≤z∧w.heap.size≤c∧c≠z∧AskAt wx c a∧Blk wx z #[.int .i64 0,.int .i64 0,.slice none 0 0,.slice none 0 0,.slice none 0 0,.int .i64 0,.int .i64 0,.slice none 0 0,.int .i64 0,.int .i64 0,.int .i64 0,.slice none 0 0,.bool false] 32∧yw w wx)
 case first=>
  clear W Z HS
  go_wp2_with fail
  go_meet
  exact⟨_,_,rfl,rfl,rfl,by omega,by omega,by omega,QA _ _ _,QB _ _ _,Zh _ _ _⟩
 obtain⟨c,z,rfl,rfl,rfl,hz,al,aj,hC,hZ,hb⟩:=hcut;obtain⟨J,ah⟩:∃V,V=wc:=⟨_,rfl⟩;subst ah;have ap:=hZ.lt
 have ak:g≠z:=by omega
 have HK:=yh (show ∀X,Kept (fun k=>k=z) J X→(fun w'=>yI w' g 0 x.ship.legs∧yI w' g 1 x.ship.souls∧yJ w' g 2 A n cap∧yJ w' g 3 B m ae∧yJ w' g 4 D nd cd∧yI w' g 5 x.fares.alone∧yI w' g 6 x.fares.third∧yJ w' g 7 E ne ce∧yI w' g 8 x.fares.down∧yI w' g 9 x.day∧yI w' g 10 x.leaves∧yJ w' g 11 C nb cb∧w'.cell? ⟨g,12,none⟩=some (.bool x.closed)∧yI w' c 0 a.number∧yI w' c 1 a.kind∧yI w' c 2 a.id∧yI w' c 3 a.guests∧w'.cell? ⟨c,4,none⟩=some (.bool a.level)∧yI w' c 5 a.cabin∧yI w' c 6 a.category∧yI w' c 7 a.frm∧yI w' c 8 a.upto∧yI w' c 9 a.til∧yI w' c 10 a.amount) X from fun X F=>by
  have hg:=(Z.out _ hb).kept F ak;have hc:Blk X c (Q1 a) 53:=Blk.kept hC F aj;exact⟨hg.cell rfl,hg.cell rfl,hg.cell rfl,hg.cell rfl,hg.cell rfl,hg.cell rfl,hg.cell rfl,hg.cell rfl,hg.cell rfl,hg.cell rfl,hg.cell rfl,hg.cell rfl,hg.cell rfl,hc.cell rfl,hc.cell rfl,hc.cell rfl,hc.cell rfl,hc.cell rfl,hc.cell rfl,hc.cell rfl,hc.cell rfl,hc.cell rfl,hc.cell rfl,hc.cell rfl⟩)
 have c1:yI J c 1 a.kind:=hC.all.2.1
 have q1:(a.kind == 1)=false:=by rw[I];rfl
 have q2:(a.kind == 2)=false:=by rw[I];rfl
 have q3:(a.kind == 3)=false:=by rw[I];rfl
 have q4:(a.kind == 4)=true:=by rw[I];rfl
 clear I;have U:=yh hb;clear hb;have HZ:=yh hZ;clear hZ;have aa:=W.out;simp only[Qa]at aa;have ad:=yh aa;clear aa W;have HT:=yh (fun X (F:yw J X)=>U.out.trans (F.mono U.out.size));clear hC
 go_upto_region 9 with(fail)
 clear c1 q1 q2 q3 q4;have aq:yw J J.drew:=(Below.refl _ J).drew
 have ar:=fun X (F:yw J X)=>Kept.of_below (S:=fun k=>k=z) F (fun k I h=>by omega)
 refine wp_region_held_drew (S:=(fun w'=>yI w' g 0 x.ship.legs∧yI w' g 1 x.ship.souls∧yJ w' g 2 A n cap∧yJ w' g 3 B m ae∧yJ w' g 4 D nd cd∧yI w' g 5 x.fares.alone∧yI w' g 6 x.fares.third∧yJ w' g 7 E ne ce∧yI w' g 8 x.fares.down∧yI w' g 9 x.day∧yI w' g 10 x.leaves∧yJ w' g 11 C nb cb∧w'.cell? ⟨g,12,none⟩=some (.bool x.closed)∧yI w' c 0 a.number∧yI w' c 1 a.kind∧yI w' c 2 a.id∧yI w' c 3 a.guests∧w'.cell? ⟨c,4,none⟩=some (.bool a.level)∧yI w' c 5 a.cabin∧yI w' c 6 a.category∧yI w' c 7 a.frm∧yI w' c 8 a.upto∧yI w' c 9 a.til∧yI w' c 10 a.amount)) (by kernel_rfl) (HK.out _ (ar _ aq)) (fun af=>?_);refine yT [0,1,2,3,4,5,6,7] (by kernel_rfl) (by assumption) ?_
 iterate 8 (refine yS (v:=?_) (gA rfl) (fun _ _ _ h=>h) rfl ?_ ?_;rotate_left;(focus (intro w O;(try dsimp only at O);go_simp<;>with_reducible rfl));simp only[yP,yA,yB,yC])
 refine yR 8 (by kernel_rfl) (gA rfl) fun K hK=>?_
 go_simp
 (go_at_call 35;refine(ad.out _ (HS.out.bel (HT.out _ aq))).mono ?_;rintro e w7 ⟨⟨y,p',rfl,hy,hO⟩,Q⟩;have an:=aq.size;replace aq:=aq.trans (Q.mono aq.size);have HO:=yh hO;have HY:=yh hy;clear Q hO hy)
 go_wp2_with fail
 refine hK.out _ _ (HK.out _ (ar _ aq)) fun af=>?_
 clear hK K
 try simp only[yP,yQ,yA,yB,yC]
 refine yT [9,10] (by kernel_rfl) (by assumption) ?_
 iterate 2 (refine yS (v:=?_) (gA rfl) (fun _ _ _ h=>h) rfl ?_ ?_;rotate_left;(focus (intro w O;(try dsimp only at O);go_simp<;>with_reducible rfl));simp only[yP,yA,yB,yC])
 refine yR 11 (by kernel_rfl) (gA rfl) fun K hK=>?_
 (refine wp_store_row 32 (.tmp 4) (.tmp 57) rfl _ (Qa y p') rfl rfl 32 _ (HZ.out.bel aq) (by kernel_rfl) rfl (by simp[Value.oneCell']) ?_)
 refine hK.out _ _ (HK.out _ ((ar _ aq).setRow (.inl rfl) _)) fun af=>?_
 clear hK K
 try simp only[yP,yQ,yA,yB,yC]
 refine yT [12] (by kernel_rfl) (by assumption) ?_
 iterate 1 (refine yS (v:=?_) (gA rfl) (fun _ _ _ h=>h) rfl ?_ ?_;rotate_left;(focus (intro w O;(try dsimp only at O);go_simp<;>with_reducible rfl));simp only[yP,yA,yB,yC])
 refine wpAnyH_done (by kernel_rfl) ?_ _;have ai:=HZ.out.bel aq;have ag:Kept (fun k=>k=z) _ (World.setRow _ z (Qa y p')):=(Kept.refl (fun k=>k=z) w7).setRow (.inl rfl) _;have Q:=HT.out _ aq;have ac:=yh ag;clear ag;have ab:=yh Q;clear Q;have ao:=U.out.size;clear HK ar aq HT U Z HS ad
 go_wp2_with fail
 refine bodyPost_ret (v:=.tuple #[.agg (Qa y p'),.int .i64 R]) ((ai.row _).ret2 (k:=4) (u:=5) (by kernel_rfl) rfl rfl Tryz.underlying32 (by kernel_rfl) (by kernel_rfl)) rfl ?_;exact⟨⟨y,p',rfl,HY.out,(HO.out.kept ac.out (fun k I e=>by omega)).mono (by omega)⟩,ab.out.trans (ac.out.below (B:=w.heap.size) ab.out.size (fun k I e=>by omega))⟩
theorem Vbb:MadeC (fun x a=>a.kind=5∧Zwa x a) ⟨fun x a=>Ym x a.id,fun x a=>Yl x a.id⟩:=by
 intro x p a g w hS hG ⟨I,hA,hl⟩
 show Calls _ _ _ _ fun e w'=>Vz w' w.heap.size (Yl x a.id) (Ym x a.id) e∧_
 have W:=yh (fun X F=>X3a x p a.id X F hA.2.2.1);obtain⟨R,hR⟩:∃r,r=Yl x a.id:=⟨_,rfl⟩;obtain⟨Y,hY⟩:∃r,r=Ym x a.id:=⟨_,rfl⟩;rw[←hR,←hY]at W ⊢;have HS:=yh hS;have Z:=yh (fun X (F:yw w X)=>hG.bel F);have am:=hG.lt;clear hR hY hA hl hS hG;obtain⟨A,n,cap,B,m,ae,D,nd,cd,E,ne,ce,C,nb,cb⟩:=p
 go_enter Tryz.func172,Tryz.ntmps172
 go_upto_region 0 with(fail)
 go_cut [3,4,5] (fun p p2 p3 wx=>∃c z,p=.pointer (some ⟨c,0,none⟩)∧p2=.pointer (some ⟨z,0,none⟩)∧p3=.int .i64 0∧w.heap.size≤z∧w.heap.size≤c∧c≠z∧AskAt wx c a∧Blk wx z #[.int .i64 0,.int .i64 0,.slice none 0 0,.slice none 0 0,.slice none 0 0,.int .i64 0,.int .i64 0,.slice none 0 0,.int .i64 0,.int .i64 0,.int .i64 0,.slice none 0 0,.bool false] 32∧yw w wx)
 case first=>
  clear W Z HS
  go_wp2_with fail
  go_meet
  exact⟨_,_,rfl,rfl,rfl,by omega,by omega,by omega,QA _ _ _,QB _ _ _,Zh _ _ _⟩
 obtain⟨c,z,rfl,rfl,rfl,hz,al,aj,hC,hZ,hb⟩:=hcut;obtain⟨J,ah⟩:∃V,V=wc:=⟨_,rfl⟩;subst ah;have ap:=hZ.lt
 have ak:g≠z:=by omega
 have HK:=yh (show ∀X,Kept (fun k=>k=z) J X→(fun w'=>yI w' g 0 x.ship.legs∧yI w' g 1 x.ship.souls∧yJ w' g 2 A n cap∧yJ w' g 3 B m ae∧yJ w' g 4 D nd cd∧yI w' g 5 x.fares.alone∧yI w' g 6 x.fares.third∧yJ w' g 7 E ne ce∧yI w' g 8 x.fares.down∧yI w' g 9 x.day∧yI w' g 10 x.leaves∧yJ w' g 11 C nb cb∧w'.cell? ⟨g,12,none⟩=some (.bool x.closed)∧yI w' c 0 a.number∧yI w' c 1 a.kind∧yI w' c 2 a.id∧yI w' c 3 a.guests∧w'.cell? ⟨c,4,none⟩=some (.bool a.level)∧yI w' c 5 a.cabin∧yI w' c 6 a.category∧yI w' c 7 a.frm∧yI w' c 8 a.upto∧yI w' c 9 a.til∧yI w' c 10 a.amount) X from fun X F=>by
  have hg:=(Z.out _ hb).kept F ak;have hc:Blk X c (Q1 a) 53:=Blk.kept hC F aj;exact⟨hg.cell rfl,hg.cell rfl,hg.cell rfl,hg.cell rfl,hg.cell rfl,hg.cell rfl,hg.cell rfl,hg.cell rfl,hg.cell rfl,hg.cell rfl,hg.cell rfl,hg.cell rfl,hg.cell rfl,hc.cell rfl,hc.cell rfl,hc.cell rfl,hc.cell rfl,hc.cell rfl,hc.cell rfl,hc.cell rfl,hc.cell rfl,hc.cell rfl,hc.cell rfl,hc.cell rfl⟩)
 have c1:yI J c 1 a.kind:=hC.all.2.1
 have q1:(a.kind == 1)=false:=by rw[I];rfl
 have q2:(a.kind == 2)=false:=by rw[I];rfl
 have q3:(a.kind == 3)=false:=by rw[I];rfl
 have q4:(a.kind == 4)=false:=by rw[I];rfl
 have q5:(a.kind == 5)=true:=by rw[I];rfl
 clear I;have U:=yh hb;clear hb;have HZ:=yh hZ;clear hZ;have aa:=W.out;simp only[Qa]at aa;have ad:=yh aa;clear aa W;have HT:=yh (fun X (F:yw J X)=>U.out.trans (F.mono U.out.size));clear hC
 go_upto_region 11 with(fail)
 clear c1 q1 q2 q3 q4 q5;have aq:yw J J.drew:=(Below.refl _ J).drew
 have ar:=fun X (F:yw J X)=>Kept.of_below (S:=fun k=>k=z) F (fun k I h=>by omega)
 refine wp_region_held_drew (S:=(fun w'=>yI w' g 0 x.ship.legs∧yI w' g 1 x.ship.souls∧yJ w' g 2 A n cap∧yJ w' g 3 B m ae∧yJ w' g 4 D nd cd∧yI w' g 5 x.fares.alone∧yI w' g 6 x.fares.third∧yJ w' g 7 E ne ce∧yI w' g 8 x.fares.down∧yI w' g 9 x.day∧yI w' g 10 x.leaves∧yJ w' g 11 C nb cb∧w'.cell? ⟨g,12,none⟩=some (.bool x.closed)∧yI w' c 0 a.number∧yI w' c 1 a.kind∧yI w' c 2 a.id∧yI w' c 3 a.guests∧w'.cell? ⟨c,4,none⟩=some (.bool a.level)∧yI w' c 5 a.cabin∧yI w' c 6 a.category∧yI w' c 7 a.frm∧yI w' c 8 a.upto∧yI w' c 9 a.til∧yI w' c 10 a.amount)) (by kernel_rfl) (HK.out _ (ar _ aq)) (fun af=>?_);refine yT [0,1,2,3,4,5] (by kernel_rfl) (by assumption) ?_
 iterate 6 (refine yS (v:=?_) (gA rfl) (fun _ _ _ h=>h) rfl ?_ ?_;rotate_left;(focus (intro w O;(try dsimp only at O);go_simp<;>with_reducible rfl));simp only[yP,yA,yB,yC])
 refine yR 6 (by kernel_rfl) (gA rfl) fun K hK=>?_
 go_simp
 (go_at_call 36;refine(ad.out _ (HS.out.bel (HT.out _ aq))).mono ?_;rintro e w7 ⟨⟨y,p',rfl,hy,hO⟩,Q⟩;have an:=aq.size;replace aq:=aq.trans (Q.mono aq.size);have HO:=yh hO;have HY:=yh hy;clear Q hO hy)
 go_wp2_with fail
 refine hK.out _ _ (HK.out _ (ar _ aq)) fun af=>?_
 clear hK K
 try simp only[yP,yQ,yA,yB,yC]
 refine yT [7,8] (by kernel_rfl) (by assumption) ?_
 iterate 2 (refine yS (v:=?_) (gA rfl) (fun _ _ _ h=>h) rfl ?_ ?_;rotate_left;(focus (intro w O;(try dsimp only at O);go_simp<;>with_reducible rfl));simp only[yP,yA,yB,yC])
 refine yR 9 (by kernel_rfl) (gA rfl) fun K hK=>?_
 (refine wp_store_row 32 (.tmp 4) (.tmp 68) rfl _ (Qa y p') rfl rfl 32 _ (HZ.out.bel aq) (by kernel_rfl) rfl (by simp[Value.oneCell']) ?_)
 refine hK.out _ _ (HK.out _ ((ar _ aq).setRow (.inl rfl) _)) fun af=>?_
 clear hK K
 try simp only[yP,yQ,yA,yB,yC]
 refine yT [10] (by kernel_rfl) (by assumption) ?_
 iterate 1 (refine yS (v:=?_) (gA rfl) (fun _ _ _ h=>h) rfl ?_ ?_;rotate_left;(focus (intro w O;(try dsimp only at O);go_simp<;>with_reducible rfl));simp only[yP,yA,yB,yC])
 refine wpAnyH_done (by kernel_rfl) ?_ _;have ai:=HZ.out.bel aq;have ag:Kept (fun k=>k=z) _ (World.setRow _ z (Qa y p')):=(Kept.refl (fun k=>k=z) w7).setRow (.inl rfl) _;have Q:=HT.out _ aq;have ac:=yh ag;clear ag;have ab:=yh Q;clear Q;have ao:=U.out.size;clear HK ar aq HT U Z HS ad
 go_wp2_with fail
 refine bodyPost_ret (v:=.tuple #[.agg (Qa y p'),.int .i64 R]) ((ai.row _).ret2 (k:=4) (u:=5) (by kernel_rfl) rfl rfl Tryz.underlying32 (by kernel_rfl) (by kernel_rfl)) rfl ?_;exact⟨⟨y,p',rfl,HY.out,(HO.out.kept ac.out (fun k I e=>by omega)).mono (by omega)⟩,ab.out.trans (ac.out.below (B:=w.heap.size) ab.out.size (fun k I e=>by omega))⟩
theorem Vcb:MadeC (fun x a=>a.kind=6∧Zwa x a) ⟨fun x a=>Yp x a.id a.cabin,fun x a=>Yo x a.id a.cabin⟩:=by
 intro x p a g w hS hG ⟨I,hA,hl⟩
 show Calls _ _ _ _ fun e w'=>Vz w' w.heap.size (Yo x a.id a.cabin) (Yp x a.id a.cabin) e∧_
 have W:=yh (fun X F=>V3b x p a.id a.cabin X F hA.2.2.1 hA.2.2.2.2.1);obtain⟨R,hR⟩:∃r,r=Yo x a.id a.cabin:=⟨_,rfl⟩;obtain⟨Y,hY⟩:∃r,r=Yp x a.id a.cabin:=⟨_,rfl⟩;rw[←hR,←hY]at W ⊢;have HS:=yh hS;have Z:=yh (fun X (F:yw w X)=>hG.bel F);have am:=hG.lt;clear hR hY hA hl hS hG;obtain⟨A,n,cap,B,m,ae,D,nd,cd,E,ne,ce,C,nb,cb⟩:=p
 go_enter Tryz.func172,Tryz.ntmps172
 go_upto_region 0 with(fail)
 go_cut [3,4,5] (fun p p2 p3 wx=>∃c z,p=.pointer (some ⟨c,0,none⟩)∧p2=.pointer (some ⟨z,0,none⟩)∧p3=.int .i64 0∧w.heap.size≤z∧w.heap.size≤c∧c≠z∧AskAt wx c a∧Blk wx z #[.int .i64 0,.int .i64 0,.slice none 0 0,.slice none 0 0,.slice none 0 0,.int .i64 0,.int .i64 0,.slice none 0 0,.int .i64 0,.int .i64 0,.int .i64 0,.slice none 0 0,.bool false] 32∧yw w wx)
 case first=>
  clear W Z HS
  go_wp2_with fail
  go_meet
  exact⟨_,_,rfl,rfl,rfl,by omega,by omega,by omega,QA _ _ _,QB _ _ _,Zh _ _ _⟩
 obtain⟨c,z,rfl,rfl,rfl,hz,al,aj,hC,hZ,hb⟩:=hcut;obtain⟨J,ah⟩:∃V,V=wc:=⟨_,rfl⟩;subst ah;have ap:=hZ.lt
 have ak:g≠z:=by omega
 have HK:=yh (show ∀X,Kept (fun k=>k=z) J X→(fun w'=>yI w' g 0 x.ship.legs∧yI w' g 1 x.ship.souls∧yJ w' g 2 A n cap∧yJ w' g 3 B m ae∧yJ w' g 4 D nd cd∧yI w' g 5 x.fares.alone∧yI w' g 6 x.fares.third∧yJ w' g 7 E ne ce∧yI w' g 8 x.fares.down∧yI w' g 9 x.day∧yI w' g 10 x.leaves∧yJ w' g 11 C nb cb∧w'.cell? ⟨g,12,none⟩=some (.bool x.closed)∧yI w' c 0 a.number∧yI w' c 1 a.kind∧yI w' c 2 a.id∧yI w' c 3 a.guests∧w'.cell? ⟨c,4,none⟩=some (.bool a.level)∧yI w' c 5 a.cabin∧yI w' c 6 a.category∧yI w' c 7 a.frm∧yI w' c 8 a.upto∧yI w' c 9 a.til∧yI w' c 10 a.amount) X from fun X F=>by
  have hg:=(Z.out _ hb).kept F ak;have hc:Blk X c (Q1 a) 53:=Blk.kept hC F aj;exact⟨hg.cell rfl,hg.cell rfl,hg.cell rfl,hg.cell rfl,hg.cell rfl,hg.cell rfl,hg.cell rfl,hg.cell rfl,hg.cell rfl,hg.cell rfl,hg.cell rfl,hg.cell rfl,hg.cell rfl,hc.cell rfl,hc.cell rfl,hc.cell rfl,hc.cell rfl,hc.cell rfl,hc.cell rfl,hc.cell rfl,hc.cell rfl,hc.cell rfl,hc.cell rfl,hc.cell rfl⟩)
 have c1:yI J c 1 a.kind:=hC.all.2.1
 have q1:(a.kind == 1)=false:=by rw[I];rfl
 have q2:(a.kind == 2)=false:=by rw[I];rfl
 have q3:(a.kind == 3)=false:=by rw[I];rfl
 have q4:(a.kind == 4)=false:=by rw[I];rfl
 have q5:(a.kind == 5)=false:=by rw[I];rfl
 have q6:(a.kind == 6)=true:=by rw[I];rfl
 clear I;have U:=yh hb;clear hb;have HZ:=yh hZ;clear hZ;have aa:=W.out;simp only[Qa]at aa;have ad:=yh aa;clear aa W;have HT:=yh (fun X (F:yw J X)=>U.out.trans (F.mono U.out.size));clear hC
 go_upto_region 13 with(fail)
 clear c1 q1 q2 q3 q4 q5 q6;have aq:yw J J.drew:=(Below.refl _ J).drew
 have ar:=fun X (F:yw J X)=>Kept.of_below (S:=fun k=>k=z) F (fun k I h=>by omega)
 refine wp_region_held_drew (S:=(fun w'=>yI w' g 0 x.ship.legs∧yI w' g 1 x.ship.souls∧yJ w' g 2 A n cap∧yJ w' g 3 B m ae∧yJ w' g 4 D nd cd∧yI w' g 5 x.fares.alone∧yI w' g 6 x.fares.third∧yJ w' g 7 E ne ce∧yI w' g 8 x.fares.down∧yI w' g 9 x.day∧yI w' g 10 x.leaves∧yJ w' g 11 C nb cb∧w'.cell? ⟨g,12,none⟩=some (.bool x.closed)∧yI w' c 0 a.number∧yI w' c 1 a.kind∧yI w' c 2 a.id∧yI w' c 3 a.guests∧w'.cell? ⟨c,4,none⟩=some (.bool a.level)∧yI w' c 5 a.cabin∧yI w' c 6 a.category∧yI w' c 7 a.frm∧yI w' c 8 a.upto∧yI w' c 9 a.til∧yI w' c 10 a.amount)) (by kernel_rfl) (HK.out _ (ar _ aq)) (fun af=>?_);refine yT [0,1,2,3,4,5,6,7] (by kernel_rfl) (by assumption) ?_
 iterate 8 (refine yS (v:=?_) (gA rfl) (fun _ _ _ h=>h) rfl ?_ ?_;rotate_left;(focus (intro w O;(try dsimp only at O);go_simp<;>with_reducible rfl));simp only[yP,yA,yB,yC])
 refine yR 8 (by kernel_rfl) (gA rfl) fun K hK=>?_
 go_simp
 (go_at_call 37;refine(ad.out _ (HS.out.bel (HT.out _ aq))).mono ?_;rintro e w7 ⟨⟨y,p',rfl,hy,hO⟩,Q⟩;have an:=aq.size;replace aq:=aq.trans (Q.mono aq.size);have HO:=yh hO;have HY:=yh hy;clear Q hO hy)
 go_wp2_with fail
 refine hK.out _ _ (HK.out _ (ar _ aq)) fun af=>?_
 clear hK K
 try simp only[yP,yQ,yA,yB,yC]
 refine yT [9,10] (by kernel_rfl) (by assumption) ?_
 iterate 2 (refine yS (v:=?_) (gA rfl) (fun _ _ _ h=>h) rfl ?_ ?_;rotate_left;(focus (intro w O;(try dsimp only at O);go_simp<;>with_reducible rfl));simp only[yP,yA,yB,yC])
 refine yR 11 (by kernel_rfl) (gA rfl) fun K hK=>?_
 (refine wp_store_row 32 (.tmp 4) (.tmp 81) rfl _ (Qa y p') rfl rfl 32 _ (HZ.out.bel aq) (by kernel_rfl) rfl (by simp[Value.oneCell']) ?_)
 refine hK.out _ _ (HK.out _ ((ar _ aq).setRow (.inl rfl) _)) fun af=>?_
 clear hK K
 try simp only[yP,yQ,yA,yB,yC]
 refine yT [12] (by kernel_rfl) (by assumption) ?_
 iterate 1 (refine yS (v:=?_) (gA rfl) (fun _ _ _ h=>h) rfl ?_ ?_;rotate_left;(focus (intro w O;(try dsimp only at O);go_simp<;>with_reducible rfl));simp only[yP,yA,yB,yC])
 refine wpAnyH_done (by kernel_rfl) ?_ _;have ai:=HZ.out.bel aq;have ag:Kept (fun k=>k=z) _ (World.setRow _ z (Qa y p')):=(Kept.refl (fun k=>k=z) w7).setRow (.inl rfl) _;have Q:=HT.out _ aq;have ac:=yh ag;clear ag;have ab:=yh Q;clear Q;have ao:=U.out.size;clear HK ar aq HT U Z HS ad
 go_wp2_with fail
 refine bodyPost_ret (v:=.tuple #[.agg (Qa y p'),.int .i64 R]) ((ai.row _).ret2 (k:=4) (u:=5) (by kernel_rfl) rfl rfl Tryz.underlying32 (by kernel_rfl) (by kernel_rfl)) rfl ?_;exact⟨⟨y,p',rfl,HY.out,(HO.out.kept ac.out (fun k I e=>by omega)).mono (by omega)⟩,ab.out.trans (ac.out.below (B:=w.heap.size) ab.out.size (fun k I e=>by omega))⟩
theorem Vdb:MadeC (fun x a=>a.kind=7∧Zwa x a) ⟨fun x a=>UE x a.til,fun x a=>Xa x a.til⟩:=by
 intro x p a g w hS hG ⟨F,hA,hl⟩
 show Calls _ _ _ _ fun e w'=>Vz w' w.heap.size (Xa x a.til) (UE x a.til) e∧_
 have aa:=yh (fun X J=>V7b x p a.til X J );obtain⟨R,hR⟩:∃r,r=Xa x a.til:=⟨_,rfl⟩;obtain⟨Y,hY⟩:∃r,r=UE x a.til:=⟨_,rfl⟩;rw[←hR,←hY]at aa ⊢;have HS:=yh hS;have HG:=yh (fun X (J:yw w X)=>hG.bel J);have ax:=hG.lt;clear hR hY hA hl hS hG;obtain⟨A,n,cap,B,m,ai,D,nd,cd,E,ne,ce,C,nb,cb⟩:=p
 go_enter Tryz.func172,Tryz.ntmps172
 go_upto_region 0 with(fail)
 go_cut [3,4,5] (fun p p2 p3 Q=>∃c z,p=.pointer (some ⟨c,0,none⟩)∧p2=.pointer (some ⟨z,0,none⟩)∧p3=.int .i64 0∧w.heap.size≤z∧w.heap.size≤c∧c≠z∧AskAt Q c a∧Blk Q z #[.int .i64 0,.int .i64 0,.slice none 0 0,.slice none 0 0,.slice none 0 0,.int .i64 0,.int .i64 0,.slice none 0 0,.int .i64 0,.int .i64 0,.int .i64 0,.slice none 0 0,.bool false] 32∧yw w Q)
 case first=>
  clear aa HG HS
  go_wp2_with fail
  go_meet
  exact⟨_,_,rfl,rfl,rfl,by omega,by omega,by omega,QA _ _ _,QB _ _ _,Zh _ _ _⟩
 obtain⟨c,z,rfl,rfl,rfl,hz,aw,ar,hC,hZ,hb⟩:=hcut;obtain⟨W1,ao⟩:∃V,V=wc:=⟨_,rfl⟩;subst ao;have aA:=hZ.lt
 have au:g≠z:=by omega
 have HK:=yh (show ∀X,Kept (fun k=>k=z) W1 X→(fun w'=>yI w' g 0 x.ship.legs∧yI w' g 1 x.ship.souls∧yJ w' g 2 A n cap∧yJ w' g 3 B m ai∧yJ w' g 4 D nd cd∧yI w' g 5 x.fares.alone∧yI w' g 6 x.fares.third∧yJ w' g 7 E ne ce∧yI w' g 8 x.fares.down∧yI w' g 9 x.day∧yI w' g 10 x.leaves∧yJ w' g 11 C nb cb∧w'.cell? ⟨g,12,none⟩=some (.bool x.closed)∧yI w' c 0 a.number∧yI w' c 1 a.kind∧yI w' c 2 a.id∧yI w' c 3 a.guests∧w'.cell? ⟨c,4,none⟩=some (.bool a.level)∧yI w' c 5 a.cabin∧yI w' c 6 a.category∧yI w' c 7 a.frm∧yI w' c 8 a.upto∧yI w' c 9 a.til∧yI w' c 10 a.amount) X from fun X J=>by
  have hg:=(HG.out _ hb).kept J au;have I:Blk X c (Q1 a) 53:=Blk.kept hC J ar;exact⟨hg.cell rfl,hg.cell rfl,hg.cell rfl,hg.cell rfl,hg.cell rfl,hg.cell rfl,hg.cell rfl,hg.cell rfl,hg.cell rfl,hg.cell rfl,hg.cell rfl,hg.cell rfl,hg.cell rfl,I.cell rfl,I.cell rfl,I.cell rfl,I.cell rfl,I.cell rfl,I.cell rfl,I.cell rfl,I.cell rfl,I.cell rfl,I.cell rfl,I.cell rfl⟩)
 have c1:yI W1 c 1 a.kind:=hC.all.2.1
 have q1:(a.kind == 1)=false:=by rw[F];rfl
 have q2:(a.kind == 2)=false:=by rw[F];rfl
 have q3:(a.kind == 3)=false:=by rw[F];rfl
 have q4:(a.kind == 4)=false:=by rw[F];rfl
 have q5:(a.kind == 5)=false:=by rw[F];rfl
 have q6:(a.kind == 6)=false:=by rw[F];rfl
 have q7:(a.kind == 7)=true:=by rw[F];rfl
 clear F;have HB:=yh hb;clear hb;have HZ:=yh hZ;clear hZ;have ae:=aa.out;simp only[Qa]at ae;have ah:=yh ae;clear ae aa;have HT:=yh (fun X (J:yw W1 X)=>HB.out.trans (J.mono HB.out.size));clear hC
 go_upto_region 15 with(fail)
 clear c1 q1 q2 q3 q4 q5 q6 q7
 have Z:=fun X (J:yw W1 X)=>Kept.of_below (S:=fun k=>k=z) J (fun k F h=>by omega)
 go_cut [6,8] (fun q e Q=>∃s y O,q=.pointer (some ⟨s,0,none⟩)∧e=.int .i64 R∧W1.heap.size≤s∧Blk Q s (Qa y O) 32∧y=okS R Y∧SaiO Q W1.heap.size y O∧yw W1 Q)
 case first=>
  have aB:yw W1 W1.drew:=(Below.refl _ W1).drew;refine wp_region_held_drew (S:=(fun w'=>yI w' g 0 x.ship.legs∧yI w' g 1 x.ship.souls∧yJ w' g 2 A n cap∧yJ w' g 3 B m ai∧yJ w' g 4 D nd cd∧yI w' g 5 x.fares.alone∧yI w' g 6 x.fares.third∧yJ w' g 7 E ne ce∧yI w' g 8 x.fares.down∧yI w' g 9 x.day∧yI w' g 10 x.leaves∧yJ w' g 11 C nb cb∧w'.cell? ⟨g,12,none⟩=some (.bool x.closed)∧yI w' c 0 a.number∧yI w' c 1 a.kind∧yI w' c 2 a.id∧yI w' c 3 a.guests∧w'.cell? ⟨c,4,none⟩=some (.bool a.level)∧yI w' c 5 a.cabin∧yI w' c 6 a.category∧yI w' c 7 a.frm∧yI w' c 8 a.upto∧yI w' c 9 a.til∧yI w' c 10 a.amount)) (by kernel_rfl) (HK.out _ (Z _ aB)) (fun ab=>?_);refine yT [0,1,2,3,4,5] (by kernel_rfl) (by assumption) ?_
  iterate 6 (refine yS (v:=?_) (gA rfl) (fun _ _ _ h=>h) rfl ?_ ?_;rotate_left;(focus (intro w aC;(try dsimp only at aC);go_simp<;>with_reducible rfl));simp only[yP,yA,yB,yC])
  focus
   refine Qja 6 11 (by kernel_rfl) (gA rfl) (gA rfl) (fun K k6=>?_) (fun K am=>?_)
   repeat first
    |
     revert k6
     intro hK;go_simp
     (go_at_call 38;(try have av:=fun g hg=>Blk.lt (W g hg));refine(ah.out _ (HS.out.bel (HT.out _ aB))).mono ?_;rintro e w7 ⟨⟨y,O,v,xs,rfl,hy,hO,-⟩,U⟩;have al:=aB.size;(try replace W:=fun g hg=>(W g hg).bel U);replace aB:=aB.trans (U.mono aB.size);have HO:=yh hO;have HY:=yh hy;clear U hO hy)
     go_wp2_with fail
     refine hK.out _ _ (HK.out _ (Z _ aB)) fun ab=>?_
     clear hK K
     try simp only[yP,yQ,yA,yB,yC]
     refine yT [7,8,9,10] (by kernel_rfl) (by assumption) ?_
     iterate 4 (refine yS (v:=?_) (gA rfl) (fun _ _ _ h=>h) rfl ?_ ?_;rotate_left;(focus (intro w aC;(try dsimp only at aC);go_simp<;>with_reducible rfl));simp only[yP,yA,yB,yC])
     first
      | refine UF 11 (by(fail_if_success (fail_if_success decide +kernel));kernel_rfl) (gA rfl) (fun K am=>?_)
      | rotate_left
    |
     revert am
     intro hK;go_simp
     refine hK.out _ _ (HK.out _ (Z _ (aB.alloc aB.size (.cells #[.int .i64 0,.int .i64 0,.slice none 0 0,.slice none 0 0,.slice none 0 0,.int .i64 0,.int .i64 0,.slice none 0 0,.int .i64 0,.int .i64 0,.int .i64 0,.slice none 0 0,.bool false] 32)))) fun ab=>?_
     clear hK K
     try simp only[yP,yQ,yA,yB,yC]
     (have W:=ZF aB #[.int .i64 0,.int .i64 0,.slice none 0 0,.slice none 0 0,.slice none 0 0,.int .i64 0,.int .i64 0,.slice none 0 0,.int .i64 0,.int .i64 0,.int .i64 0,.slice none 0 0,.bool false] 32;have ad:=V9 aB;(try have aq:=Qf w7 (.cells #[.int .i64 0,.int .i64 0,.slice none 0 0,.slice none 0 0,.slice none 0 0,.int .i64 0,.int .i64 0,.slice none 0 0,.int .i64 0,.int .i64 0,.int .i64 0,.slice none 0 0,.bool false] 32));replace aB:=aB.alloc aB.size (.cells #[.int .i64 0,.int .i64 0,.slice none 0 0,.slice none 0 0,.slice none 0 0,.int .i64 0,.int .i64 0,.slice none 0 0,.int .i64 0,.int .i64 0,.int .i64 0,.slice none 0 0,.bool false] 32))
     first
      | refine UF 6 (by(fail_if_success (fail_if_success decide +kernel));kernel_rfl) (gA rfl) (fun K k6=>?_)
      | rotate_left
   all_goals
    refine yR 12 (by kernel_rfl) (gA rfl) fun K hK=>?_
    (refine wp_store_row 32 (.tmp 6) (.tmp 93) rfl _ (Qa y O) rfl rfl 32 _ (W _ (by simp)) (by kernel_rfl) rfl (by simp[Value.oneCell']) ?_)
    refine hK.out _ _ (HK.out _ (Z _ (below_setRow aB (ad _ (by simp)) _))) fun ab=>?_
    clear hK K
    try simp only[yP,yQ,yA,yB,yC]
    refine yT [13,14] (by kernel_rfl) (by assumption) ?_
    iterate 2 (refine yS (v:=?_) (gA rfl) (fun _ _ _ h=>h) rfl ?_ ?_;rotate_left;(focus (intro w aC;(try dsimp only at aC);go_simp<;>with_reducible rfl));simp only[yP,yA,yB,yC])
    refine wpAnyH_done (by kernel_rfl) ?_ _
    go_wp2_with fail
    go_meet
    refine⟨_,y,O,rfl,rfl,ad _ (by simp),(W _ (by simp)).row _,HY.out,?_,below_setRow aB (ad _ (by simp)) _⟩
    first | exact(HO.out.mono al).bel (below_setRow aq (Nat.le_refl _) _) | exact(HO.out.kept ((Kept.refl (fun k=>k=_) w7).setRow (.inl rfl) _) (fun k F e=>by have:=av _ rfl;have h2:W1.drew.heap.size=W1.heap.size:=rfl;omega)).mono al
 obtain⟨s,y,O,rfl,rfl,ay,an,hy,hO,ac⟩:=hcut;obtain⟨W2,ap⟩:∃V,V=wc:=⟨_,rfl⟩;subst ap;have ak:=HZ.out.bel ac;have HY:=yh hy;have HO:=yh hO;have aj:Kept (fun k=>k=z) _ (World.setRow _ z (Qa y O)):=(Kept.refl (fun k=>k=z) W2).setRow (.inl rfl) _;have U:=HT.out _ ac;have ag:=yh aj;clear aj;have af:=yh U;clear U;have az:=HB.out.size;clear HK Z ac HT HB HG HS ah hy hO
 go_wp2_with (first | (refine wpList_load_row rfl 32 (.tmp 6) rfl s rfl 32 _ (0,0) _ an Tryz.underlying32 rfl (by kernel_rfl) ?_) | (refine wpList_store_row rfl 32 (.tmp 4) (.tmp 96) rfl z (Qa y O) rfl rfl 32 _ ak (by kernel_rfl) rfl (by simp[Value.oneCell']) ?_))
 refine bodyPost_ret (v:=.tuple #[.agg (Qa y O),.int .i64 R]) ((ak.row _).ret2 (k:=4) (u:=5) (by kernel_rfl) rfl rfl Tryz.underlying32 (by kernel_rfl) (by kernel_rfl)) rfl ?_;exact⟨⟨y,O,rfl,HY.out,(HO.out.kept ag.out (fun k F e=>by omega)).mono (by omega)⟩,af.out.trans (ag.out.below (B:=w.heap.size) af.out.size (fun k F e=>by omega))⟩
theorem Veb:MadeC (fun x a=>a.kind=8∧Zwa x a) ⟨fun x a=>UT x,fun x a=>UX x⟩:=by
 intro x p a g w hS hG ⟨hk,hA,hl⟩
 show Calls _ _ _ _ fun e w'=>Vz w' w.heap.size (UX x) (UT x) e∧_
 have O:=yh (fun X F=>Uzb x p X F );obtain⟨R,hR⟩:∃r,r=UX x:=⟨_,rfl⟩;obtain⟨Y,hY⟩:∃r,r=UT x:=⟨_,rfl⟩;rw[←hR,←hY]at O ⊢;have U:=yh hS;have J:=yh (fun X (F:yw w X)=>hG.bel F);have ao:=hG.lt;clear hR hY hA hl hS hG;obtain⟨A,n,cap,B,m,aj,D,nd,cd,E,ne,ce,C,nb,cb⟩:=p
 go_enter Tryz.func172,Tryz.ntmps172
 go_upto_region 0 with(fail)
 go_cut [3,4,5] (fun p p2 p3 wx=>∃c z,p=.pointer (some ⟨c,0,none⟩)∧p2=.pointer (some ⟨z,0,none⟩)∧p3=.int .i64 0∧w.heap.size≤z∧w.heap.size≤c∧c≠z∧AskAt wx c a∧Blk wx z #[.int .i64 0,.int .i64 0,.slice none 0 0,.slice none 0 0,.slice none 0 0,.int .i64 0,.int .i64 0,.slice none 0 0,.int .i64 0,.int .i64 0,.int .i64 0,.slice none 0 0,.bool false] 32∧yw w wx)
 case first=>
  clear O J U
  go_wp2_with fail
  go_meet
  exact⟨_,_,rfl,rfl,rfl,by omega,by omega,by omega,QA _ _ _,QB _ _ _,Zh _ _ _⟩
 obtain⟨c,z,rfl,rfl,rfl,hz,an,al,W,hZ,Z⟩:=hcut;obtain⟨W1,ak⟩:∃V,V=wc:=⟨_,rfl⟩;subst ak;have aq:=hZ.lt
 have am:g≠z:=by omega
 have HK:=yh (show ∀X,Kept (fun k=>k=z) W1 X→(fun w'=>yI w' g 0 x.ship.legs∧yI w' g 1 x.ship.souls∧yJ w' g 2 A n cap∧yJ w' g 3 B m aj∧yJ w' g 4 D nd cd∧yI w' g 5 x.fares.alone∧yI w' g 6 x.fares.third∧yJ w' g 7 E ne ce∧yI w' g 8 x.fares.down∧yI w' g 9 x.day∧yI w' g 10 x.leaves∧yJ w' g 11 C nb cb∧w'.cell? ⟨g,12,none⟩=some (.bool x.closed)∧yI w' c 0 a.number∧yI w' c 1 a.kind∧yI w' c 2 a.id∧yI w' c 3 a.guests∧w'.cell? ⟨c,4,none⟩=some (.bool a.level)∧yI w' c 5 a.cabin∧yI w' c 6 a.category∧yI w' c 7 a.frm∧yI w' c 8 a.upto∧yI w' c 9 a.til∧yI w' c 10 a.amount) X from fun X F=>by
  have hg:=(J.out _ Z).kept F am;have hc:Blk X c (Q1 a) 53:=Blk.kept W F al;exact⟨hg.cell rfl,hg.cell rfl,hg.cell rfl,hg.cell rfl,hg.cell rfl,hg.cell rfl,hg.cell rfl,hg.cell rfl,hg.cell rfl,hg.cell rfl,hg.cell rfl,hg.cell rfl,hg.cell rfl,hc.cell rfl,hc.cell rfl,hc.cell rfl,hc.cell rfl,hc.cell rfl,hc.cell rfl,hc.cell rfl,hc.cell rfl,hc.cell rfl,hc.cell rfl,hc.cell rfl⟩)
 have c1:yI W1 c 1 a.kind:=W.all.2.1
 have q1:(a.kind == 1)=false:=by rw[hk];rfl
 have q2:(a.kind == 2)=false:=by rw[hk];rfl
 have q3:(a.kind == 3)=false:=by rw[hk];rfl
 have q4:(a.kind == 4)=false:=by rw[hk];rfl
 have q5:(a.kind == 5)=false:=by rw[hk];rfl
 have q6:(a.kind == 6)=false:=by rw[hk];rfl
 have q7:(a.kind == 7)=false:=by rw[hk];rfl
 clear hk;have I:=yh Z;clear Z;have HZ:=yh hZ;clear hZ;have ab:=O.out;simp only[Qa]at ab;have ae:=yh ab;clear ab O;have HT:=yh (fun X (F:yw W1 X)=>I.out.trans (F.mono I.out.size));clear W
 go_upto_region 17 with(fail)
 clear c1 q1 q2 q3 q4 q5 q6 q7;have hg:=J.out _ I.out;have af:=yh (U.out.bel I.out);clear HK
 go_wp2_with (refine wpList_load_row rfl 32 (.tmp 100) rfl g rfl 129 _ (0,0) _ hg Tryz.underlying32 rfl (by kernel_rfl) ?_)
 refine(ae.out _ af.out).mono ?_;rintro e w7 ⟨⟨y,Q,rfl,hy,hO⟩,aa⟩;have HO:=yh hO;have HY:=yh hy;have ah:=HZ.out.bel aa;have ag:Kept (fun k=>k=z) _ (World.setRow _ z (Qa y Q)):=(Kept.refl (fun k=>k=z) w7).setRow (.inl rfl) _;have ai:=HT.out _ aa;have ad:=yh ag;clear ag;have ac:=yh ai;clear ai;have ap:=I.out.size;clear aa HT I J U af ae hy hO hg
 go_wp2_with (refine wpList_store_row rfl 32 (.tmp 4) (.tmp 103) rfl z (Qa y Q) rfl rfl 32 _ ah (by kernel_rfl) rfl (by simp[Value.oneCell']) ?_)
 refine bodyPost_ret (v:=.tuple #[.agg (Qa y Q),.int .i64 R]) ((ah.row _).ret2 (k:=4) (u:=5) (by kernel_rfl) rfl rfl Tryz.underlying32 (by kernel_rfl) (by kernel_rfl)) rfl ?_;exact⟨⟨y,Q,rfl,HY.out,(HO.out.kept ad.out (fun k hk e=>by omega)).mono (by omega)⟩,ac.out.trans (ad.out.below (B:=w.heap.size) ac.out.size (fun k hk e=>by omega))⟩
noncomputable def mkA:Mk:=⟨fun x a=>if a.kind=1 then U5 x (Zm x a)else if a.kind=2 then U5 x (Zm x a)else if a.kind=3 then YA x a.id else if a.kind=4 then Ys x a.id a.amount else if a.kind=5 then Ym x a.id else if a.kind=6 then Yp x a.id a.cabin else if a.kind=7 then UE x a.til else UT x,fun x a=>if a.kind=1 then Us x (Zm x a) 1 else if a.kind=2 then Us x (Zm x a) 2 else if a.kind=3 then Yz x a.id else if a.kind=4 then Yr x a.id a.amount else if a.kind=5 then Yl x a.id else if a.kind=6 then Yo x a.id a.cabin else if a.kind=7 then Xa x a.til else UX x⟩
def VXb (x:Sai) (a:Ask):Prop:=Zwa x a∧1≤a.kind∧a.kind≤8
theorem Z4b {x:Sai}{a:Ask}(h:a.kind=1):mkA.x x a=U5 x (Zm x a)∧mkA.e x a=Us x (Zm x a) 1:=by simp[mkA,h]
theorem Z5b {x:Sai}{a:Ask}(h:a.kind=2):mkA.x x a=U5 x (Zm x a)∧mkA.e x a=Us x (Zm x a) 2:=by simp[mkA,h]
theorem Z6b {x:Sai}{a:Ask}(h:a.kind=3):mkA.x x a=YA x a.id∧mkA.e x a=Yz x a.id:=by simp[mkA,h]
theorem Z7b {x:Sai}{a:Ask}(h:a.kind=4):mkA.x x a=Ys x a.id a.amount∧mkA.e x a=Yr x a.id a.amount:=by simp[mkA,h]
theorem Z8b {x:Sai}{a:Ask}(h:a.kind=5):mkA.x x a=Ym x a.id∧mkA.e x a=Yl x a.id:=by simp[mkA,h]
theorem Z9b {x:Sai}{a:Ask}(h:a.kind=6):mkA.x x a=Yp x a.id a.cabin∧mkA.e x a=Yo x a.id a.cabin:=by simp[mkA,h]
theorem Uab {x:Sai}{a:Ask}(h:a.kind=7):mkA.x x a=UE x a.til∧mkA.e x a=Xa x a.til:=by simp[mkA,h]
theorem Ubb {x:Sai}{a:Ask}(h:a.kind=8):mkA.x x a=UT x∧mkA.e x a=UX x:=by simp[mkA,h]
theorem Uxa {a:Ask}(h:1≤a.kind∧a.kind≤8):a.kind=1∨a.kind=2∨a.kind=3∨a.kind=4∨a.kind=5∨a.kind=6∨a.kind=7∨a.kind=8:=by omega
theorem MadeC.to {P:Sai→Ask→Prop}{mk A:Mk}(H:MadeC P mk){x:Sai}{a:Ask}(E:P x a)(h:A.x x a=mk.x x a∧A.e x a=mk.e x a){p:SaiV}{g:Nat}{w:World}(F:SaiR w x p)(D:Blk w g (Qa x p) 129) :
  Calls Tryz.prog 172 #[.pointer (some ⟨g,0,none⟩),.agg (Q1 a)] w fun e w'=>Vz w' w.heap.size (A.e x a) (A.x x a) e∧yw w w':=by
 rw[h.1,h.2];exact H x p a g w F D E
theorem QNa:MadeC VXb mkA:=by
 intro x p a g w D A ⟨ho,hk⟩
 rcases Uxa hk with h | h | h | h | h | h | h | h
 ·exact Xr.to ⟨h,UDa ho.1 ho.2⟩ (Z4b h) D A
 ·exact U8b.to ⟨h,ho⟩ (Z5b h) D A
 ·exact U9b.to ⟨h,ho⟩ (Z6b h) D A
 ·exact Vab.to ⟨h,ho⟩ (Z7b h) D A
 ·exact Vbb.to ⟨h,ho⟩ (Z8b h) D A
 ·exact Vcb.to ⟨h,ho⟩ (Z9b h) D A
 ·exact Vdb.to ⟨h,ho⟩ (Uab h) D A
 ·exact Veb.to ⟨h,ho⟩ (Ubb h) D A
theorem X5b {x:Sai}{a:Ask}(I:1≤a.kind∧a.kind≤8)(h:mkA.e x a=0):Qp (mkA.x x a)=0∧(mkA.x x a).ship=x.ship∧(mkA.x x a).fares=x.fares:=by
 rcases Uxa I with q | q | q | q | q | q | q | q
 ·rw[(Z4b q).2]at h;rw[(Z4b q).1];exact⟨(U8a h).2.2.2,rfl,rfl⟩
 ·rw[(Z5b q).2]at h;rw[(Z5b q).1];exact⟨(U8a h).2.2.2,rfl,rfl⟩
 ·rw[(Z6b q).2]at h;rw[(Z6b q).1];obtain⟨D,k,b,c,_,_,_,A,_⟩:=Zvb h;exact⟨D,by rw[A];rfl,by rw[A];rfl⟩
 ·rw[(Z7b q).2]at h;rw[(Z7b q).1];obtain⟨D,k,b,c,_,_,_,A,_⟩:=Zfb h;exact⟨D,by rw[A];rfl,by rw[A];rfl⟩
 ·rw[(Z8b q).2]at h;rw[(Z8b q).1];obtain⟨D,k,b,c,_,_,_,A,_⟩:=QWb h;exact⟨D,by rw[A];rfl,by rw[A];rfl⟩
 ·rw[(Z9b q).2]at h;rw[(Z9b q).1];obtain⟨D,k,b,c,_,_,_,A,_⟩:=Q6b h;exact⟨D,by rw[A];rfl,by rw[A];rfl⟩
 ·rw[(Uab q).2]at h;rw[(Uab q).1];have E:=VUb h;exact⟨ZAb E.1 E.2.1,rfl,rfl⟩
 ·rw[(Ubb q).2]at h;rw[(Ubb q).1];have E:=QHb h;have F:=Vt (Ze E.1) x.bks.length (Nat.le_refl _);exact⟨Yla E.1,F.ship,F.fares⟩
theorem Xv:X7 VXb mkA:=fun _ _ A h=>(X5b A.2 h).1
theorem Xub {x:Sai}{a:Ask}(h:Qp x=0)(A:VXb x a):Qp (doX mkA x a)=0∧(doX mkA x a).ship=x.ship∧(doX mkA x a).fares=x.fares:=by
 unfold doX
 by_cases q:mkA.e x a=0
 ·rw[if_pos q];exact X5b A.2 q
 ·rw[if_neg q];exact⟨h,rfl,rfl⟩
theorem Zrc {x:Sai}{a:Ask}(h:¬(doA mkA x a).errno=0):(doA mkA x a).owed=0∧doX mkA x a=x:=by
 unfold doA doX at *
 by_cases q:mkA.e x a=0
 ·rw[if_pos q]at h;exact absurd rfl h
 ·rw[if_neg q,if_neg q];exact⟨rfl,rfl⟩
theorem Xdb {a:Ask}(h:QU a=0):1≤a.kind∧a.kind≤8:=by
 unfold QU at h
 cases q:Qc a.kind 1 8
 ·rw[if_pos q]at h;omega
 ·exact Qj.1 q
theorem VX {x:Sai}{a:Ask}(h:Qp x=0)(D:Xb a)(A:QU a=0):VXb x a:=⟨⟨D,by
 have E:=Qj.1 (Ze h).bs.ship.legs;exact .of (by omega) (by omega)⟩,Xdb A⟩
theorem ch9 {x:Sai}{t E:Int}(h:Qp x=0)(A:In9 E):In9 (chE x t E):=by rw[Zoc h];exact ZA A n9
theorem ZXc {x:Sai}{a:Ask}(h:Qp x=0)(A:1≤a.kind∧a.kind≤8):In9 (mkA.e x a):=by
 rcases Uxa A with q | q | q | q | q | q | q | q
 ·rw[(Z4b q).2];exact Zob h _ _
 ·rw[(Z5b q).2];exact Zob h _ _
 ·rw[(Z6b q).2];exact ch9 h (ZA n9 n9)
 ·rw[(Z7b q).2];exact ch9 h (ZA n9 (ZA n9 (XG _)))
 ·rw[(Z8b q).2];exact ch9 h (ZA n9 (XG _))
 ·rw[(Z9b q).2];exact ch9 h (ZA n9 (ZA n9 (ZA n9 (ZA (Zic _ _) (Ujb _)))))
 ·rw[(Uab q).2];unfold Xa;rw[if_neg (by simpa using h)];exact ZA n9 (ZA n9 n9)
 ·rw[(Ubb q).2];unfold UX;rw[if_neg (by simpa using h)];exact ZA n9 n9
theorem ZUa {y:Sai}{a:Ask}(h:Qp y=0)(A:VXb y a):InI (doA mkA y a).errno∧InI (doA mkA y a).owed:=by
 unfold doA
 by_cases q:mkA.e y a=0
 ·rw[if_pos q]
  exact⟨Vr,Xvb (Xv y a A q) a.id⟩
 ·rw[if_neg q]
  exact⟨In9.inI (ZXc h A.2),Vr⟩
theorem YTa {mk:Mk}(d:Don):∀(D:List Don) (x:Sai) (A:List Don),(opn mk x A D).2=0→opn mk x A (D++[d])=opn mk (opn mk x A D).1 (A++D) [d]
 | [],x,A,_=>by rw[List.append_nil];rfl
 | c::D,x,A,h=>by
  have E:∀l,opn mk x A (c::l)=if QU c.ask≠0 then (x,QU c.ask)else if A.any (QW c.ask)=true then (x,6)else if doA mk x c.ask=c.ans then opn mk (doX mk x c.ask) (A++[c]) l else (x,4):=fun l=>rfl
  show opn mk x A (c::(D++[d]))=_
  rw[E]at h ⊢
  by_cases h1:QU c.ask≠0
  ·rw[if_pos h1]at h;exact absurd h h1
  rw[if_neg h1]at h ⊢
  by_cases h2:A.any (QW c.ask)=true
  ·rw[if_pos h2]at h;exact absurd h (by simp)
  rw[if_neg h2]at h ⊢
  by_cases h3:doA mk x c.ask=c.ans
  ·rw[if_pos h3]at h ⊢
   rw[YTa d D _ _ h,E,if_neg h1,if_neg h2,if_pos h3,List.append_assoc]
   rfl
  ·rw[if_neg h3]at h;exact absurd h (by simp)
structure LogOk (x:Sai) (D:List Don):Prop where
 mem:∀d∈D,X5a d∧QU d.ask=0
 opn:(opn mkA x [] D).2=0
 right:Qp (Go.Proofs.YtjdcokpmgionjaaGreat.opn mkA x [] D).1=0
 apart:D.Pairwise (fun a b=>a.ask.number≠b.ask.number)
theorem LogOk.nil {x:Sai}(h:Qp x=0):LogOk x []:=⟨by simp,rfl,h,by simp⟩
noncomputable def VS (x:Sai) (D:List Don) (a:Ask):List Don:=if QU a≠0 then D else if D.any (QW a)=true then D else D++[⟨a,doA mkA (U4 mkA x D) a⟩]
theorem QFc {x:Sai}{D:List Don}{a:Ask}(h:LogOk x D)(I:Xb a):LogOk x (VS x D a):=by
 unfold VS
 by_cases h1:QU a≠0
 ·rw[if_pos h1];exact h
 rw[if_neg h1]
 by_cases h2:D.any (QW a)=true
 ·rw[if_pos h2];exact h
 rw[if_neg h2]
 have J:QU a=0:=by omega
 have E:=VX h.right I J
 have F:opn mkA x [] (D++[⟨a,doA mkA (U4 mkA x D) a⟩])=(doX mkA (U4 mkA x D) a,0):=by
  rw[YTa _ D x [] h.opn,List.nil_append]
  show(if QU a≠0 then _ else if D.any (QW a)=true then _ else if doA mkA (U4 mkA x D) a=doA mkA (U4 mkA x D) a then opn mkA (doX mkA (U4 mkA x D) a) _ []else _)=_
  rw[if_neg h1,if_neg h2,if_pos rfl]
  rfl
 refine⟨fun d A=>?_,by rw[F],by rw[F];exact(Xub h.right E).1,?_⟩
 ·rcases List.mem_append.1 A with A | A
  ·exact h.mem d A
  ·obtain rfl:=List.mem_singleton.1 A
   exact⟨⟨I,(ZUa h.right E).1,(ZUa h.right E).2⟩,J⟩
 ·refine List.pairwise_append.2 ⟨h.apart,by simp,fun c J d A=>?_⟩
  obtain rfl:=List.mem_singleton.1 A;intro e;exact h2 (List.any_eq_true.2 ⟨c,J,by simpa [QW] using e⟩)
theorem Ycb (x:Sai)(D:List Don)(a:Ask):(VS x D a).length≤D.length+1∧D.length≤(VS x D a).length:=by
 unfold VS
 split
 ·omega
 ·split
  ·omega
  ·simp
theorem XKa {x:Sai}{D:List Don}(A:Qp x=0)(h:LogOk x D)(E:D.length≤30):VT mkA x D (D.length:Int)=0:=by
 unfold VT;rw[if_neg (by simpa using A),if_neg (by omega),if_neg (by unfold wrB;rw[decide_eq_true (by omega),decide_eq_true (Int.le_refl _)];simp)];exact h.opn
theorem VOb {x:Sai}{D:List Don}{a:Ask}(F:Qp x=0)(h:LogOk x D)(E:D.length < 30)(A:QU a=0):∃N,Xy mkA x D (D.length:Int) (VM a)=(VS x D a,((VS x D a).length:Int),N,0):=by
 unfold Xy;rw[if_neg (by simpa using XKa F h (by omega)),QBa A];unfold ZJa VS;rw[if_neg (by simp),if_neg (show ¬QU a≠0 by simpa using A)]
 dsimp only
 by_cases h2:D.any (QW a)=true
 ·rw[if_pos h2,if_pos h2]
  split<;>exact⟨_,rfl⟩
 ·rw[if_neg h2,if_neg h2,if_neg (by omega)]
  exact⟨doA mkA (U4 mkA x D) a,by simp⟩
theorem Vda {x:Sai}{D:List Don}{i:Nat}{d:Don}(Y:Qp x=0)(h:LogOk x D)(W:D.length≤30)(A:D[i]? = some d):QU d.ask=0∧Xy mkA x D (D.length:Int) (VM d.ask)=(D,(D.length:Int),d.ans,0):=by
 have J:=h.mem d (List.mem_of_getElem? A);refine⟨J.2,?_⟩;unfold Xy;rw[if_neg (by simpa using XKa Y h W),QBa J.2];unfold ZJa;have E:D.any (QW d.ask)=true:=List.any_eq_true.2 ⟨d,List.mem_of_getElem? A,by simp[QW]⟩;rw[if_neg (by simp)]
 dsimp only
 have Z:D.findIdx (QW d.ask) < D.length:=List.findIdx_lt_length.2 (List.any_eq_true.1 E);have X:QW d.ask (D[D.findIdx (QW d.ask)]'Z)=true:=List.findIdx_getElem;have F:i < D.length:=(List.getElem?_eq_some_iff.1 A).1;have I:D[i]'F=d:=(List.getElem?_eq_some_iff.1 A).2
 have V:D.findIdx (QW d.ask)=i:=by
  have O:=List.pairwise_iff_getElem.1 h.apart
  have Q:(D[D.findIdx (QW d.ask)]'Z).ask.number=d.ask.number:=by simpa [QW] using X
  rcases Nat.lt_trichotomy (D.findIdx (QW d.ask)) i with q | q | q
  ·exact absurd (by rw[I];exact Q) (O _ _ Z F q)
  ·exact q
  ·exact absurd (by rw[I];exact Q.symm) (O _ _ F Z q)
 have U:D.getD (Uq (QW d.ask) D).toNat default=d:=by
  unfold Uq;rw[if_pos E,Int.toNat_natCast,V,List.getD_eq_getElem?_getD,A]
  rfl
 rw[if_pos E,U,if_pos rfl]
noncomputable def tkD (x:Sai) (l:List Ask) (k:Nat):List Don:=(l.take k).foldl (VS x) []
theorem Qlb {x:Sai}{l:List Ask}{k:Nat}{a:Ask}(h:l[k]? = some a):tkD x l (k+1)=VS x (tkD x l k) a:=by unfold tkD;rw[Qn h,List.foldl_append];rfl
theorem X0a {x:Sai}(D:Qp x=0){l:List Ask}(A:∀a∈l,Xb a):∀k,k≤l.length→LogOk x (tkD x l k)∧(tkD x l k).length≤k
 | 0,_=>⟨LogOk.nil D,Nat.le_refl _⟩
 | k+1,hk=>by
  obtain⟨E,I⟩:=X0a D A k (by omega);have F:l[k]? = some (l[k]'hk):=List.getElem?_eq_getElem hk;rw[Qlb F];have:=Ycb x (tkD x l k) (l[k]'hk);exact⟨QFc E (A _ (List.getElem_mem hk)),by omega⟩
end Go.Proofs.YtjdcokpmgionjaaGreat
