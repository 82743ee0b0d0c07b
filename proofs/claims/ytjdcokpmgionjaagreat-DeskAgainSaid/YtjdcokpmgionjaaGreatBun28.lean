/-
  Words, laws and contracts: DeskE, DeskF, DeskG, DeskH, DeskI, DeskJ.
-/
import Derived.Test.YtjdcokpmgionjaaGreatBun25
import Derived.Test.YtjdcokpmgionjaaGreatBun26
import Derived.BigQuiet
set_option linter.unusedSimpArgs false
set_option linter.unusedVariables false
set_option maxRecDepth 100000
set_option maxHeartbeats 20000000
namespace Go.Proofs.YtjdcokpmgionjaaGreat
open Go.RowKit Go.Shelf
structure Mk where
 x:Sai→Ask→Sai
 e:Sai→Ask→Int
def MadeC (P:Sai→Ask→Prop) (mk:Mk):Prop:=∀(x:Sai) (p:SaiV) (a:Ask) (g:Nat) (w:World),SaiR w x p→Blk w g (Qa x p) 129→P x a→
 Calls Tryz.prog 172 #[.pointer (some ⟨g,0,none⟩),.agg (Q1 a)] w fun e w'=>Vz w' w.heap.size (mk.e x a) (mk.x x a) e∧yw w w'
noncomputable def mkN:Mk:=⟨fun x a=>U5 x (Zm x a),fun x a=>Us x (Zm x a) 1⟩
theorem VVa (x:Sai)(a:Ask):(Zm x a).fol=[]:=by unfold Zm;split<;>rfl
theorem UDa {x:Sai}{a:Ask}(h:Xb a)(U:InI x.ship.legs):BkIn (Zm x a):=by
 obtain⟨-,-,A,D,J,E,O,Q,F,-⟩:=h
 have I:InI (stD a):=by unfold stD;split<;>exact .of (by decide) (by decide)
 unfold Zm
 split
 ·exact⟨A,show InI 2 from .of (by decide) (by decide),I,D,show InI (-1)from .of (by decide) (by decide),E,show InI 0 from .of (by decide) (by decide),U,F⟩
 ·exact⟨A,show InI 1 from .of (by decide) (by decide),I,D,J,E,O,Q,F⟩
theorem Xr:MadeC (fun x a=>a.kind=1∧BkIn (Zm x a)) mkN:=by
 intro x p a g w hS hG ⟨hk,hI⟩
 show Calls _ _ _ _ fun e w'=>Vz w' w.heap.size (Us x (Zm x a) 1) (U5 x (Zm x a)) e∧_
 have O:=yh (fun X hX=>UCb x p (Zm x a) none 0 0 X hX (by rw[VVa];exact Sl.nil _ _ _ _) hI);have ax:=yh (fun X hX=>ZBa x p a g X hX);obtain⟨bo,ak⟩:∃b,b=Zm x a:=⟨_,rfl⟩;rw[←ak]at O ax ⊢;obtain⟨R,hR⟩:∃r,r=Us x bo 1:=⟨_,rfl⟩;obtain⟨Y,hY⟩:∃r,r=U5 x bo:=⟨_,rfl⟩;rw[←hR,←hY]at O ⊢;have HS:=yh hS;have Z:=yh (fun X (hX:yw w X)=>hG.bel hX);have aq:=hG.lt;clear ak hR hY hI hS hG;obtain⟨A,n,cap,B,m,ah,D,nd,cd,E,ne,ce,C,nb,cb⟩:=p
 go_enter Tryz.func172,Tryz.ntmps172
 go_upto_region 0 with(fail)
 go_cut [3,4,5] (fun p p2 p3 wx=>∃c z,p=.pointer (some ⟨c,0,none⟩)∧p2=.pointer (some ⟨z,0,none⟩)∧p3=.int .i64 0∧w.heap.size≤z∧w.heap.size≤c∧c≠z∧AskAt wx c a∧Blk wx z #[.int .i64 0,.int .i64 0,.slice none 0 0,.slice none 0 0,.slice none 0 0,.int .i64 0,.int .i64 0,.slice none 0 0,.int .i64 0,.int .i64 0,.int .i64 0,.slice none 0 0,.bool false] 32∧yw w wx)
 case first=>
  clear O ax Z HS
  go_wp2_with fail
  go_meet
  exact⟨_,_,rfl,rfl,rfl,by omega,by omega,by omega,QA _ _ _,QB _ _ _,Zh _ _ _⟩
 obtain⟨c,z,rfl,rfl,rfl,hz,ap,an,hC,hZ,hb⟩:=hcut;obtain⟨I,al⟩:∃V,V=wc:=⟨_,rfl⟩;subst al;have av:=hZ.lt
 have ao:g≠z:=by omega
 have J:=yh (show ∀X,Kept (fun k=>k=z) I X→(fun w'=>yI w' g 0 x.ship.legs∧yI w' g 1 x.ship.souls∧yJ w' g 2 A n cap∧yJ w' g 3 B m ah∧yJ w' g 4 D nd cd∧yI w' g 5 x.fares.alone∧yI w' g 6 x.fares.third∧yJ w' g 7 E ne ce∧yI w' g 8 x.fares.down∧yI w' g 9 x.day∧yI w' g 10 x.leaves∧yJ w' g 11 C nb cb∧w'.cell? ⟨g,12,none⟩=some (.bool x.closed)∧yI w' c 0 a.number∧yI w' c 1 a.kind∧yI w' c 2 a.id∧yI w' c 3 a.guests∧w'.cell? ⟨c,4,none⟩=some (.bool a.level)∧yI w' c 5 a.cabin∧yI w' c 6 a.category∧yI w' c 7 a.frm∧yI w' c 8 a.upto∧yI w' c 9 a.til∧yI w' c 10 a.amount) X from fun X hX=>by
  have hg:=(Z.out _ hb).kept hX ao;have F:Blk X c (Q1 a) 53:=Blk.kept hC hX an;exact⟨hg.cell rfl,hg.cell rfl,hg.cell rfl,hg.cell rfl,hg.cell rfl,hg.cell rfl,hg.cell rfl,hg.cell rfl,hg.cell rfl,hg.cell rfl,hg.cell rfl,hg.cell rfl,hg.cell rfl,F.cell rfl,F.cell rfl,F.cell rfl,F.cell rfl,F.cell rfl,F.cell rfl,F.cell rfl,F.cell rfl,F.cell rfl,F.cell rfl,F.cell rfl⟩)
 have c1:yI I c 1 a.kind:=hC.all.2.1
 have q1:(a.kind == 1)=true:=by rw[hk];rfl
 clear hk;have HB:=yh hb;clear hb;have HZ:=yh hZ;clear hZ;have ac:=O.out;have ab:=ax.out;simp only[Qa]at ac;simp only[Q1]at ab;have ag:=yh ac;have ae:=yh ab;clear ac ab O ax;have HT:=yh (fun X (hX:yw I X)=>HB.out.trans (hX.mono HB.out.size));clear hC
 go_upto_region 3 with(fail)
 clear c1 q1;have aw:yw I I.drew:=(Below.refl _ I).drew
 have W:=fun X (hX:yw I X)=>Kept.of_below (S:=fun k=>k=z) hX (fun k hk h=>by omega)
 refine wp_region_held_drew (S:=(fun w'=>yI w' g 0 x.ship.legs∧yI w' g 1 x.ship.souls∧yJ w' g 2 A n cap∧yJ w' g 3 B m ah∧yJ w' g 4 D nd cd∧yI w' g 5 x.fares.alone∧yI w' g 6 x.fares.third∧yJ w' g 7 E ne ce∧yI w' g 8 x.fares.down∧yI w' g 9 x.day∧yI w' g 10 x.leaves∧yJ w' g 11 C nb cb∧w'.cell? ⟨g,12,none⟩=some (.bool x.closed)∧yI w' c 0 a.number∧yI w' c 1 a.kind∧yI w' c 2 a.id∧yI w' c 3 a.guests∧w'.cell? ⟨c,4,none⟩=some (.bool a.level)∧yI w' c 5 a.cabin∧yI w' c 6 a.category∧yI w' c 7 a.frm∧yI w' c 8 a.upto∧yI w' c 9 a.til∧yI w' c 10 a.amount)) (by kernel_rfl) (J.out _ (W _ aw)) (fun aa=>?_);refine yT [0,1,2,3,4,5] (by kernel_rfl) (by assumption) ?_
 iterate 6 (refine yS (v:=?_) (gA rfl) (fun _ _ _ h=>h) rfl ?_ ?_;rotate_left;(focus (intro w Q;(try dsimp only at Q);go_simp<;>with_reducible rfl));simp only[yP,yA,yB,yC])
 refine yR 6 (by kernel_rfl) (gA rfl) fun K hK=>?_
 go_simp
 (go_at_call 223;refine(ae.out _ (Z.out _ (HT.out _ aw))).mono ?_;rintro e w6 ⟨rfl,aj⟩;replace aw:=aw.trans (aj.mono aw.size);clear aj)
 go_wp2_with fail
 refine hK.out _ _ (J.out _ (W _ aw)) fun aa=>?_
 clear hK K
 try simp only[yP,yQ,yA,yB,yC]
 refine yR 7 (by kernel_rfl) (gA rfl) fun K hK=>?_
 go_simp
 (go_at_call 31;refine(ag.out _ (HS.out.bel (HT.out _ aw))).mono ?_;rintro e w7 ⟨⟨y,p',rfl,hy,hO⟩,U⟩;have ar:=aw.size;replace aw:=aw.trans (U.mono aw.size);have HO:=yh hO;have HY:=yh hy;clear U hO hy)
 go_wp2_with fail
 refine hK.out _ _ (J.out _ (W _ aw)) fun aa=>?_
 clear hK K
 try simp only[yP,yQ,yA,yB,yC]
 refine yT [8,9] (by kernel_rfl) (by assumption) ?_
 iterate 2 (refine yS (v:=?_) (gA rfl) (fun _ _ _ h=>h) rfl ?_ ?_;rotate_left;(focus (intro w Q;(try dsimp only at Q);go_simp<;>with_reducible rfl));simp only[yP,yA,yB,yC])
 refine yR 10 (by kernel_rfl) (gA rfl) fun K hK=>?_
 (refine wp_store_row 32 (.tmp 4) (.tmp 21) rfl _ (Qa y p') rfl rfl 32 _ (HZ.out.bel aw) (by kernel_rfl) rfl (by simp[Value.oneCell']) ?_)
 refine hK.out _ _ (J.out _ ((W _ aw).setRow (.inl rfl) _)) fun aa=>?_
 clear hK K
 try simp only[yP,yQ,yA,yB,yC]
 refine yT [11] (by kernel_rfl) (by assumption) ?_
 iterate 1 (refine yS (v:=?_) (gA rfl) (fun _ _ _ h=>h) rfl ?_ ?_;rotate_left;(focus (intro w Q;(try dsimp only at Q);go_simp<;>with_reducible rfl));simp only[yP,yA,yB,yC])
 refine wpAnyH_done (by kernel_rfl) ?_ _;have am:=HZ.out.bel aw;have ai:Kept (fun k=>k=z) _ (World.setRow _ z (Qa y p')):=(Kept.refl (fun k=>k=z) w7).setRow (.inl rfl) _;have U:=HT.out _ aw;have af:=yh ai;clear ai;have ad:=yh U;clear U;have au:=HB.out.size;clear J W aw HT HB Z HS ag ae
 go_wp2_with fail
 refine bodyPost_ret (v:=.tuple #[.agg (Qa y p'),.int .i64 R]) ((am.row _).ret2 (k:=4) (u:=5) (by kernel_rfl) rfl rfl Tryz.underlying32 (by kernel_rfl) (by kernel_rfl)) rfl ?_;exact⟨⟨y,p',rfl,HY.out,(HO.out.kept af.out (fun k hk e=>by omega)).mono (by omega)⟩,ad.out.trans (af.out.below (B:=w.heap.size) ad.out.size (fun k hk e=>by omega))⟩
def doX (mk:Mk) (x:Sai) (a:Ask):Sai:=if mk.e x a=0 then mk.x x a else x
def owA (X:Sai) (t:Int):Int:=if ZI X.bks t=true then ZR (Vl X t).fol else 0
def doA (mk:Mk) (x:Sai) (a:Ask):Ans:=if mk.e x a=0 then ⟨0,owA (mk.x x a) a.id⟩else ⟨mk.e x a,0⟩
def X7 (P:Sai→Ask→Prop) (mk:Mk):Prop:=∀x a,P x a→mk.e x a=0→Qp (mk.x x a)=0
theorem QPb {P:Sai→Ask→Prop}{mk:Mk}(HM:MadeC P mk)(HR:X7 P mk)(x:Sai)(p:SaiV)(a:Ask)(g base:Nat)(w:World)(O:SaiO w base x p)(a4:base≤w.heap.size)(hG:Blk w g (Qa x p) 129)(hP:P x a)(ha:InI a.id) :
  Calls Tryz.prog 83 #[.pointer (some ⟨g,0,none⟩),.agg (Q1 a)] w fun e w'=>e=.returned (.agg (QK (doA mk x a)))∧(∃p',SaiO w' base (doX mk x a) p'∧Blk w' g (Qa (doX mk x a) p') 129)∧Kept (fun k=>k=g) w w':=by
 have aa:=yh (fun X h1 h2=>HM x p a g X h1 h2 hP);have ac:=yh (HR x a hP);obtain⟨E,hE⟩:∃r,r=mk.e x a:=⟨_,rfl⟩;obtain⟨X,F⟩:∃r,r=mk.x x a:=⟨_,rfl⟩;obtain⟨AN,an⟩:∃r,r=doA mk x a:=⟨_,rfl⟩;obtain⟨DX,ap⟩:∃r,r=doX mk x a:=⟨_,rfl⟩;have af:=yh (show AN=if E=0 then ⟨0,owA X a.id⟩else ⟨E,0⟩by rw[an,hE,F];rfl);have ae:=yh (show DX=if E=0 then X else x by rw[ap,hE,F];rfl);rw[←an,←ap];rw[←hE,←F]at aa ac;have a9:=hG.lt;have HO:=yh (fun V (W:yw w V)=>O.bel W);have HG:=yh (fun V (W:yw w V)=>hG.bel W);clear hE F an ap O hG HM HR hP
 go_enter Tryz.func83,Tryz.ntmps83
 go_upto_region 0 with(fail)
 go_cut [3,4] (fun p p2 Z=>∃c z,p=.pointer (some ⟨c,0,none⟩)∧p2=.pointer (some ⟨z,0,none⟩)∧w.heap.size≤z∧w.heap.size≤c∧c≠z∧AskAt Z c a∧Blk Z z #[.int .i64 0,.int .i64 0] 55∧yw w Z)
 case first=>
  clear aa ac af ae HO HG
  go_wp2_with fail
  go_meet
  exact⟨_,_,rfl,rfl,by omega,by omega,by omega,QA _ _ _,QB _ _ _,Zh _ _ _⟩
 obtain⟨c,z,rfl,rfl,hz,a5,a6,hC,hZ,hb⟩:=hcut;obtain⟨W1,aU⟩:∃V,V=wc:=⟨_,rfl⟩;subst aU;have I:=yh (fun X (F:yw W1 X)=>hb.trans (F.mono hb.size));have HC:=yh (fun X (F:yw W1 X)=>show Blk X c (Q1 a) 53 from Blk.bel hC F);have HZ:=yh (fun X (F:yw W1 X)=>hZ.bel F);have bb:=hb.size;have bg:=hZ.lt;clear hC hZ hb;have hb:yw W1 W1:=Below.refl _ _
 go_upto_region 1 with(fail)
 go_cut [5,6] (fun q r Z=>r=.int .i64 E∧(∃s y p',q=.pointer (some ⟨s,0,none⟩)∧W1.heap.size≤s∧Blk Z s (Qa y p') 32∧y=okS E X∧SaiO Z W1.heap.size y p')∧yw W1 Z)
 case first=>
  have HQ:=yh (aa.out _ ((HO.out _ (I.out _ hb)).sai) (HG.out _ (I.out _ hb)));have hc:=HC.out _ hb;clear aa ac af ae HO HG I HC HZ
  go_wp2_with (refine wpList_load_row rfl 53 (.tmp 3) rfl c rfl 53 _ (0,0) _ hc Tryz.underlying53 rfl (by kernel_rfl) ?_)
  refine HQ.out.mono ?_;rintro e Y ⟨⟨y,p',rfl,hy,O⟩,aM⟩;have aR:=yh O;have aS:=yh hy;have al:=yh aM;clear O hy aM hc
  go_wp2_with (refine wpList_store_row rfl 32 (.tmp 5) (.tmp 13) rfl Y.heap.size (Qa y p') rfl rfl 32 _ (Blk.new Y #[.int .i64 0,.int .i64 0,.slice none 0 0,.slice none 0 0,.slice none 0 0,.int .i64 0,.int .i64 0,.slice none 0 0,.int .i64 0,.int .i64 0,.int .i64 0,.slice none 0 0,.bool false] 32) (by kernel_rfl) rfl (by simp[Value.oneCell']) ?_)
  go_meet
  have aZ:=al.out.size;have aN:yw Y ((Y.alloc (.cells #[.int .i64 0,.int .i64 0,.slice none 0 0,.slice none 0 0,.slice none 0 0,.int .i64 0,.int .i64 0,.slice none 0 0,.int .i64 0,.int .i64 0,.int .i64 0,.slice none 0 0,.bool false] 32)).setRow Y.heap.size (Qa y p')):=below_setRow (Qf Y _) (Nat.le_refl _) _;exact⟨rfl,⟨_,y,p',rfl,aZ,(Blk.new Y _ _).row _,aS.out,aR.out.bel aN⟩,al.out.trans (aN.mono al.out.size)⟩
 obtain⟨rfl,⟨s,y,p',rfl,bf,hS,hy,O⟩,Q⟩:=hcut;obtain⟨J,aV⟩:∃V,V=wc:=⟨_,rfl⟩;subst aV;have aj:=HZ.out _ Q;have ag:=yh (fun(u:Array Value)=>show yw w (J.setRow z u)from(I.out _ Q).trans (((Kept.refl (fun k=>k=z) J).setRow (.inl rfl) u).below (B:=w.heap.size) (I.out _ Q).size (fun k U e=>by omega)));clear hb
 by_cases h0:E=0
 rotate_left
 ·have a2:(E != 0)=true:=by simpa using h0
  obtain rfl:AN=⟨E,0⟩:=by rw[af.out,if_neg h0]
  obtain rfl:DX=x:=by rw[ae.out,if_neg h0]
  clear h0 hS hy O HC aa ac
  go_wp2_with (refine wpList_store_row rfl 55 (.tmp 4) (.tmp 18) rfl z #[.int .i64 E,.int .i64 0] rfl rfl 55 _ aj (by kernel_rfl) rfl (by simp[Value.oneCell']) ?_)
  refine bodyPost_ret (v:=.agg #[.int .i64 E,.int .i64 0]) ((aj.row _).ret (k:=4) (by kernel_rfl) rfl Tryz.underlying55 (by kernel_rfl) (by kernel_rfl)) rfl ?_;exact⟨rfl,⟨p,HO.out _ (ag.out _),HG.out _ (ag.out _)⟩,Kept.of_below (ag.out _) (fun k U h=>by omega)⟩
 subst h0;obtain rfl:y=X:=hy.trans (UJ _);have ab:=yh (Ze (ac.out rfl))
 obtain rfl:DX=y:=by rw[ae.out,if_pos rfl]
 have aF:=yh (af.out.trans (if_pos rfl));have aq:=HG.out _ (I.out _ Q);have ad:Kept (fun k=>k=g) J (J.setRow g (Qa DX p')):=(Kept.refl (fun k=>k=g) J).setRow (.inl rfl) _;have ah:=O.kept ad (fun k U e=>by omega);have ai:=hS.kept ad (by omega);have ao:=(HC.out _ Q).kept ad (by omega);have ax:=aj.kept ad (by omega);have ar:=aq.row (Qa DX p');have aB:Kept (fun k=>k=g) w (J.setRow g (Qa DX p')):=(Kept.of_below (I.out _ Q) (fun k U h=>by omega)).trans ad;have bc:=Q.size
 have aY:(J.setRow g (Qa DX p')).heap.size=J.heap.size:=by simp
 have bd:=(I.out _ Q).size;clear HO HG HC HZ I ag aa ac ae O hy ad Q
 go_upto_region 5 with(first | (refine wpList_load_row rfl 32 (.tmp 5) rfl s rfl 32 _ (0,0) _ hS Tryz.underlying32 rfl (by kernel_rfl) ?_) | (refine wpList_store_row rfl 32 (.tmp 22) (.tmp 20) rfl g (Qa DX p') rfl rfl 129 _ aq (by kernel_rfl) rfl (by simp[Value.oneCell']) ?_))
 obtain⟨W3,aJ⟩:∃V,V=J.setRow g (Qa DX p'):=⟨_,rfl⟩;rw[←aJ]at ah ai ao ax ar aB aY ⊢;clear aJ hS aj aq;have aO:=ah.sai.bks;have aH:=yh (Vs DX p' a.id W3 aO (Zc ab.out.bs.rise) (Zja ab.out) ab.out.bs.len ha);have c2:yI W3 c 2 a.id:=ao.cell rfl
 go_wp2_with (refine wpList_load_row rfl 32 (.tmp 5) rfl s rfl 32 _ (0,0) _ ai Tryz.underlying32 rfl (by kernel_rfl) ?_)
 refine aH.out.mono ?_;rintro e w4 ⟨i,rfl,hi,aE,bh⟩;have av:=ah.bel bh;have aw:=ai.bel bh;have ak:=ax.bel bh;have au:=ar.bel bh;have aC:Kept (fun k=>k=g) w w4:=aB.trans (Kept.of_below bh (fun k U h=>by omega));have be:=bh.size;clear ah ai ax ar aB ao aO aH c2 bh;obtain⟨q,hq⟩:∃q,q=ZI DX.bks a.id:=⟨_,rfl⟩;rw[←hq]
 have aG:=yh (show ∀V (u:Array Value),yw w4 V→(∃p',SaiO (V.setRow z u) base DX p'∧Blk (V.setRow z u) g (Qa DX p') 129)∧Kept (fun k=>k=g) w (V.setRow z u)from fun V u W=>by
  have aI:Kept (fun k=>k=z) V (V.setRow z u):=(Kept.refl (fun k=>k=z) V).setRow (.inl rfl) u;have a3:=W.size;exact⟨⟨p',((av.bel W).kept aI (fun k U e=>by omega)).mono (by omega),(au.bel W).kept aI (by omega)⟩,(aC.trans (Kept.of_below W (fun k U h=>by omega))).setRow (.inr hz) u⟩)
 cases q
 ·obtain rfl:AN=⟨0,0⟩:=by rw[aF.out];unfold owA;rw[←hq];rfl
  clear hq aE av aw au aC
  go_wp2_with (refine wpList_store_row rfl 55 (.tmp 4) (.tmp 32) rfl z #[.int .i64 0,.int .i64 0] rfl rfl 55 _ ak (by kernel_rfl) rfl (by simp[Value.oneCell']) ?_)
  refine bodyPost_ret (v:=.agg #[.int .i64 0,.int .i64 0]) ((ak.row _).ret (k:=4) (by kernel_rfl) rfl Tryz.underlying55 (by kernel_rfl) (by kernel_rfl)) rfl ?_;exact⟨rfl,aG.out _ _ (Below.refl _ _)⟩
 obtain⟨b,hb,aW,ay,-⟩:=QLa (Zc ab.out.bs.rise) hq.symm;have aX:=Zja ab.out b (List.mem_of_getElem? hb);obtain rfl:i=ZG DX.bks a.id:=aE ⟨by omega,by omega⟩
 have aP:Vl DX a.id=b:=by unfold Vl;rw[List.getD_eq_getElem?_getD,hb];rfl
 obtain⟨du,aA⟩:∃d,d=ZR b.fol:=⟨_,rfl⟩
 obtain rfl:AN=⟨0,du⟩:=by rw[aF.out,aA];unfold owA;rw[←hq,if_pos rfl,aP]
 have aQ:=(ab.out.bs.bk b (List.mem_of_getElem? hb)).fol;obtain⟨w0,b0,hW⟩:=av;obtain⟨gc,A3,n3,c3,hC,a7,a8,az,-,hF,-,aD⟩:=hW.at hb;have am:=yh (fun X (F:yw w4 X)=>Xpa A3 n3 c3 b.fol X (hF.bel F) (VO aQ));obtain⟨A,n,cap,B,m,a1,D,nd,cd,E,ne,ce,C,nb,cb⟩:=p';simp only at hC aD;subst hC;obtain⟨k,U⟩:∃k,k=ZG DX.bks a.id:=⟨_,rfl⟩;rw[←U]at az ay ⊢;rw[←aA]at am;have aT:yJ w4 gc (k*11+10) A3 n3 c3:=az 10 _ rfl;have a0:yJ w4 s 11 (some ⟨gc,0,none⟩) nb cb:=aw.cell rfl
 have ba:k < nb:=by rw[←aD];exact ay
 have q1:decide ((k:Int) < (nb:Int))=true:=decide_eq_true (by omega);have q2:decide ((k:Int) < 0)=false:=decide_eq_false (by omega);clear hq aE aw au aC hb aW ay aX aP aQ hW hF az U aA aD hi
 go_wp2_with fail
 refine(am.out _ (Below.refl _ _)).mono ?_;rintro e w5 ⟨rfl,aL⟩;have aK:=ak.bel aL;clear am aT a0 q1 q2 ak
 go_wp2_with (refine wpList_store_row rfl 55 (.tmp 4) (.tmp 40) rfl z #[.int .i64 0,.int .i64 du] rfl rfl 55 _ aK (by kernel_rfl) rfl (by simp[Value.oneCell']) ?_)
 refine bodyPost_ret (v:=.agg #[.int .i64 0,.int .i64 du]) ((aK.row _).ret (k:=4) (by kernel_rfl) rfl Tryz.underlying55 (by kernel_rfl) (by kernel_rfl)) rfl ?_;exact⟨rfl,aG.out _ _ aL⟩
theorem QUa {D:Func}{p q u:Tmp}{ty tz:TypeId}(h:D.results=#[.cell p ty,.cell q tz,.tmp u])(A:Array Value)(P:Program)(w:World) :
  (results D A).run P w=((asAddr (A.getD p undef)).run P w).andThen fun a E=>((loadVar ty a).run P E).andThen fun x F=>((asAddr (A.getD q undef)).run P F).andThen fun b I=>((loadVar tz b).run P I).andThen fun y J=>.ok (.tuple #[x,y,A.getD u undef]) J:=by
 simp only[results,h]
 simp[Sem.run_bind,Result.andThen]
theorem Blk.ret22 {I:Func}{k l u:Tmp}{ty tz t s:TypeId}(W:I.results=#[.cell k ty,.cell l tz,.tmp u]){A:Array Value}{w:World}{g h:Nat}{D E:Array Value}{d F:TypeDesc}(X:Blk w g D t)(Y:Blk w h E s)(hp:A.getD k undef=.pointer (some ⟨g,0,none⟩))(hq:A.getD l undef=.pointer (some ⟨h,0,none⟩)){e:Value}(V:A.getD u undef=e)
  (hu:Tryz.prog.underlying ty=some d) (Q:(match d with | .struct _ | .array _ _=>true | _=>false)=true) (Z:(Tryz.prog.info? ty).map (·.size)=some D.size)
  (ab:Tryz.prog.underlying tz=some F) (U:(match F with | .struct _ | .array _ _=>true | _=>false)=true) (aa:(Tryz.prog.info? tz).map (·.size)=some E.size):(results I A).run Tryz.prog w=.ok (.tuple #[.agg D,.agg E,e]) w:=by
 have J:=X.ld hu Q Z;have O:=Y.ld ab U aa;rw[QUa (p:=k) (q:=l) (u:=u) (ty:=ty) (tz:=tz) W,hp,hq,V];simp only[asAddr,Sem.run_pure,Result.andThen,J,O]
theorem UP {w:World}{b z:Nat}{A:Array Value}{t:TypeId}(h:Blk w b A t)(D:b≠z)(u:Array Value):Blk (w.setRow z u) b A t:=h.kept ((Kept.refl (fun k=>k=z) w).setRow (.inl rfl) u) D
noncomputable def V1a (x:Sai) (a:Ask):Int:=if Qp x≠0 then Qp x else QU a
def okA (e:Int) (a:Ans):Ans:=if e=0 then a else ⟨0,0⟩
theorem QPa (a:Ans):okA 0 a=a:=rfl
theorem Q8b {e:Int}(h:¬e=0)(a:Ans):okA e a=⟨0,0⟩:=if_neg h
def DoR (w':World) (base:Nat) (E:Int) (X:Sai) (N:Ans) (e:Ending):Prop:=∃y p' an,e=.returned (.tuple #[.agg (Qa y p'),.agg (QK an),.int .i64 E])∧y=okS E X∧an=okA E N∧SaiO w' base y p'
theorem VYb {P:Sai→Ask→Prop}{mk:Mk}(HM:MadeC P mk)(HR:X7 P mk)(x:Sai)(p:SaiV)(a:Ask)(w:World)(hS:SaiR w x p)(hP:Qp x=0→QU a=0→P x a)(ha:InI a.id) :
  Calls Tryz.prog 20 #[.agg (Qa x p),.agg (Q1 a)] w fun e w'=>DoR w' w.heap.size (V1a x a) (doX mk x a) (doA mk x a) e∧yw w w':=by
 have ah:=yh (fun X I=>Q8 x p X I);have ag:=yh (fun X=>Un a X);have ao:=yh (fun X h ho=>ZU x p X h ho);have ai:=yh (fun p2 g base X h1 h2 h3 hp=>QPb HM HR x p2 a g base X h1 h2 h3 hp ha);obtain⟨r,hr⟩:∃r,r=Qp x:=⟨_,rfl⟩;obtain⟨k,hk⟩:∃r,r=QU a:=⟨_,rfl⟩;obtain⟨R,hR⟩:∃r,r=V1a x a:=⟨_,rfl⟩;obtain⟨DX,ar⟩:∃r,r=doX mk x a:=⟨_,rfl⟩;obtain⟨F,aq⟩:∃r,r=doA mk x a:=⟨_,rfl⟩;have aj:=yh (show R=if r≠0 then r else k by rw[hR,hr,hk];rfl);have aF:=yh hr;rw[←hr]at ah hP;rw[←hk]at ag hP;rw[←ar,←aq]at ai;rw[←hR,←ar,←aq];have HP:=yh hP;have HS:=yh hS;clear hr hk hR ar aq hS hP;obtain⟨A,n,cap,B,m,aS,D,nd,cd,E,ne,ce,C,nb,cb⟩:=p
 go_enter Tryz.func20,Tryz.ntmps20
 go_upto_region 0 with(fail)
 go_cut [2,3,4,5,6] (fun p p2 p3 p4 p5 wx=>∃g c z q,p=.pointer (some ⟨g,0,none⟩)∧p2=.pointer (some ⟨c,0,none⟩)∧p3=.pointer (some ⟨z,0,none⟩)∧p4=.pointer (some ⟨q,0,none⟩)∧p5=.int .i64 0∧w.heap.size≤z∧w.heap.size≤q∧z≠q∧
  Blk wx g (Qa x ⟨A,n,cap,B,m,aS,D,nd,cd,E,ne,ce,C,nb,cb⟩) 32∧AskAt wx c a∧Blk wx z #[.int .i64 0,.int .i64 0,.slice none 0 0,.slice none 0 0,.slice none 0 0,.int .i64 0,.int .i64 0,.slice none 0 0,.int .i64 0,.int .i64 0,.int .i64 0,.slice none 0 0,.bool false] 32∧Blk wx q #[.int .i64 0,.int .i64 0] 55∧yw w wx)
 case first=>
  clear ah ag ao ai aj aF HP HS
  go_wp2_with fail
  go_meet
  exact⟨_,_,_,_,rfl,rfl,rfl,rfl,rfl,by omega,by omega,by omega,((Blk.new w _ _).old _).old _ |>.old _,((Blk.new1 w _ _ _).old _).old _,(Blk.new2 w _ _ _ _).old _,Blk.new3 w _ _ _ _ _,(Q8a _ _ _ _).alloc (by simp;omega) _⟩
 obtain⟨g,c,z,q,rfl,rfl,rfl,rfl,rfl,hz,hq,Y,hG,hC,hZ,hQ,ak⟩:=hcut;obtain⟨J,aT⟩:∃V,V=wc:=⟨_,rfl⟩;subst aT;have HT:=yh (fun X (I:yw J X)=>ak.trans (I.mono ak.size));have HG:=yh (fun X (I:yw J X)=>hG.bel I);have HC:=yh (fun X (I:yw J X)=>show Blk X c (Q1 a) 53 from Blk.bel hC I);have HZ:=yh (fun X (I:yw J X)=>hZ.bel I);have HQ:=yh (fun X (I:yw J X)=>hQ.bel I);have ap:=yh (fun X (I:yw J X)=>HS.out.bel (HT.out X I));have a7:=hZ.lt;have a5:=hQ.lt;have a6:=ak.size
 have af:=yh (show ∀V u u2,yw J V→yw w ((V.setRow z u).setRow q u2)from fun V u u2 I=>
  ((HT.out V I).trans ((((Kept.refl (fun k=>k=z∨k=q) V).setRow (.inl (.inl rfl)) u).setRow (.inl (.inr rfl)) u2).below (B:=w.heap.size) (HT.out V I).size (fun k hk e=>by omega))))
 have an:=yh (show ∀(E':Int) V,¬E'=0→yw J V→DoR ((V.setRow z (Qa Qr Qv)).setRow q #[.int .i64 0,.int .i64 0]) w.heap.size E' DX F (.returned (.tuple #[.agg (Qa Qr Qv),.agg #[.int .i64 0,.int .i64 0],.int .i64 E']))∧yw w ((V.setRow z (Qa Qr Qv)).setRow q #[.int .i64 0,.int .i64 0])from fun E' V h0 I=>
  ⟨⟨Qr,Qv,⟨0,0⟩,rfl,(Qca h0 _).symm,(Q8b h0 _).symm,Vx _ _ (af.out V _ _ I).size⟩,af.out V _ _ I⟩)
 have hb:yw J J:=Below.refl _ _;clear hG hC hZ hQ ak;have aa:=yh (ah.out _ (ap.out _ hb))
 go_upto_region 1 with(fail)
 go_wp2_with (refine wpList_load_row rfl 32 (.tmp 2) rfl g rfl 32 _ (0,0) _ (HG.out _ hb) Tryz.underlying32 rfl (by kernel_rfl) ?_)
 refine aa.out.mono ?_;rintro e w1 ⟨rfl,aL⟩;replace hb:=hb.trans (aL.mono hb.size);clear aL aa ah
 by_cases q0:r=0
 rotate_left
 ·obtain rfl:R=r:=by rw[aj.out,if_pos q0]
  have q1:(R != 0)=true:=by simpa using q0
  have q2:(R == 0)=false:=by simpa using q0
  have Q0:=yh q0;clear q0;have W:=HZ.out _ hb;have ac:=HQ.out _ hb;have a8:=UP ac (Ne.symm Y) (Qa Qr Qv);have ae:=UP (W.row (Qa Qr Qv)) Y #[.int .i64 0,.int .i64 0]
  go_wp2_with (first | (refine wpList_store_row rfl 32 (.tmp 4) (.tmp 18) rfl z (Qa Qr Qv) rfl rfl 32 _ W (by kernel_rfl) rfl (by simp[Value.oneCell']) ?_) | (refine wpList_store_row rfl 55 (.tmp 5) (.tmp 19) rfl q #[.int .i64 0,.int .i64 0] rfl rfl 55 _ a8 (by kernel_rfl) rfl (by simp[Value.oneCell']) ?_))
  refine bodyPost_ret (v:=.tuple #[.agg (Qa Qr Qv),.agg #[.int .i64 0,.int .i64 0],.int .i64 R]) (Blk.ret22 (k:=4) (l:=5) (u:=6) (by kernel_rfl) ae (a8.row #[.int .i64 0,.int .i64 0]) rfl rfl rfl Tryz.underlying32 (by kernel_rfl) (by kernel_rfl) Tryz.underlying55 (by kernel_rfl) (by kernel_rfl)) rfl ?_;exact an.out _ _ Q0.out hb
 obtain rfl:R=k:=by rw[aj.out,if_neg (by rw[q0];simp)]
 have aQ:=yh (Ze (aF.out.symm.trans q0));have aE:=yh (HP.out q0);subst q0;have hc:=HC.out _ hb
 go_wp2_with (refine wpList_load_row rfl 53 (.tmp 3) rfl c rfl 53 _ (0,0) _ hc Tryz.underlying53 rfl (by kernel_rfl) ?_)
 refine(ag.out _).mono ?_;rintro e w2 ⟨rfl,aM⟩;replace hb:=hb.trans (aM.mono hb.size);clear aM ag hc
 by_cases q0:R=0
 rotate_left
 ·have q1:(R != 0)=true:=by simpa using q0
  have Q0:=yh q0;clear q0;have W:=HZ.out _ hb;have ac:=HQ.out _ hb;have a8:=UP ac (Ne.symm Y) (Qa Qr Qv);have ae:=UP (W.row (Qa Qr Qv)) Y #[.int .i64 0,.int .i64 0]
  go_wp2_with (first | (refine wpList_store_row rfl 32 (.tmp 4) (.tmp 18) rfl z (Qa Qr Qv) rfl rfl 32 _ W (by kernel_rfl) rfl (by simp[Value.oneCell']) ?_) | (refine wpList_store_row rfl 55 (.tmp 5) (.tmp 19) rfl q #[.int .i64 0,.int .i64 0] rfl rfl 55 _ a8 (by kernel_rfl) rfl (by simp[Value.oneCell']) ?_))
  refine bodyPost_ret (v:=.tuple #[.agg (Qa Qr Qv),.agg #[.int .i64 0,.int .i64 0],.int .i64 R]) (Blk.ret22 (k:=4) (l:=5) (u:=6) (by kernel_rfl) ae (a8.row #[.int .i64 0,.int .i64 0]) rfl rfl rfl Tryz.underlying32 (by kernel_rfl) (by kernel_rfl) Tryz.underlying55 (by kernel_rfl) (by kernel_rfl)) rfl ?_;exact an.out _ _ Q0.out hb
 subst q0;have aR:=yh (aE.out rfl);have aa:=yh (ao.out _ (ap.out _ hb) aQ.out);clear aj HP aE ao;have aV:=hb.size
 go_wp2_with (refine wpList_load_row rfl 32 (.tmp 2) rfl g rfl 32 _ (0,0) _ (HG.out _ hb) Tryz.underlying32 rfl (by kernel_rfl) ?_)
 refine aa.out.mono ?_;rintro e Q ⟨p3,rfl,aI,az⟩;replace hb:=hb.trans (az.mono hb.size);have hc:=(HC.out _ hb).bel (Qf Q (.cells (Qa x p3) 129));have aJ:=aI.bel (Qf Q (.cells (Qa x p3) 129));have aW:=az.size;have aD:=yh (ai.out p3 Q.heap.size w2.heap.size _ aJ (by simp;omega) (Blk.new Q (Qa x p3) 129) aR.out);have HB:=yh (hb.trans ((Qf Q (.cells (Qa x p3) 129)).mono hb.size));clear aI aJ az aa ai hb
 go_wp2_with (refine wpList_load_row rfl 53 (.tmp 3) rfl c rfl 53 _ (0,0) _ hc Tryz.underlying53 rfl (by kernel_rfl) ?_)
 refine aD.out.mono ?_;rintro e U ⟨rfl,⟨p5,ax,au⟩,aH⟩
 have aY:Q.heap.size < (Q.alloc (.cells (Qa x p3) 129)).heap.size:=by simp
 have hb:yw J U:=HB.out.trans (aH.below (B:=J.heap.size) HB.out.size (fun j hj e=>by omega));have aC:=yh (show w.heap.size≤U.heap.size∧J.heap.size≤w2.heap.size∧J.heap.size≤U.heap.size from⟨(HT.out _ hb).size,aV,hb.size⟩);clear aD aH hc HB
 go_wp2_with fail
 have av:=au.bel (Qf U (.cells #[.int .i64 F.errno,.int .i64 F.owed] 55));have ab:=ax.bel (Qf U (.cells #[.int .i64 F.errno,.int .i64 F.owed] 55));have aw:=Blk.new U #[.int .i64 F.errno,.int .i64 F.owed] 55;replace hb:=hb.trans ((Qf U (.cells #[.int .i64 F.errno,.int .i64 F.owed] 55)).mono hb.size);have aZ:=au.lt;have a1:w2.heap.size≤Q.heap.size:=aW;have aX:=ax;clear au ax aX aY;obtain⟨gk,aA⟩:∃n,n=Q.heap.size:=⟨_,rfl⟩;obtain⟨Z,aB⟩:∃n,n=U.heap.size:=⟨_,rfl⟩;obtain⟨w6,ad⟩:∃V,V=U.alloc (.cells #[.int .i64 F.errno,.int .i64 F.owed] 55):=⟨_,rfl⟩;rw[←ad,←aA]at av;rw[←ad]at ab hb;rw[←ad,←aB]at aw;rw[←aA,←aB,←ad]
 have a2:gk≠z:=by omega
 have a0:gk≠q:=by omega
 have aU:=aC.out
 have a4:Z≠z:=by omega
 have a3:Z≠q:=by omega
 have HK:=yh (show ∀X,Kept (fun k=>k=z∨k=q) w6 X→(fun w'=>yI w' gk 0 DX.ship.legs∧yI w' gk 1 DX.ship.souls∧yJ w' gk 2 p5.A p5.n p5.cap∧yJ w' gk 3 p5.B p5.m p5.cap2∧yJ w' gk 4 p5.D p5.nd p5.cd∧yI w' gk 5 DX.fares.alone∧yI w' gk 6 DX.fares.third∧yJ w' gk 7 p5.E p5.ne p5.ce∧yI w' gk 8 DX.fares.down∧yI w' gk 9 DX.day∧yI w' gk 10 DX.leaves∧yJ w' gk 11 p5.C p5.nb p5.cb∧w'.cell? ⟨gk,12,none⟩=some (.bool DX.closed)∧yI w' Z 0 F.errno∧yI w' Z 1 F.owed) X from fun X I=>by
  have O:=av.kept I (by omega);have hn:=aw.kept I (by omega);exact⟨O.cell rfl,O.cell rfl,O.cell rfl,O.cell rfl,O.cell rfl,O.cell rfl,O.cell rfl,O.cell rfl,O.cell rfl,O.cell rfl,O.cell rfl,O.cell rfl,O.cell rfl,hn.cell rfl,hn.cell rfl⟩)
 have al:=hb.drew;have W:=HZ.out _ al;have ac:=HQ.out _ al;have a8:=UP ac (Ne.symm Y) (Qa DX p5);have ae:=UP (W.row (Qa DX p5)) Y (QK F);have aO:=yh (af.out w6.drew (Qa DX p5) (QK F) al);replace ab:=ab.bel (Below.refl _ _).drew;have aN:=Kept.refl (fun k=>k=z∨k=q) w6.drew;have aK:=(ab.kept ((aN.setRow (.inl (.inl rfl)) (Qa DX p5)).setRow (.inl (.inr rfl)) (QK F)) (fun k hk e=>by omega)).mono (show w.heap.size≤w2.heap.size by omega);have aP:=yh aK;clear aK;have am:=Kept.refl (fun k=>k=z∨k=q) w6;clear ap an af HZ HQ HG HC HT av aw ad aA aB aC aU;refine wp_region_held_drew (S:=(fun w'=>yI w' gk 0 DX.ship.legs∧yI w' gk 1 DX.ship.souls∧yJ w' gk 2 p5.A p5.n p5.cap∧yJ w' gk 3 p5.B p5.m p5.cap2∧yJ w' gk 4 p5.D p5.nd p5.cd∧yI w' gk 5 DX.fares.alone∧yI w' gk 6 DX.fares.third∧yJ w' gk 7 p5.E p5.ne p5.ce∧yI w' gk 8 DX.fares.down∧yI w' gk 9 DX.day∧yI w' gk 10 DX.leaves∧yJ w' gk 11 p5.C p5.nb p5.cb∧w'.cell? ⟨gk,12,none⟩=some (.bool DX.closed)∧yI w' Z 0 F.errno∧yI w' Z 1 F.owed)) (by kernel_rfl) (HK.out _ am.drew) (fun aG=>?_);refine yT [0,1,2,3,4] (by kernel_rfl) (by assumption) ?_
 iterate 5 (refine yS (v:=?_) (gA rfl) (fun _ _ _ h=>h) rfl ?_ ?_;rotate_left;(focus (intro w ay;(try dsimp only at ay);go_simp<;>with_reducible rfl));simp only[yP,yA,yB,yC])
 refine yR 5 (by kernel_rfl) (gA rfl) fun K hK=>?_
 (refine wp_store_row 32 (.tmp 4) (.tmp 31) rfl _ (Qa DX p5) rfl rfl 32 _ W (by kernel_rfl) rfl (by simp[Value.oneCell']) ?_)
 refine hK.out _ _ (HK.out _ (am.drew.setRow (.inl (.inl rfl)) _)) fun aG=>?_
 clear hK K
 try simp only[yP,yQ,yA,yB,yC]
 refine yR 6 (by kernel_rfl) (gA rfl) fun K hK=>?_
 (refine wp_store_row 55 (.tmp 5) (.tmp 32) rfl _ (QK F) rfl rfl 55 _ a8 (by kernel_rfl) rfl (by simp[Value.oneCell']) ?_)
 refine hK.out _ _ (HK.out _ ((am.drew.setRow (.inl (.inl rfl)) _).setRow (.inl (.inr rfl)) _)) fun aG=>?_
 clear hK K
 try simp only[yP,yQ,yA,yB,yC]
 refine yT [7] (by kernel_rfl) (by assumption) ?_
 iterate 1 (refine yS (v:=?_) (gA rfl) (fun _ _ _ h=>h) rfl ?_ ?_;rotate_left;(focus (intro w ay;(try dsimp only at ay);go_simp<;>with_reducible rfl));simp only[yP,yA,yB,yC])
 refine wpAnyH_done (by kernel_rfl) ?_ _;clear HK am aN ab al
 go_wp2_with fail
 refine bodyPost_ret (v:=.tuple #[.agg (Qa DX p5),.agg (QK F),.int .i64 0]) (Blk.ret22 (k:=4) (l:=5) (u:=6) (by kernel_rfl) ae (a8.row (QK F)) rfl rfl rfl Tryz.underlying32 (by kernel_rfl) (by kernel_rfl) Tryz.underlying55 (by kernel_rfl) (by kernel_rfl)) rfl ?_;exact⟨⟨DX,p5,F,rfl,(UJ _).symm,(QPa _).symm,aP.out⟩,aO.out⟩
def QW (a:Ask) (o:Don):Bool:=o.ask.number == a.number
noncomputable def opn (mk:Mk):Sai→List Don→List Don→Sai×Int
 | x,_,[]=>(x,0)
 | x,pre,d::l=>if QU d.ask≠0 then (x,QU d.ask)else if pre.any (QW d.ask)=true then (x,6)else if doA mk x d.ask=d.ans then opn mk (doX mk x d.ask) (pre++[d]) l else (x,4)
noncomputable def VT (mk:Mk) (x:Sai) (l:List Don) (wr:Int):Int:=if Qp x≠0 then Qp x else if 30 < l.length then 2 else if wrB wr l.length=false then 3 else (opn mk x [] l).2
noncomputable def U4 (mk:Mk) (x:Sai) (l:List Don):Sai:=(opn mk x [] l).1
theorem Yjb {mk:Mk}{y:Sai}{l:List Don}{k:Nat}{d:Don}(A:l[k]? = some d):opn mk y (l.take k) (l.drop k)=if QU d.ask≠0 then (y,QU d.ask)else if (l.take k).any (QW d.ask)=true then (y,6)else if doA mk y d.ask=d.ans then opn mk (doX mk y d.ask) (l.take (k+1)) (l.drop (k+1))else (y,4):=by
 obtain⟨h,D⟩:=List.getElem?_eq_some_iff.1 A;rw[List.drop_eq_getElem_cons h,D,Qn A]
 rfl
theorem Zqc {P:Sai→Ask→Prop}{mk:Mk}(A:X7 P mk){x:Sai}{a:Ask}(h:Qp x=0)(D:P x a):Qp (doX mk x a)=0:=by
 unfold doX
 by_cases q:mk.e x a=0
 ·rw[if_pos q];exact A x a D q
 ·rw[if_neg q];exact h
theorem Vrb (x:Don)(no:Int)(d:Nat)(w:World)(A:yI w d 0 no) :
  Calls Tryz.prog 155 #[.agg (VC x),.pointer (some ⟨d,0,none⟩)] w fun e w'=>e=.returned (.bool (x.ask.number == no))∧yw w w':=by
 have D:=Ub A;unfold VC
 go_enter Tryz.func155,Tryz.ntmps155
 go_wp2_with fail
 go_ret
 exact⟨rfl,Qf _ _⟩
theorem VNb (x:Don)(no:Int)(d:Nat)(w:World)(A:yI w d 0 no) :
  Calls Tryz.prog 135 #[.agg (VC x),.pointer (some ⟨d,0,none⟩)] w fun e w'=>e=.returned (.bool (x.ask.number == no))∧yw w w':=by
 have D:=Ub A;unfold VC
 go_enter Tryz.func135,Tryz.ntmps135
 go_wp2_with fail
 go_ret
 exact⟨rfl,Qf _ _⟩
def OpR (w':World) (base:Nat) (E:Int) (X:Sai) (e:Ending):Prop:=(∃g p',E=0∧e=.returned (.tuple #[.pointer (some ⟨g,0,none⟩),.int .i64 0])∧base≤g∧Blk w' g (Qa X p') 129∧SaiO w' base X p'∧Qp X=0)∨(¬E=0∧e=.returned (.tuple #[.pointer none,.int .i64 E]))
theorem QDa {P:Sai→Ask→Prop}{mk:Mk}(HM:MadeC P mk)(HR:X7 P mk)(x:Sai)(p:SaiV)(A:Option Addr)(n cap:Nat)(l:List Don)(wr:Int)(w:World)(hS:SaiR w x p)(hl:Sl ZL 13 w All A n cap l)
  (hP:∀y,Qp y=0→∀d∈l,QU d.ask=0→P y d.ask) :
  Calls Tryz.prog 75 #[.agg (Qa x p),.agg #[.slice A n cap,.int .i64 wr]] w fun e w'=>OpR w' w.heap.size (VT mk x l wr) (U4 mk x l) e∧yw w w':=by
 have aq:=yh (fun X hX=>Q8 x p X hX);have aF:=yh (fun X h ho=>ZU x p X h ho);have aX:=hl.len;have bB:n≤maxLen:=Nat.le_trans hl.le hl.max;have bI:=hl.bd;obtain⟨r,hr⟩:∃r,r=Qp x:=⟨_,rfl⟩;obtain⟨R,hR⟩:∃r,r=VT mk x l wr:=⟨_,rfl⟩;obtain⟨O,hO⟩:∃r,r=opn mk x [] l:=⟨_,rfl⟩;obtain⟨X,hX⟩:∃r,r=U4 mk x l:=⟨_,rfl⟩
 have bg:X=O.1:=by rw[hX,hO];rfl
 have aw:=yh (show R=if r≠0 then r else if 30 < n then 2 else if wrB wr n=false then 3 else O.2 by rw[hR,hr,←aX,hO];rfl);have aI:=yh hr;rw[←hr]at aq;rw[←hR,←hX];have HS:=yh hS;have HL:=yh hl;have HO:=yh hO;have ai:=yh bg;have HN:=yh aX;have aC:=yh (show n≤30→n≤1000000000000000000 from fun h=>by omega);have aK:=yh (fun X (h:n≤1000000000000000000)=>ZMa A n cap wr X h);clear hr hR hO hX bg hS hl aX bB;obtain⟨AA,nn,bs,B,m,br,D,nd,cd,E,ne,ce,C,nb,cb⟩:=p
 go_enter Tryz.func75,Tryz.ntmps75
 go_upto_region 0 with(fail)
 go_cut [2,3,4,5] (fun p p2 Y p4 wx=>∃g h,p=.pointer (some ⟨g,0,none⟩)∧p2=.pointer (some ⟨h,0,none⟩)∧Y=.pointer none∧p4=.int .i64 0∧Blk wx g (Qa x ⟨AA,nn,bs,B,m,br,D,nd,cd,E,ne,ce,C,nb,cb⟩) 32∧Blk wx h #[.slice A n cap,.int .i64 wr] 39∧yw w wx)
 case first=>
  clear aq aF aw aI HS HL HO ai HN aC aK
  go_wp2_with fail
  go_meet
  exact⟨_,_,rfl,rfl,rfl,rfl,QA _ _ _,QB _ _ _,Zh _ _ _⟩
 obtain⟨g,h,rfl,rfl,rfl,rfl,hG,hH,az⟩:=hcut;obtain⟨W1,bu⟩:∃V,V=wc:=⟨_,rfl⟩;subst bu;have I:=yh (fun X (hX:yw W1 X)=>az.trans (hX.mono az.size));have HG:=yh (fun X (hX:yw W1 X)=>hG.bel hX);have HH:=yh (fun X (hX:yw W1 X)=>hH.bel hX);have aJ:=yh (fun X (hX:yw W1 X)=>HS.out.bel (I.out X hX));have bD:=az.size;have hb:yw W1 W1:=Below.refl _ _;clear hG hH az HS;have ah:=yh (aq.out _ (aJ.out _ hb))
 go_wp2_with (refine wpList_load_row rfl 32 (.tmp 2) rfl g rfl 32 _ (0,0) _ (HG.out _ hb) Tryz.underlying32 rfl (by kernel_rfl) ?_)
 refine ah.out.mono ?_;rintro e w1 ⟨rfl,bh⟩;replace hb:=hb.trans (bh.mono hb.size);clear bh ah aq
 by_cases q0:r=0
 rotate_left
 ·obtain rfl:R=r:=by rw[aw.out,if_pos q0]
  have q1:(R != 0)=true:=by simpa using q0
  have Q0:=yh q0;clear q0
  go_wp2_with fail
  go_ret2
  exact⟨.inr ⟨Q0.out,rfl⟩,I.out _ hb⟩
 have aE:=yh (aI.out.symm.trans q0);have aG:=yh (aw.out.trans (if_neg (by rw[q0];simp)));subst q0;clear aw aI;have h0:yJ w1 h 0 A n cap:=(HH.out _ hb).cell rfl;have h1:yI w1 h 1 wr:=(HH.out _ hb).cell rfl
 by_cases q3:30 < n
 ·obtain rfl:R=2:=by rw[aG.out,if_pos q3]
  have q4:decide (30 < (n:Int))=true:=decide_eq_true (by omega);clear q3
  go_wp2_with fail
  go_ret2
  exact⟨.inr ⟨by decide,rfl⟩,I.out _ hb⟩
 have q4:decide (30 < (n:Int))=false:=decide_eq_false (by omega);have aH:=yh (aG.out.trans (if_neg q3))
 have bC:n≤30:=by omega
 clear q3 aG
 go_wp2_with fail
 refine(aK.out _ (aC.out bC)).mono ?_;rintro e w2 ⟨rfl,bi⟩;replace hb:=hb.trans (bi.mono hb.size);clear bi aK h0 h1 q4
 by_cases q5:wrB wr n=false
 ·obtain rfl:R=3:=by rw[aH.out,if_pos q5]
  go_wp2_with fail
  go_ret2
  exact⟨.inr ⟨by decide,rfl⟩,I.out _ hb⟩
 obtain rfl:R=O.2:=by rw[aH.out,if_neg q5]
 have q6:wrB wr n=true:=by cases h:wrB wr n;exact absurd h q5;rfl
 clear q5 aH;have ah:=yh (aF.out _ (aJ.out _ hb) (Ze aE.out));have bE:=hb.size
 have h0:∀X,yw W1 X→yJ X h 0 A n cap:=fun X hX=>(HH.out _ hX).cell rfl
 have ar:=yh h0;clear h0
 go_wp2_with (refine wpList_load_row rfl 32 (.tmp 2) rfl g rfl 32 _ (0,0) _ (HG.out _ hb) Tryz.underlying32 rfl (by kernel_rfl) ?_)
 refine ah.out.mono ?_;rintro e w3 ⟨Y,rfl,am,aR⟩;replace hb:=hb.trans (aR.mono hb.size);have bR:=am.bel (Qf w3 (.cells (Qa x Y) 129));have aN:=Blk.new w3 (Qa x Y) 129;have bM:=aR.size;have aA:=hb.trans ((Qf w3 (.cells (Qa x Y) 129)).mono hb.size);clear am aR ah aF q6 hb
 go_upto_region 9 with(fail)
 obtain⟨ck,aT⟩:∃n,n=w3.heap.size:=⟨_,rfl⟩;obtain⟨w4,aB⟩:∃V,V=w3.alloc (.cells (Qa x Y) 129):=⟨_,rfl⟩
 have bK:W1.heap.size≤ck:=by omega
 rw[←aB]at bR aA;rw[←aB,←aT]at aN;rw[←aT,←aB];have a0:=yh aA;have ag:=yh (bR.mono (show W1.heap.size≤w2.heap.size from bE));have a3:=yh aN;have h0:yJ w4 h 0 A n cap:=ar.out _ aA;clear bR aA aN aB aT
 go_wp2_with fail
 clear h0
 go_loopg [33] n (fun gx i wr=>∃(k:Nat) (y:Sai) (p':SaiV),k≤n∧n - k≤gx∧i=.int .i64 k∧Hid (Qp y=0∧O=opn mk y (l.take k) (l.drop k))∧Hid (SaiO wr W1.heap.size y p')∧Hid (Blk wr ck (Qa y p') 129)∧yw W1 wr)
 case atStart=>exact⟨0,x,Y,Nat.zero_le _,by omega,rfl,yh ⟨aE.out,by rw[HO.out];rfl⟩,ag,a3,a0.out⟩
 case round=>
  obtain⟨k,y,p',hk,bA,rfl,U,ax,ae,hb⟩:=hrel;obtain⟨W5,bv⟩:∃W,W=wr:=⟨_,rfl⟩;subst bv;have h0:yJ W5 h 0 A n cap:=ar.out _ hb
  by_cases hlt:k < n
  rotate_left
  ·obtain rfl:k=n:=by omega
   have Q:O=(y,0):=by
    have:=U.out.2;rw[List.drop_eq_nil_of_le (Nat.le_of_eq HN.out)]at this;exact this
   clear hlt hk bA;have J:=yh Q;clear Q
   go_wp2_with fail
   go_ret2
   refine⟨.inl ⟨ck,p',by rw[J.out],rfl,by omega,?_,?_,?_⟩,I.out _ hb⟩
   ·rw[ai.out,J.out];exact ae.out
   ·rw[ai.out,J.out];exact ax.out.mono bD
   ·rw[ai.out,J.out];exact U.out.1
  obtain⟨ba,bF,d,rfl,hx,hi,hc⟩:=(HL.out.bel (I.out _ hb)).don hlt;obtain⟨c0,c1,c2,c3,c4,c5,c6,c7,c8,c9,aj,ak,al⟩:=Yta hc;have HX:=yh hx;have bz:decide ((k:Int) < (n:Int))=true:=decide_eq_true (by omega);have HI:=yh hi;clear hx hi hc
  go_upto_region 11 with(fail)
  go_cut [8,9] (fun i p wx=>i=.int .i64 (k:Int)∧∃q,p=.pointer (some ⟨q,0,none⟩)∧W5.heap.size≤q∧Blk wx q (VC d) 106∧yw W5 wx)
  case first=>
   clear aE ai HO HN HL aC I HG HH aJ ar ag a3 a0 U ax ae HX HI
   go_wp2_with fail
   go_meet
   exact⟨rfl,_,rfl,Nat.le_refl _,Blk.new W5 _ _,Qf W5 _⟩
  obtain⟨rfl,q,rfl,F,hD,ao⟩:=hcut;obtain⟨W6,bw⟩:∃V,V=wc:=⟨_,rfl⟩;subst bw;clear c0 c1 c2 c3 c4 c5 c6 c7 c8 c9 aj ak al bz;have bO:=ao.size;have bN:=hb.size;have bJ:ck < W5.heap.size:=ae.out.lt
  have au:=yh (show ∀X,Kept (fun j=>j=ck) W6 X→(fun w'=>yI w' q 0 d.ask.number∧yI w' q 1 d.ask.kind∧yI w' q 2 d.ask.id∧yI w' q 3 d.ask.guests∧w'.cell? ⟨q,4,none⟩=some (.bool d.ask.level)∧yI w' q 5 d.ask.cabin∧yI w' q 6 d.ask.category∧yI w' q 7 d.ask.frm∧yI w' q 8 d.ask.upto∧yI w' q 9 d.ask.til∧yI w' q 10 d.ask.amount∧yI w' q 11 d.ans.errno∧yI w' q 12 d.ans.owed) X from fun X hX=>by
   have F:=hD.kept hX (by omega);exact⟨F.cell rfl,F.cell rfl,F.cell rfl,F.cell rfl,F.cell rfl,F.cell rfl,F.cell rfl,F.cell rfl,F.cell rfl,F.cell rfl,F.cell rfl,F.cell rfl,F.cell rfl⟩)
  have bj:=hb.trans (ao.mono hb.size);have a4:=yh (ae.out.bel ao);have a8:=yh (ax.out.bel ao);have bf:=Yjb (mk:=mk) (y:=y) HX.out;have ay:=U.out.2.trans bf;have af:=yh ay;have Z:=Un d.ask W6;obtain⟨ce,aS⟩:∃c,c=QU d.ask:=⟨_,rfl⟩;rw[←aS]at Z ay;simp only[Q1]at Z;have a2:=yh aS;have Z:=yh Z;have hb:=bj;have aU:=Kept.refl (fun j=>j=ck) W6;obtain⟨c0,c1,c2,c3,c4,c5,c6,c7,c8,c9,aj,ak,al⟩:=au.out _ aU;clear hD ao ae ax h0 bf aS bj af;have af:=yh ay;clear ay
  go_wp2_with fail
  refine Z.out.mono ?_;rintro e w7 ⟨rfl,ab⟩;clear Z;have bS:=hb.trans (ab.mono hb.size);have aV:=aU.trans (Kept.of_below ab (fun j hj h=>by omega));have a5:=yh (a4.out.bel ab);have a9:=yh (a8.out.bel ab);have bP:=ab.size;clear c0 c1 c2 c3 c4 c5 c6 c7 c8 c9 aj ak al hb ab aU a4 a8;have hb:=bS;clear bS;obtain⟨c0,c1,c2,c3,c4,c5,c6,c7,c8,c9,aj,ak,al⟩:=au.out _ aV;have h0:yJ w7 h 0 (some ⟨ba,bF,none⟩) n cap:=ar.out _ hb
  by_cases e0:ce=0
  rotate_left
  ·have Q:O=(y,ce):=af.out.trans (if_pos e0)
   have e1:(ce != 0)=true:=by simpa using e0
   have J:=yh Q;have E0:=yh e0;clear Q e0
   go_wp2_with fail
   go_ret2
   exact⟨.inr ⟨by rw[J.out];exact E0.out,by rw[J.out];rfl⟩,I.out _ hb⟩
  have am:=af.out.trans (if_neg (fun c=>c e0));subst e0;have aD:=yh am;have a6:=yh (hP y U.out.1 d (List.mem_of_getElem? HX.out) a2.out.symm);clear am af a2;have a7:=(HL.out.bel (I.out _ hb)).pre hk;obtain⟨tw,aZ⟩:∃t,t=(l.take k).any (QW d.ask):=⟨_,rfl⟩;have ad:=QZa _ k cap (l.take k) 155 #[.pointer (some ⟨q,0,none⟩)] (QW d.ask) w7 a7 (enters_of Tryz.func155 (by kernel_rfl) rfl) (fun x2 w8 _ bS=>Vrb x2 d.ask.number q w8 (Qg bS c0));rw[←aZ]at ad;have ad:=yh ad
  have bL:k≤cap:=by have:=HL.out.le;omega
  have bb:=yh aZ;have bx:decide ((k:Int) < 0)=false:=decide_eq_false (by omega);clear aZ a7
  go_wp2_with fail
  refine ad.out.mono ?_;rintro e w9 ⟨rfl,ac⟩;clear ad;have bS:=hb.trans (ac.mono hb.size);have aW:=aV.trans (Kept.of_below ac (fun j hj h=>by omega));have bm:=yh (a5.out.bel ac);have bp:=yh (a9.out.bel ac);have bQ:=ac.size;clear c0 c1 c2 c3 c4 c5 c6 c7 c8 c9 aj ak al hb ac aV a5 a9 h0 bx;have hb:=bS;clear bS
  cases tw
  rotate_left
  ·have Q:O=(y,6):=aD.out.trans (if_pos bb.out.symm)
   have J:=yh Q;clear Q
   go_wp2_with fail
   go_ret2
   exact⟨.inr ⟨by rw[J.out];exact(show ¬(6:Int)=0 by decide),by rw[J.out];rfl⟩,I.out _ hb⟩
  have bR:=aD.out.trans (if_neg (by rw[←bb.out];decide));obtain⟨AN,aL⟩:∃a,a=doA mk y d.ask:=⟨_,rfl⟩;obtain⟨DX,aM⟩:∃a,a=doX mk y d.ask:=⟨_,rfl⟩;have aa:=QPb HM HR y p' d.ask ck W1.heap.size w9.drew (bp.out.bel (Below.refl _ _).drew) (show W1.heap.size≤w9.heap.size by omega) (bm.out.bel (Below.refl _ _).drew) a6.out HI.out.1.2.2.1;have aQ:=Zqc HR U.out.1 a6.out;rw[←aL,←aM]at aa bR;rw[←aM]at aQ;have bq:=yh aQ;have ag:=yh bR;have bG:=yh aL;simp only[Q1]at aa;have aa:=yh aa
  have bk:=fun W=>Xbb AN d.ans W
  obtain⟨tv,aY⟩:∃t,t=decide (AN≠d.ans):=⟨_,rfl⟩;rw[←aY]at bk;have bT:=yh aY;clear bR aL aM aQ aY aD U
  go_upto_region 17 with(fail)
  have ap:=aW.drew;have bH:=yh aW;have a1:=yh hb.drew;clear aW hb;refine wp_region_held_drew (S:=(fun w'=>yI w' q 0 d.ask.number∧yI w' q 1 d.ask.kind∧yI w' q 2 d.ask.id∧yI w' q 3 d.ask.guests∧w'.cell? ⟨q,4,none⟩=some (.bool d.ask.level)∧yI w' q 5 d.ask.cabin∧yI w' q 6 d.ask.category∧yI w' q 7 d.ask.frm∧yI w' q 8 d.ask.upto∧yI w' q 9 d.ask.til∧yI w' q 10 d.ask.amount∧yI w' q 11 d.ans.errno∧yI w' q 12 d.ans.owed)) (by kernel_rfl) (au.out _ ap) (fun bt=>?_);refine yT [0,1,2,4,5] (by kernel_rfl) (by assumption) ?_
  iterate 5 (refine yS (v:=?_) (gA rfl) (fun _ _ _ h=>h) rfl ?_ ?_;rotate_left;(focus (intro w aP;(try dsimp only at aP);go_simp<;>with_reducible rfl));simp only[yP,yA,yB,yC])
  refine yR 3 (by kernel_rfl) (gA rfl) fun K hK=>?_
  go_simp
  (go_at_call 83;refine aa.out.mono ?_;rintro e wA ⟨rfl,⟨pA,be,bc⟩,aO⟩;have bo:=yh be;have bl:=yh bc;replace ap:=ap.trans aO;have bn:=yh aO;clear be bc aO)
  go_wp2_with fail
  refine hK.out _ _ (au.out _ ap) fun bt=>?_
  clear hK K
  try simp only[yP,yQ,yA,yB,yC]
  refine yT [6] (by kernel_rfl) (by assumption) ?_
  iterate 1 (refine yS (v:=?_) (gA rfl) (fun _ _ _ h=>h) rfl ?_ ?_;rotate_left;(focus (intro w aP;(try dsimp only at aP);go_simp<;>with_reducible rfl));simp only[yP,yA,yB,yC])
  refine wpAnyH_done (by kernel_rfl) ?_ _;have hb:yw W1 wA:=a1.out.trans (bn.out.below (B:=W1.heap.size) a1.out.size (fun j hj e=>by omega));clear ap aa bk
  cases tv
  ·have an:=ag.out.trans (if_pos (by have:=bT.out;simpa using this))
   have av:=yh an;clear an
   go_wp2_with fail
   go_roundg (n - (k+1))
   case measure=>omega
   case rel=>exact⟨k+1,DX,pA,by omega,by omega,by go_num,yh ⟨bq.out,av.out⟩,bo,bl,hb⟩
  ·have an:O=(y,4):=ag.out.trans (if_neg (by have:=bT.out;simpa using this))
   have av:=yh an;clear an
   go_wp2_with fail
   go_ret2
   exact⟨.inr ⟨by rw[av.out];exact(show ¬(4:Int)=0 by decide),by rw[av.out];rfl⟩,I.out _ hb⟩
theorem VNa {P:Sai→Ask→Prop}{mk:Mk}(Y:MadeC P mk)(HR:X7 P mk)(x:Sai)(p:SaiV)(A:Option Addr)(n cap:Nat)(l:List Don)(wr:Int)(w:World)(hS:SaiR w x p)(hl:Sl ZL 13 w All A n cap l)
  (hP:∀y,Qp y=0→∀d∈l,QU d.ask=0→P y d.ask) :
  Calls Tryz.prog 16 #[.agg (Qa x p),.agg #[.slice A n cap,.int .i64 wr]] w fun e w'=>Vz w' w.heap.size (VT mk x l wr) (U4 mk x l) e∧yw w w':=by
 have am:=yh (fun X h1 h2=>QDa Y HR x p A n cap l wr X h1 h2 hP);obtain⟨R,hR⟩:∃r,r=VT mk x l wr:=⟨_,rfl⟩;obtain⟨X,hX⟩:∃r,r=U4 mk x l:=⟨_,rfl⟩;rw[←hR,←hX]at am ⊢;have U:=yh hS;have Q:=yh hl;clear hR hX hS hl hP Y HR;obtain⟨AA,nn,af,B,m,ae,D,nd,cd,E,ne,ce,C,nb,cb⟩:=p
 go_enter Tryz.func16,Tryz.ntmps16
 go_upto_region 0 with(fail)
 go_cut [2,3,4,5] (fun p p2 p3 p4 J=>∃g h z,p=.pointer (some ⟨g,0,none⟩)∧p2=.pointer (some ⟨h,0,none⟩)∧p3=.pointer (some ⟨z,0,none⟩)∧p4=.int .i64 0∧w.heap.size≤z∧Blk J g (Qa x ⟨AA,nn,af,B,m,ae,D,nd,cd,E,ne,ce,C,nb,cb⟩) 32∧Blk J h #[.slice A n cap,.int .i64 wr] 39∧Blk J z #[.int .i64 0,.int .i64 0,.slice none 0 0,.slice none 0 0,.slice none 0 0,.int .i64 0,.int .i64 0,.slice none 0 0,.int .i64 0,.int .i64 0,.int .i64 0,.slice none 0 0,.bool false] 32∧yw w J)
 case first=>
  clear am U Q
  go_wp2_with fail
  go_meet
  exact⟨_,_,_,rfl,rfl,rfl,rfl,by omega,Yd _ _ _ _,Ye _ _ _ _,Yf _ _ _ _,Q8a _ _ _ _⟩
 obtain⟨g,h,z,rfl,rfl,rfl,rfl,hz,hG,hH,W,hb⟩:=hcut;have Z:=yh (am.out _ (U.out.bel hb) (Q.out.bel hb));have al:=W.lt;have ai:=hb.size
 go_wp2_with (first | (refine wpList_load_row rfl 32 (.tmp 2) rfl g rfl 32 _ (0,0) _ hG Tryz.underlying32 rfl (by kernel_rfl) ?_) | (refine wpList_load_row rfl 39 (.tmp 3) rfl h rfl 39 _ (0,0) _ hH Tryz.underlying39 rfl (by kernel_rfl) ?_))
 refine Z.out.mono ?_;rintro e w2 ⟨ah,an⟩;have F:=W.bel an;replace hb:=hb.trans (an.mono hb.size);clear hG hH W an Z am U Q;have O:=yh (fun u=>(hb.trans (((Kept.refl (fun k=>k=z) w2).setRow (.inl rfl) u).below (B:=w.heap.size) hb.size (fun k hk e=>by omega)):yw w (w2.setRow z u)))
 rcases ah with⟨ck,I,rfl,rfl,ak,ag,ab,-⟩ | ⟨V,rfl⟩
 rotate_left
 ·have aj:(R != 0)=true:=by simpa using V
  have H0:=yh V;clear V hb
  go_wp2_with (refine wpList_store_row rfl 32 (.tmp 4) (.tmp 16) rfl z (Qa Qr Qv) rfl rfl 32 _ F (by kernel_rfl) rfl (by simp[Value.oneCell']) ?_)
  refine bodyPost_ret (v:=.tuple #[.agg (Qa Qr Qv),.int .i64 R]) ((F.row _).ret2 (k:=4) (u:=5) (by kernel_rfl) rfl rfl Tryz.underlying32 (by kernel_rfl) (by kernel_rfl)) rfl ?_;exact⟨⟨Qr,Qv,rfl,(Qca H0.out _).symm,Vx _ _ (O.out _).size⟩,O.out _⟩
 have aa:Kept (fun k=>k=z) w2 (w2.setRow z (Qa X I)):=(Kept.refl (fun k=>k=z) w2).setRow (.inl rfl) _;have ac:=(ab.kept aa (fun k hk e=>by omega)).mono ai;have ad:=yh ac;clear ac;clear hb ab aa
 go_wp2_with (first | (refine wpList_load_row rfl 32 (.tmp 20) rfl ck rfl 129 _ (0,0) _ ag Tryz.underlying32 rfl (by kernel_rfl) ?_) | (refine wpList_store_row rfl 32 (.tmp 4) (.tmp 21) rfl z (Qa X I) rfl rfl 32 _ F (by kernel_rfl) rfl (by simp[Value.oneCell']) ?_))
 refine bodyPost_ret (v:=.tuple #[.agg (Qa X I),.int .i64 0]) ((F.row _).ret2 (k:=4) (u:=5) (by kernel_rfl) rfl rfl Tryz.underlying32 (by kernel_rfl) (by kernel_rfl)) rfl ?_;exact⟨⟨X,I,rfl,(UJ _).symm,ad.out⟩,O.out _⟩
end Go.Proofs.YtjdcokpmgionjaaGreat
