/-
  Words, laws and contracts: StockP, StockQ.
-/
import Derived.Test.YtjdcokpmgionjaaGreatBun17
import Derived.Shelf.Spec.SlicesInsertGrow
set_option linter.unusedSimpArgs false
set_option linter.unusedVariables false
set_option maxRecDepth 100000
set_option maxHeartbeats 20000000
namespace Go.Proofs.YtjdcokpmgionjaaGreat
open Go.RowKit Go.Shelf
structure FixO (w:World) (base:Nat) (x:Sai) (p:SaiV):Prop where
 cats:∃xs,Own Xya 2 134 w base (.slice p.A p.n p.cap) x.ship.cats xs
 cabs:∃xs,Own ZW 4 136 w base (.slice p.B p.m p.cap2) x.ship.cabs xs
 leg:∃xs,Own XTa 1 70 w base (.slice p.D p.nd p.cd) x.fares.leg xs
 bands:∃xs,Own UH 2 138 w base (.slice p.E p.ne p.ce) x.fares.bands xs
 a:InI x.fares.alone
 t:InI x.fares.third
 d:InI x.fares.down
theorem FixO.keep {w w':World}{base:Nat}{x:Sai}{p:SaiV}(h:FixO w base x p)(A:∀b,base≤b→b < w.heap.size→w'.heap[b]? = w.heap[b]?):FixO w' base x p:=by
 obtain⟨J,D⟩:=h.cats;obtain⟨O,E⟩:=h.cabs;obtain⟨Q,F⟩:=h.leg;obtain⟨U,I⟩:=h.bands;exact⟨⟨J,D.keep ZY A⟩,⟨O,E.keep Zg A⟩,⟨Q,F.keep ZZ A⟩,⟨U,I.keep Qs A⟩,h.a,h.t,h.d⟩
def SaiW (w0:World) (b0:Nat) (w:World) (base:Nat) (x:Sai) (p:SaiV):Prop:=
 base≤b0∧b0≤w0.heap.size∧w0.heap.size≤w.heap.size∧(∀k,b0≤k→k < w0.heap.size→w.heap[k]? = w0.heap[k]?)∧FixO w0 b0 x p∧∃xs,Own Vj 11 63 w w0.heap.size (.slice p.C p.nb p.cb) x.bks xs
def SaiO (w:World) (base:Nat) (x:Sai) (p:SaiV):Prop:=∃(w0:World) (b0:Nat),SaiW w0 b0 w base x p
section
variable {w w':World} {base:Nat} {x:Sai} {p:SaiV}
theorem SaiO.mono {A:Nat}(h:SaiO w base x p)(F:A≤base):SaiO w A x p:=by
 obtain⟨I,D,E,r⟩:=h;exact⟨I,D,Nat.le_trans F E,r⟩
theorem SaiO.keep (h:SaiO w base x p)(X:w.heap.size≤w'.heap.size)(A:∀b,base≤b→b < w.heap.size→w'.heap[b]? = w.heap[b]?):SaiO w' base x p:=by
 obtain⟨Y,D,E,F,I,J,O,xs,Q⟩:=h;exact⟨Y,D,E,F,Nat.le_trans I X,fun k U V=>(A k (by omega) (by omega)).trans (J k U V),O,xs,Q.keep Zi fun b Z W=>A b (by omega) W⟩
theorem SaiO.bel (h:SaiO w base x p)(A:yw w w'):SaiO w' base x p:=h.keep A.size fun b _ D=>A.block b D
theorem SaiO.kept {S:Nat→Prop}(h:SaiO w base x p)(A:Kept S w w')(D:∀k,base≤k→¬S k):SaiO w' base x p:=h.keep A.size fun b E F=>A.block b F (D b E)
theorem Own.slAll {α:Type}{c Y:Cod α}{size:Nat}{e:TypeId}{v:Value}{l:List α}{xs:List Value}{A:Option Addr}{n cap:Nat}(h:Own c size e w base v l xs)(I:Good c)(J:Good Y)(O:0 < size)(F:∀{w S x D},c w S x D→Y w S x D)(E:v=.slice A n cap):Sl Y size w All A n cap l:=by
 obtain⟨V,X,W,U,Q⟩:=h.sl I;rw[U]at E;simp only[Value.slice.injEq]at E;obtain⟨rfl,rfl,rfl⟩:=E;exact(Q.mono_cod fun x D h=>F h).all J O
theorem SaiO.sai (h:SaiO w base x p):SaiR w x p:=by
 obtain⟨X,Q,U,V,W,D,A,xs,E⟩:=h;have A:=A.keep (w':=w) D;obtain⟨Y,F⟩:=A.cats;obtain⟨Z,I⟩:=A.cabs;obtain⟨aa,J⟩:=A.leg;obtain⟨ab,O⟩:=A.bands;exact⟨F.slAll ZY ZB (by omega) (fun h=>VYa h) rfl,I.slAll Zg Zg (by omega) (fun h=>h) rfl,⟨J.slAll ZZ (Zt Qb (by omega)) (by omega) (fun h=>Y7a h) rfl,O.slAll Qs Qs (by omega) (fun h=>h) rfl,A.a,A.t,A.d⟩,E.slAll Zi YE (by omega) (fun h=>Q9a h) rfl⟩
end
theorem Qbc {D A:World}{base:Nat}{v:Value}{l:List Bkg}{xs U:List Value}{b:Bkg}{E:Option Addr}{O F:Nat}(W:Own Vj 11 63 D base v l xs)(Y:base≤D.heap.size)(X:D.heap.size≤A.heap.size)
  (I:Own Qw 3 140 A D.heap.size (.slice E O F) b.fol U) (V:BkIn b) :
  Sl Vj 11 (A.alloc (.cells (Qz b (.slice E O F)) 63)) (QO base v) (some ⟨A.heap.size,0,none⟩) 1 1 [b]:=by
 have Q:∀k,D.heap.size≤k→some k≠v.ownBlock:=fun k J e=>by have:=(W.lt k e.symm).2;omega
 exact Sl.lit1 A (QO base v) 63 b (Qz b (.slice E O F)).toList ⟨_,rfl,⟨U,(I.bel (Qf A _)).mono Qd (Nat.zero_le _),fun k J=>⟨by have:=(I.lt k J).1;omega,Q k (I.lt k J).1⟩⟩,V⟩ ⟨by omega,Q _ X⟩
theorem QMa (w:World)(q:Nat)(l:List (Nat×Value)):Kept (fun k=>k=q) w (l.foldl (fun w p=>w.setCell ⟨q,p.1,none⟩ p.2) w):=by
 have:∀(l:List (Nat×Value)) (u:World),Kept (fun k=>k=q) w u→Kept (fun k=>k=q) w (l.foldl (fun w p=>w.setCell ⟨q,p.1,none⟩ p.2) u):=by
  intro l
  induction l with
  | nil=>exact fun u h=>h
  | cons x l ih=>exact fun u h=>ih _ (h.setCell (p:=⟨q,x.1,none⟩) (.inl rfl) x.2)
 exact this l w (Kept.refl _ _)
theorem ZU (x:Sai)(p:SaiV)(w:World)(h:SaiR w x p)(ho:OkSai x) :
  Calls Tryz.prog 82 #[.agg (Qa x p)] w fun e w'=>∃p',e=.returned (.agg (Qa x p'))∧SaiO w' w.heap.size x p'∧yw w w':=by
 obtain⟨A,n,cap,B,m,ao,D,nd,cd,E,ne,ce,C,nb,cb⟩:=p;have hl:Sl Vb 11 w All C nb cb x.bks:=h.bks;have hc:Sl Um 2 w All A n cap x.ship.cats:=h.cats;have hd:Sl ZW 4 w All B m ao x.ship.cabs:=h.cabs;have hf:FareR w D nd cd x.fares E ne ce:=h.fares;have aA:=YG ho.fares
 have bQ:n≤1000:=by have:=ho.bs.ship.cats5;rw[hc.len]at this;omega
 have bO:m≤1000:=by have:=ho.bs.ship.cabs12;rw[hd.len]at this;omega
 have b9:nb≤16:=by have:=ho.bs.len;rwa [hl.len]at this
 have bR:nd≤1000:=by have h1:=aA.len;have h2:=aA.cr;have:=hf.leg.len;omega
 have bS:ne≤1000:=by have:=aA.four;have:=hf.bands.len;omega
 have bD:=yh (fun W h1 h2=>Qcb x.ship A n cap B m ao W h1 h2 bQ bO (fun c hc=>by have:=ho.bs.ship.ok.few c hc;omega));have bq:=yh (fun W h1=>YBa x.fares D nd cd E ne ce W h1 bR bS (fun c hc=>by have:=aA.lens c hc;have:=aA.mr;omega));have br:=yh (fun b (hb:b∈x.bks)=>US (ho.bs.bk b hb).fol);have aS:=yh (show InI x.fares.alone∧InI x.fares.third∧InI x.fares.down from⟨hf.a,hf.t,hf.d⟩);have bz:=yh hl.len;have HL:=yh hl;have HC:=yh hc;have HD:=yh hd;have HF:=yh hf;clear h hl hc hd hf aA ho
 go_enter Tryz.func82,Tryz.ntmps82
 go_upto_region 0 with(fail)
 go_cut [1,2] (fun p p2 wx=>∃g z,p=.pointer (some ⟨g,0,none⟩)∧p2=.pointer (some ⟨z,0,none⟩)∧w.heap.size≤g∧w.heap.size≤z∧g≠z∧Blk wx g (Qa x ⟨A,n,cap,B,m,ao,D,nd,cd,E,ne,ce,C,nb,cb⟩) 32∧Blk wx z #[.int .i64 0,.int .i64 0,.slice none 0 0,.slice none 0 0,.slice none 0 0,.int .i64 0,.int .i64 0,.slice none 0 0,.int .i64 0,.int .i64 0,.int .i64 0,.slice none 0 0,.bool false] 32∧yw w wx)
 case first=>as_aux_lemma=>
  go_wp2_with fail
  go_meet
  exact⟨_,_,rfl,rfl,Nat.le_refl _,by omega,by omega,QA _ _ _,QB _ _ _,Zh _ _ _⟩
 obtain⟨g,z,rfl,rfl,hg,hz,b8,hG,hZ,hb⟩:=hcut;obtain⟨W1,bI⟩:∃V,V=wc:=⟨_,rfl⟩;subst bI;have bX:=hb.size
 go_upto_region 1 with(fail)
 go_cut [3] (fun p wx=>∃q,p=.pointer (some ⟨q,0,none⟩)∧W1.heap.size≤q∧Blk wx q (Qa x ⟨A,n,cap,B,m,ao,D,nd,cd,E,ne,ce,C,nb,cb⟩) 32∧yw W1 wx)
 case first=>as_aux_lemma=>
  go_wp2_with (first | (refine wpList_load_row rfl 32 (.tmp 1) rfl g rfl 32 _ (0,0) _ hG Tryz.underlying32 rfl (by kernel_rfl) ?_) | (refine wpList_store_row rfl 32 (.tmp 3) (.tmp 6) rfl W1.heap.size (Qa x ⟨A,n,cap,B,m,ao,D,nd,cd,E,ne,ce,C,nb,cb⟩) rfl rfl 32 _ (Blk.new W1 #[.int .i64 0,.int .i64 0,.slice none 0 0,.slice none 0 0,.slice none 0 0,.int .i64 0,.int .i64 0,.slice none 0 0,.int .i64 0,.int .i64 0,.int .i64 0,.slice none 0 0,.bool false] 32) (by kernel_rfl) rfl (by simp[Value.oneCell']) ?_))
  go_meet
  exact⟨_,rfl,Nat.le_refl _,(Blk.new _ _ _).row _,below_setRow (Qf _ _) (Nat.le_refl _) _⟩
 obtain⟨q,rfl,hq,hQ,aF⟩:=hcut;have b7:=hG.lt;have cc:=hZ.lt;have ca:=hQ.lt;replace hG:=hG.bel aF;replace hZ:=hZ.bel aF;replace hb:=hb.trans (aF.mono hb.size);have bW:=aF.size;clear aF;obtain⟨W2,bJ⟩:∃V,V=wc:=⟨_,rfl⟩;subst bJ;have HG:=yh hG;clear hG;have HZ:=yh hZ;clear hZ;have HQ:=yh hQ;clear hQ;have HB:=yh hb;clear hb;have aI:=yh (show ∀X,yw W2 X→(fun w'=>yI w' g 0 x.ship.legs∧yI w' g 1 x.ship.souls∧yJ w' g 2 A n cap∧yJ w' g 3 B m ao∧yJ w' g 4 D nd cd∧yI w' g 5 x.fares.alone∧yI w' g 6 x.fares.third∧yJ w' g 7 E ne ce∧yI w' g 8 x.fares.down) X from fun X hX=>⟨(HG.out.bel hX).cell rfl,(HG.out.bel hX).cell rfl,(HG.out.bel hX).cell rfl,(HG.out.bel hX).cell rfl,(HG.out.bel hX).cell rfl,(HG.out.bel hX).cell rfl,(HG.out.bel hX).cell rfl,(HG.out.bel hX).cell rfl,(HG.out.bel hX).cell rfl⟩)
 go_upto_region 2 with(fail)
 go_cut [3] (fun p wx=>p=.pointer (some ⟨q,0,none⟩)∧∃J n1 Q O m1 U Y ac aa Z ad cj,Blk wx q (Qa x ⟨J,n1,Q,O,m1,U,Y,ac,aa,Z,ad,cj,none,0,0⟩) 32∧FixO wx W2.heap.size x ⟨J,n1,Q,O,m1,U,Y,ac,aa,Z,ad,cj,none,0,0⟩∧Kept (fun k=>k=q) W2 wx)
 case first=>as_aux_lemma=>
  have cg:yw W2 W2.drew:=(Below.refl _ W2).drew;have HT:=yh (fun X (hX:yw W2 X)=>HB.out.trans (hX.mono HB.out.size));refine wp_region_held_drew (S:=(fun w'=>yI w' g 0 x.ship.legs∧yI w' g 1 x.ship.souls∧yJ w' g 2 A n cap∧yJ w' g 3 B m ao∧yJ w' g 4 D nd cd∧yI w' g 5 x.fares.alone∧yI w' g 6 x.fares.third∧yJ w' g 7 E ne ce∧yI w' g 8 x.fares.down)) (by kernel_rfl) (aI.out _ cg) (fun ae=>?_);refine yT [0,1,3,4] (by kernel_rfl) (by assumption) ?_
  iterate 4 (refine yS (v:=?_) (gA rfl) (fun _ _ _ h=>h) rfl ?_ ?_;rotate_left;(focus (intro w al;(try dsimp only at al);go_simp<;>with_reducible rfl));simp only[yP,yA,yB,yC])
  refine yR 2 (by kernel_rfl) (gA rfl) fun K hK=>?_
  go_simp
  (go_at_call 169;refine(bD.out _ (HC.out.bel (HT.out _ cg)) (HD.out.bel (HT.out _ cg))).mono ?_;rintro e w4 ⟨J,n1,Q,O,m1,U,aB,b2,rfl,af,aO,bd⟩;have ay:=cg.size;replace af:=af.mono ZY ay;replace aO:=aO.mono Zg ay;replace cg:=cg.trans (bd.mono cg.size);have H1:=yh af;have H2:=yh aO;clear af aO bd ay)
  go_wp2_with fail
  refine hK.out _ _ (aI.out _ cg) fun ae=>?_
  clear hK K
  try simp only[yP,yQ,yA,yB,yC]
  refine yT [6] (by kernel_rfl) (by assumption) ?_
  iterate 1 (refine yS (v:=?_) (gA rfl) (fun _ _ _ h=>h) rfl ?_ ?_;rotate_left;(focus (intro w al;(try dsimp only at al);go_simp<;>with_reducible rfl));simp only[yP,yA,yB,yC])
  refine yR 5 (by kernel_rfl) (gA rfl) fun K hK=>?_
  go_simp
  (go_at_call 170;refine(bq.out _ (HF.out.below (HT.out _ cg))).mono ?_;rintro e I ⟨Y,ac,aa,Z,ad,cj,b3,b4,rfl,aP,aQ,aR⟩;have ay:=cg.size;replace aP:=aP.mono ZZ ay;replace aQ:=aQ.mono Qs ay;have bm:=yh (H1.out.bel aR);have bn:=yh (H2.out.bel aR);replace cg:=cg.trans (aR.mono cg.size);have H3:=yh aP;have H4:=yh aQ;clear aP aQ aR ay)
  go_wp2_with fail
  refine hK.out _ _ (aI.out _ cg) fun ae=>?_
  clear hK K
  try simp only[yP,yQ,yA,yB,yC]
  have ch:=HQ.out.bel cg;have a9:=HG.out.bel cg;have q0:yI I q 0 x.ship.legs:=ch.cell rfl;have q1:yI I q 1 x.ship.souls:=ch.cell rfl;have q2:yJ I q 2 A n cap:=ch.cell rfl;have q3:yJ I q 3 B m ao:=ch.cell rfl;have q4:yJ I q 4 D nd cd:=ch.cell rfl;have q5:yI I q 5 x.fares.alone:=ch.cell rfl;have q6:yI I q 6 x.fares.third:=ch.cell rfl;have q7:yJ I q 7 E ne ce:=ch.cell rfl;have q8:yI I q 8 x.fares.down:=ch.cell rfl;have bl:yJ I q 11 C nb cb:=ch.cell rfl;have f0:=ch.free 0;have f1:=ch.free 1;have f2:=ch.free 2;have f3:=ch.free 3;have f4:=ch.free 4;have f5:=ch.free 5;have f6:=ch.free 6;have f7:=ch.free 7;have f8:=ch.free 8;have a7:=ch.free 11;have aD:=yh (show ∀X,Blk X g (Qa x ⟨A,n,cap,B,m,ao,D,nd,cd,E,ne,ce,C,nb,cb⟩) 32→(fun w'=>yI w' g 0 x.ship.legs∧yI w' g 1 x.ship.souls∧yJ w' g 2 A n cap∧yJ w' g 3 B m ao∧yJ w' g 4 D nd cd∧yI w' g 5 x.fares.alone∧yI w' g 6 x.fares.third∧yJ w' g 7 E ne ce∧yI w' g 8 x.fares.down) X from fun X hX=>⟨hX.cell rfl,hX.cell rfl,hX.cell rfl,hX.cell rfl,hX.cell rfl,hX.cell rfl,hX.cell rfl,hX.cell rfl,hX.cell rfl⟩)
  have aG:¬g=q:=by omega
  have bp:=yh cg;have aC:=yh ch;have a4:=yh a9;clear ch a9
  refine yR 7 (by kernel_rfl) (gA rfl) fun K hK=>?_
  go_simp
  refine hK.out _ _ (aD.out _ (a4.out.kept (show Kept (fun k=>k=q) I ((((I.setCell ⟨q,0,none⟩ (.int .i64 x.ship.legs)).setCell ⟨q,1,none⟩ (.int .i64 x.ship.souls)).setCell ⟨q,2,none⟩ (.slice J n1 Q)).setCell ⟨q,3,none⟩ (.slice O m1 U))from QMa I q [(0,.int .i64 x.ship.legs),(1,.int .i64 x.ship.souls),(2,.slice J n1 Q),(3,.slice O m1 U)]) aG)) fun ae=>?_
  clear hK K
  try simp only[yP,yQ,yA,yB,yC]
  have ci:Blk ((((I.setCell ⟨q,0,none⟩ (.int .i64 x.ship.legs)).setCell ⟨q,1,none⟩ (.int .i64 x.ship.souls)).setCell ⟨q,2,none⟩ (.slice J n1 Q)).setCell ⟨q,3,none⟩ (.slice O m1 U)) q #[.int .i64 x.ship.legs,.int .i64 x.ship.souls,.slice J n1 Q,.slice O m1 U,.slice D nd cd,.int .i64 x.fares.alone,.int .i64 x.fares.third,.slice E ne ce,.int .i64 x.fares.down,.int .i64 x.day,.int .i64 x.leaves,.slice C nb cb,.bool x.closed] 32:=(((aC.out.set (j:=0) _).set (j:=1) _).set (j:=2) _).set (j:=3) _;have aL:Kept (fun k=>k=q) I ((((I.setCell ⟨q,0,none⟩ (.int .i64 x.ship.legs)).setCell ⟨q,1,none⟩ (.int .i64 x.ship.souls)).setCell ⟨q,2,none⟩ (.slice J n1 Q)).setCell ⟨q,3,none⟩ (.slice O m1 U)):=QMa I q [(0,.int .i64 x.ship.legs),(1,.int .i64 x.ship.souls),(2,.slice J n1 Q),(3,.slice O m1 U)];clear q0 q1 q2 q3 q4 q5 q6 q7 q8 bl f0 f1 f2 f3 f4 f5 f6 f7 f8 a7 ae;obtain⟨F,bg⟩:∃V,V=((((I.setCell ⟨q,0,none⟩ (.int .i64 x.ship.legs)).setCell ⟨q,1,none⟩ (.int .i64 x.ship.souls)).setCell ⟨q,2,none⟩ (.slice J n1 Q)).setCell ⟨q,3,none⟩ (.slice O m1 U)):=⟨_,rfl⟩;rw[←bg]at ci aL ⊢;clear bg;have aU:=a4.out.kept aL aG;have ae:=aD.out _ aU;have q4:yJ F q 4 D nd cd:=ci.cell rfl;have q5:yI F q 5 x.fares.alone:=ci.cell rfl;have q6:yI F q 6 x.fares.third:=ci.cell rfl;have q7:yJ F q 7 E ne ce:=ci.cell rfl;have q8:yI F q 8 x.fares.down:=ci.cell rfl;have f4:=ci.free 4;have f5:=ci.free 5;have f6:=ci.free 6;have f7:=ci.free 7;have f8:=ci.free 8;have bB:=yh ci;have bw:=yh aL;have a5:=yh aU;clear ci aL aU;refine yT [8] (by kernel_rfl) (by assumption) ?_
  iterate 1 (refine yS (v:=?_) (gA rfl) (fun _ _ _ h=>h) rfl ?_ ?_;rotate_left;(focus (intro w al;(try dsimp only at al);go_simp<;>with_reducible rfl));simp only[yP,yA,yB,yC])
  refine yR 9 (by kernel_rfl) (gA rfl) fun K hK=>?_
  go_simp
  refine hK.out _ _ (aD.out _ (a5.out.kept (show Kept (fun k=>k=q) F (((((F.setCell ⟨q,4,none⟩ (.slice Y ac aa)).setCell ⟨q,5,none⟩ (.int .i64 x.fares.alone)).setCell ⟨q,6,none⟩ (.int .i64 x.fares.third)).setCell ⟨q,7,none⟩ (.slice Z ad cj)).setCell ⟨q,8,none⟩ (.int .i64 x.fares.down))from QMa F q [(4,.slice Y ac aa),(5,.int .i64 x.fares.alone),(6,.int .i64 x.fares.third),(7,.slice Z ad cj),(8,.int .i64 x.fares.down)]) aG)) fun ae=>?_
  clear hK K
  try simp only[yP,yQ,yA,yB,yC]
  have aE:Blk (((((F.setCell ⟨q,4,none⟩ (.slice Y ac aa)).setCell ⟨q,5,none⟩ (.int .i64 x.fares.alone)).setCell ⟨q,6,none⟩ (.int .i64 x.fares.third)).setCell ⟨q,7,none⟩ (.slice Z ad cj)).setCell ⟨q,8,none⟩ (.int .i64 x.fares.down)) q #[.int .i64 x.ship.legs,.int .i64 x.ship.souls,.slice J n1 Q,.slice O m1 U,.slice Y ac aa,.int .i64 x.fares.alone,.int .i64 x.fares.third,.slice Z ad cj,.int .i64 x.fares.down,.int .i64 x.day,.int .i64 x.leaves,.slice C nb cb,.bool x.closed] 32:=((((bB.out.set (j:=4) _).set (j:=5) _).set (j:=6) _).set (j:=7) _).set (j:=8) _;have aM:Kept (fun k=>k=q) F (((((F.setCell ⟨q,4,none⟩ (.slice Y ac aa)).setCell ⟨q,5,none⟩ (.int .i64 x.fares.alone)).setCell ⟨q,6,none⟩ (.int .i64 x.fares.third)).setCell ⟨q,7,none⟩ (.slice Z ad cj)).setCell ⟨q,8,none⟩ (.int .i64 x.fares.down)):=QMa F q [(4,.slice Y ac aa),(5,.int .i64 x.fares.alone),(6,.int .i64 x.fares.third),(7,.slice Z ad cj),(8,.int .i64 x.fares.down)];clear q4 q5 q6 q7 q8 f4 f5 f6 f7 f8 ae;obtain⟨w9,bh⟩:∃V,V=(((((F.setCell ⟨q,4,none⟩ (.slice Y ac aa)).setCell ⟨q,5,none⟩ (.int .i64 x.fares.alone)).setCell ⟨q,6,none⟩ (.int .i64 x.fares.third)).setCell ⟨q,7,none⟩ (.slice Z ad cj)).setCell ⟨q,8,none⟩ (.int .i64 x.fares.down)):=⟨_,rfl⟩;rw[←bh]at aE aM ⊢;clear bh;have aV:=a5.out.kept aM aG;have ae:=aD.out _ aV;have bl:yJ w9 q 11 C nb cb:=aE.cell rfl;have a7:=aE.free 11;have bC:=yh aE;have bx:=yh aM;have bu:=yh aV;clear aE aM aV;refine yT [10] (by kernel_rfl) (by assumption) ?_
  iterate 1 (refine yS (v:=?_) (gA rfl) (fun _ _ _ h=>h) rfl ?_ ?_;rotate_left;(focus (intro w al;(try dsimp only at al);go_simp<;>with_reducible rfl));simp only[yP,yA,yB,yC])
  refine yR 11 (by kernel_rfl) (gA rfl) fun K hK=>?_
  go_simp
  refine hK.out _ _ (aD.out _ (bu.out.kept ((Kept.refl (fun k=>k=q) w9).setCell (p:=⟨q,11,none⟩) (.inl rfl) (.slice none 0 0)) aG)) fun ae=>?_
  clear hK K
  try simp only[yP,yQ,yA,yB,yC]
  refine wpAnyH_done (by kernel_rfl) ?_ _
  go_wp2_with fail
  go_meet
  have ba:Kept (fun k=>k=q) I (w9.setCell ⟨q,11,none⟩ (.slice none 0 0)):=(bw.out.trans bx.out).setCell (p:=⟨q,11,none⟩) (.inl rfl) (.slice none 0 0);refine⟨rfl,J,n1,Q,O,m1,U,Y,ac,aa,Z,ad,cj,bC.out.set (j:=11) _,?_,?_⟩
  ·exact FixO.keep (w:=I) ⟨⟨aB,bm.out⟩,⟨b2,bn.out⟩,⟨b3,H3.out⟩,⟨b4,H4.out⟩,aS.out.1,aS.out.2.1,aS.out.2.2⟩ fun b hb a0=>ba.block b a0 (by omega)
  ·exact(Kept.of_below bp.out (fun k hk h2=>by omega)).trans ba
 obtain⟨rfl,J,n1,Q,O,m1,U,Y,ac,aa,Z,ad,cj,hQ,a8,hK⟩:=hcut;obtain⟨W3,bK⟩:∃V,V=wc:=⟨_,rfl⟩;subst bK;have hG:=HG.out.kept hK (by omega);have hZ:=HZ.out.kept hK (by omega);have hb:=HB.out.trans (hK.below (B:=w.heap.size) HB.out.size (fun k hk=>by omega));have bY:W2.heap.size≤W3.heap.size:=hK.size;have bH:yJ W3 g 11 C nb cb:=hG.cell rfl;have bt:=yh a8;clear a8;have bA:=yh hQ;clear hQ;have bG:=yh hZ;clear hZ;have a2:=yh hb;clear hb;clear hG hK HG HZ HQ HB aI
 go_wp2_with fail
 go_loopg [19] nb (fun gk i wr=>∃(k:Nat) (C1:Option Addr) (ak ah:Nat) (aB:List Value),k≤nb∧nb - k≤gk∧i=.int .i64 k∧Blk wr q (Qa x ⟨J,n1,Q,O,m1,U,Y,ac,aa,Z,ad,cj,C1,ak,ah⟩) 32∧Own Vj 11 63 wr W3.heap.size (.slice C1 ak ah) (x.bks.take k) aB∧Kept (fun k=>k=q∨W3.heap.size≤k) W3 wr)
 case atStart=>exact⟨0,none,0,0,[],Nat.zero_le _,by omega,rfl,bA.out,Own.nil _ _ _ _ _,Kept.refl _ _⟩
 case round=>
  clear bH;obtain⟨k,C1,ak,ah,aB,hk,b6,rfl,hQ,af,hK⟩:=hrel;have bi:=hK.size;have hb:=a2.out.trans (hK.below (B:=w.heap.size) a2.out.size (fun k hk=>by omega))
  by_cases a0:k < nb
  ·skip
   obtain⟨ab,am,⟨id,au,av,ar,lev,an,ap,aq,upto,aw,aK⟩,A3,n3,c3,hA,hx,hF,hI,aj⟩:=(HL.out.bel hb).bkg a0;subst hA;simp only at hF;have y0:yI wr ab (am+k*11) id:=aj 0 _ rfl;have y1:yI wr ab (am+k*11+1) au:=aj 1 _ rfl;have y2:yI wr ab (am+k*11+2) av:=aj 2 _ rfl;have y3:yI wr ab (am+k*11+3) ar:=aj 3 _ rfl;have y4:wr.cell? ⟨ab,am+k*11+4,none⟩=some (.bool lev):=aj 4 _ rfl;have y5:yI wr ab (am+k*11+5) an:=aj 5 _ rfl;have y6:yI wr ab (am+k*11+6) ap:=aj 6 _ rfl;have y7:yI wr ab (am+k*11+7) aq:=aj 7 _ rfl;have y8:yI wr ab (am+k*11+8) upto:=aj 8 _ rfl;have y9:yI wr ab (am+k*11+9) aw:=aj 9 _ rfl;have b5:yJ wr ab (am+k*11+10) A3 n3 c3:=aj 10 _ rfl;clear aj
   go_upto_region 5 with(fail)
   go_cut [5] (fun p1 wx=>∃y,p1=.pointer (some ⟨y,0,none⟩)∧wr.heap.size≤y∧Blk wx y (Qz ⟨id,au,av,ar,lev,an,ap,aq,upto,aw,aK⟩ (.slice A3 n3 c3)) 63∧yw wr wx)
   case first=>as_aux_lemma=>
    go_wp2_with fail
    go_meet
    exact⟨_,rfl,Nat.le_refl _,Za _ _,Qf _ _⟩
   obtain⟨y,rfl,hy,hY,az⟩:=hcut;clear y0 y1 y2 y3 y4 y5 y6 y7 y8 y9 b5;have aZ:=af.lt
   have b0:y≠q:=by omega
   have bZ:some y≠(Value.slice C1 ak ah).ownBlock:=fun e=>by have:=(aZ y e.symm).2;omega
   have bT:some q≠(Value.slice C1 ak ah).ownBlock:=fun e=>by have:=(aZ q e.symm).1;omega
   replace hQ:=hQ.bel az;replace af:=af.bel az;replace hF:=hF.bel az;replace hK:=hK.trans (Kept.of_below az (fun k hk h2=>by omega))
   have bj:W3.heap.size≤wc.heap.size:=by have:=az.size;omega
   obtain⟨W5,bL⟩:∃V,V=wc:=⟨_,rfl⟩;subst bL;have bf:=br.out _ (List.mem_of_getElem? hx);have bP:=hF.len;simp only at bf;have bo:=yh (fun X (hX:yw W5 X)=>ZAa ⟨id,au,av,ar,lev,an,ap,aq,upto,aw,aK⟩ A3 n3 c3 X (hF.bel hX) (by omega));have aJ:=yh (show ∀X,yw W5 X→(fun w'=>yI w' y 0 id∧yI w' y 1 au∧yI w' y 2 av∧yI w' y 3 ar∧w'.cell? ⟨y,4,none⟩=some (.bool lev)∧yI w' y 5 an∧yI w' y 6 ap∧yI w' y 7 aq∧yI w' y 8 upto∧yI w' y 9 aw∧yJ w' y 10 A3 n3 c3) X from fun X hX=>⟨(hY.bel hX).cell rfl,(hY.bel hX).cell rfl,(hY.bel hX).cell rfl,(hY.bel hX).cell rfl,(hY.bel hX).cell rfl,(hY.bel hX).cell rfl,(hY.bel hX).cell rfl,(hY.bel hX).cell rfl,(hY.bel hX).cell rfl,(hY.bel hX).cell rfl,(hY.bel hX).cell rfl⟩);have l1:yJ W5 q 11 C1 ak ah:=hQ.cell rfl
   have bN:((x.bks.take k).length+1)*104≤140737488355328:=by rw[List.length_take];omega
   have bE:=yh (Qn hx);have aC:=yh hQ;clear hQ;have aH:=yh af;clear af;have aT:=yh hK;clear hK;have bF:=yh hY;clear hY;have bv:=yh hI;clear hI;have cg:yw W5 W5.drew:=(Below.refl _ W5).drew;clear hx hF az aZ bP bf hb
   go_upto_region 6 with(fail)
   refine wp_region_held_drew (S:=(fun w'=>yI w' y 0 id∧yI w' y 1 au∧yI w' y 2 av∧yI w' y 3 ar∧w'.cell? ⟨y,4,none⟩=some (.bool lev)∧yI w' y 5 an∧yI w' y 6 ap∧yI w' y 7 aq∧yI w' y 8 upto∧yI w' y 9 aw∧yJ w' y 10 A3 n3 c3)) (by kernel_rfl) (aJ.out _ cg) (fun ae=>?_);refine yT [0,2] (by kernel_rfl) (by assumption) ?_
   iterate 2 (refine yS (v:=?_) (gA rfl) (fun _ _ _ h=>h) rfl ?_ ?_;rotate_left;(focus (intro w al;(try dsimp only at al);go_simp<;>with_reducible rfl));simp only[yP,yA,yB,yC])
   focus
    refine Qja 1 3 (by kernel_rfl) (gA rfl) (gA rfl) (fun K k1=>?_) (fun K k3=>?_)
    repeat first
     |
      revert k1
      intro hK;go_simp
      refine hK.out _ _ (aJ.out _ cg) fun ae=>?_
      clear hK K
      try simp only[yP,yQ,yA,yB,yC]
      first
       | refine UF 3 (by(fail_if_success (fail_if_success decide +kernel));kernel_rfl) (gA rfl) (fun K k3=>?_)
       | refine UF 4 (by(fail_if_success (fail_if_success decide +kernel));kernel_rfl) (gA rfl) (fun K k4=>?_)
       | rotate_left
     |
      revert k3
      intro hK;go_simp
      (go_at_call 171;refine(bo.out _ cg).mono ?_;rintro e w6 ⟨v6,cf,rfl,aX,be⟩;obtain⟨A5,n5,c5,rfl,_⟩:=aX.sl Qd;replace cg:=cg.trans (be.mono cg.size);have l2:=Qg cg l1)
      go_wp2_with fail
      refine hK.out _ _ (aJ.out _ cg) fun ae=>?_
      clear hK K
      try simp only[yP,yQ,yA,yB,yC]
      first
       | refine Qja 1 4 (by(fail_if_success (fail_if_success decide +kernel));kernel_rfl) (gA rfl) (gA rfl) (fun K k1=>?_) (fun K k4=>?_)
       | refine UF 4 (by(fail_if_success (fail_if_success decide +kernel));kernel_rfl) (gA rfl) (fun K k4=>?_)
     |
      revert k4
      intro hK;go_simp
      refine hK.out _ _ (aJ.out _ (cg.alloc cg.size (.cells #[.int .i64 id,.int .i64 au,.int .i64 av,.int .i64 ar,.bool lev,.int .i64 an,.int .i64 ap,.int .i64 aq,.int .i64 upto,.int .i64 aw,.slice A5 n5 c5] 63))) fun ae=>?_
      clear hK K
      try simp only[yP,yQ,yA,yB,yC]
      (have bU:=cg.size;replace cg:=cg.alloc cg.size (.cells #[.int .i64 id,.int .i64 au,.int .i64 av,.int .i64 ar,.bool lev,.int .i64 an,.int .i64 ap,.int .i64 aq,.int .i64 upto,.int .i64 aw,.slice A5 n5 c5] 63);have l3:=Qg cg l1)
      first
       | refine UF 1 (by(fail_if_success (fail_if_success decide +kernel));kernel_rfl) (gA rfl) (fun K k1=>?_)
       | rotate_left
    all_goals
     refine yR 5 (by kernel_rfl) (gA rfl) fun K hK=>?_
     (have aY:=aH.out.bel cg;have bc:=Qbc (b:=⟨id,au,av,ar,lev,an,ap,aq,upto,aw,aK⟩) aH.out bj bU aX bv.out;have bV:=Nat.le_trans bj cg.size;refine Yw (t:=30) (e:=63) (bytes:=104) (base:=W3.heap.size) (c:=Vj) (l:=x.bks.take k) (xs:=aB) (l2:=[⟨id,au,av,ar,lev,an,ap,aq,upto,aw,aK⟩]) (S:=QO W3.heap.size (.slice C1 ak ah)) rfl (.tmp 24) (.tmp 27) rfl Qwa Zi rfl rfl aY bc (fun _ _ h=>h) bN (by omega) bV ?_;intro v' F b1 a1 ax bM;obtain⟨A8,n8,c8,rfl,_⟩:=a1.sl Zi;have ag:=(bF.out.bel cg).grown ax bZ;have ci:=(aC.out.bel cg).grown ax bT;have m2:yJ F q 11 C1 ak ah:=ci.cell rfl;have mf:F.frozen? ⟨q,11,none⟩=false:=ci.free 11)
     refine hK.out _ _ (⟨ag.cell rfl,ag.cell rfl,ag.cell rfl,ag.cell rfl,ag.cell rfl,ag.cell rfl,ag.cell rfl,ag.cell rfl,ag.cell rfl,ag.cell rfl,ag.cell rfl⟩) fun ae=>?_
     clear hK K
     try simp only[yP,yQ,yA,yB,yC]
     refine yT [6] (by kernel_rfl) (by assumption) ?_
     iterate 1 (refine yS (v:=?_) (gA rfl) (fun _ _ _ h=>h) rfl ?_ ?_;rotate_left;(focus (intro w al;(try dsimp only at al);go_simp<;>with_reducible rfl));simp only[yP,yA,yB,yC])
     have ai:=ag.other (p:=⟨q,11,none⟩) (fun e=>b0 e.symm) (.slice A8 n8 c8)
     refine yR 7 (by kernel_rfl) (gA rfl) fun K hK=>?_
     go_simp
     refine hK.out _ _ (⟨ai.cell rfl,ai.cell rfl,ai.cell rfl,ai.cell rfl,ai.cell rfl,ai.cell rfl,ai.cell rfl,ai.cell rfl,ai.cell rfl,ai.cell rfl,ai.cell rfl⟩) fun ae=>?_
     clear hK K
     try simp only[yP,yQ,yA,yB,yC]
     have aW:Kept (fun k=>k=q) F (F.setCell ⟨q,11,none⟩ (.slice A8 n8 c8)):=(Kept.refl (fun k=>k=q) F).setCell (p:=⟨q,11,none⟩) (.inl rfl) _;have p1:=a1.kept Zi aW (fun k hk=>by omega);have p6:=ci.set (j:=11) (.slice A8 n8 c8);have bb:Kept (fun k=>W3.heap.size≤k) (w6.alloc (.cells #[.int .i64 id,.int .i64 au,.int .i64 av,.int .i64 ar,.bool lev,.int .i64 an,.int .i64 ap,.int .i64 aq,.int .i64 upto,.int .i64 aw,.slice A5 n5 c5] 63)) F:=⟨ax.os,ax.tape,ax.output,ax.size,fun j hj hn=>ax.block j hj (fun e=>hn (aY.lt j e.symm).1)⟩;have p2:Kept (fun k=>k=q∨W3.heap.size≤k) W3 (F.setCell ⟨q,11,none⟩ (.slice A8 n8 c8)):=((aT.out.trans (Kept.of_below cg (fun j hj h2=>.inr (by omega)))).trans (bb.mono fun j _ hj=>.inr hj)).trans (aW.mono fun j _ hj=>.inl hj);rw[←bE.out]at p1;clear aY bc a1 ag ci m2 mf aW ax bM aX be bb ai;refine wpAnyH_done (by kernel_rfl) ?_ _
     go_wp2_with fail
     go_roundg (nb - (k+1))
     case measure=>omega
     case rel=>exact⟨k+1,A8,n8,c8,b1,by omega,by omega,by go_num,p6,p1,p2⟩
  ·obtain rfl:k=nb:=by omega
   rw[List.take_of_length_le (Nat.le_of_eq bz.out)]at af
   have cl:z < W3.heap.size:=by omega
   have cm:z≠q:=by omega
   have ck:q < W3.heap.size:=by omega
   have hZ:=bG.out.kept hK (by omega);have aC:=yh hQ;clear hQ;have aH:=yh af;clear af;have aT:=yh hK;clear hK;have a6:=yh hZ;clear hZ;have a3:=yh hb;clear hb
   go_wp2_with (first | (refine wpList_load_row rfl 32 (.tmp 3) rfl q rfl 32 _ (0,0) _ aC.out Tryz.underlying32 rfl (by kernel_rfl) ?_) | (refine wpList_store_row rfl 32 (.tmp 2) (.tmp 31) rfl z (Qa x ⟨J,n1,Q,O,m1,U,Y,ac,aa,Z,ad,cj,C1,ak,ah⟩) rfl rfl 32 _ a6.out (by kernel_rfl) rfl (by simp[Value.oneCell']) ?_))
   refine bodyPost_ret (v:=.agg (Qa x ⟨J,n1,Q,O,m1,U,Y,ac,aa,Z,ad,cj,C1,ak,ah⟩)) ((a6.out.row _).ret (k:=2) (by kernel_rfl) rfl Tryz.underlying32 (by kernel_rfl) (by kernel_rfl)) rfl ?_;have aN:Kept (fun k=>k=z) wr (wr.setRow z (Qa x ⟨J,n1,Q,O,m1,U,Y,ac,aa,Z,ad,cj,C1,ak,ah⟩)):=(Kept.refl (fun k=>k=z) wr).setRow (.inl rfl) _;refine⟨⟨J,n1,Q,O,m1,U,Y,ac,aa,Z,ad,cj,C1,ak,ah⟩,rfl,⟨W3,W2.heap.size,Nat.le_trans bX bW,bY,Nat.le_trans bi aN.size,fun j hj hl=>?_,?_,aB,aH.out.kept Zi aN (fun j hj=>by omega)⟩,a3.out.trans (aN.below a3.out.size (fun k hk=>by omega))⟩
   ·exact(aN.block j (Nat.lt_of_lt_of_le hl bi) (by omega)).trans (aT.out.block j hl (by omega))
   ·have:=bt.out
    exact⟨this.cats,this.cabs,this.leg,this.bands,this.a,this.t,this.d⟩
theorem Own.insert {α:Type}{c:Cod α}{size:Nat}{e:TypeId}{w w':World}{base:Nat}{v v':Value}{l:List α}{xs:List Value}{i:Nat}{b:α}{J:List Value}(h:Own c size e w base v l xs)(U:i≤l.length)(W:J.length=size)
  (hb:c w' (QO base v') b J) (Y:∀x F,c w (QO base v) x F→c w' (QO base v') x F) (ab:w'.ownsRow base e size v' (l.length+1) (xs.take (i*size)++J++xs.drop (i*size))) :
  Own c size e w' base v' (l.take i++b::l.drop i) (xs.take (i*size)++J++xs.drop (i*size)):=by
 have ad:xs.length=l.length*size:=h.row.1;have ac:i*size≤l.length*size:=Nat.mul_le_mul_right _ U
 have D:(xs.take (i*size)).length=i*size:=by rw[List.length_take];omega
 have aa:(l.take i++b::l.drop i).length=l.length+1:=by rw[List.length_append,List.length_take,List.length_cons,List.length_drop];omega
 refine⟨by rw[aa];exact ab,fun q x A=>?_⟩
 rcases Nat.lt_trichotomy q i with I | I | I
 ·rw[List.getElem?_append_left (by rw[List.length_take];omega),List.getElem?_take,if_pos I]at A
  obtain⟨F,O,V,Q⟩:=h.el q x A;refine⟨F,Y _ _ O,V,fun j u E=>?_⟩
  have X:j < size:=by have:=(List.getElem?_eq_some_iff.1 E).1;omega
  have Z:(q+1)*size≤i*size:=Nat.mul_le_mul_right _ I;rw[Nat.add_mul]at Z;rw[List.getElem?_append_left (by rw[List.length_append,D];omega),List.getElem?_append_left (by rw[D];omega),List.getElem?_take,if_pos (by omega)];exact Q j u E
 ·subst I
  rw[List.getElem?_append_right (by rw[List.length_take];omega),List.length_take,Nat.min_eq_left U,Nat.sub_self]at A
  simp at A
  subst A;refine⟨J,hb,W,fun j u E=>?_⟩
  have X:j < size:=by have:=(List.getElem?_eq_some_iff.1 E).1;omega
  rw[List.getElem?_append_left (by rw[List.length_append,D];omega),List.getElem?_append_right (by rw[D];omega),D]
  rwa [show q*size+j - q*size=j by omega]
 ·rw[List.getElem?_append_right (by rw[List.length_take];omega),List.length_take,Nat.min_eq_left U]at A
  obtain⟨d,hd⟩:∃d,q - i=d+1:=⟨q - i - 1,by omega⟩;rw[hd,List.getElem?_cons_succ,List.getElem?_drop]at A;obtain⟨F,O,V,Q⟩:=h.el _ x A;refine⟨F,Y _ _ O,V,fun j u E=>?_⟩
  have X:j < size:=by have:=(List.getElem?_eq_some_iff.1 E).1;omega
  have h2:q*size=i*size+(d+1)*size:=by rw[←Nat.add_mul];congr 1;omega
  have h3:(d+1)*size=d*size+size:=by rw[Nat.add_mul,Nat.one_mul]
  rw[List.getElem?_append_right (by rw[List.length_append,D,W];omega),List.length_append,D,W,List.getElem?_drop];rw[show i*size+(q*size+j - (i*size+size))=(i+d)*size+j by rw[Nat.add_mul];omega];exact Q j u E
theorem UCa:∃i:TypeInfo,Tryz.prog.info? 63=some i∧i.size=11∧i.bytes=104∧i.zero=some (.agg #[.int .i64 0,.int .i64 0,.int .i64 0,.int .i64 0,.bool false,.int .i64 0,.int .i64 0,.int .i64 0,.int .i64 0,.int .i64 0,.slice none 0 0]):=by
 have A:(Tryz.prog.info? 63).map (fun i=>(i.zero,i.size,i.bytes))=some (some (.agg #[.int .i64 0,.int .i64 0,.int .i64 0,.int .i64 0,.bool false,.int .i64 0,.int .i64 0,.int .i64 0,.int .i64 0,.int .i64 0,.slice none 0 0]),11,104):=by kernel_rfl
 obtain⟨i,D,E,F,I⟩:=info_parts A;exact⟨i,D,F,I,E⟩
theorem Vq {w:World}{g:Nat}{D:Array Value}{t:TypeId}(U:Blk w g D t)(ty:TypeId)(o E J:Nat)(a:Addr)(I ab k:Nat)(A:List Value)(W:k=Nat.min I E)(X:A.length=k*11)
  (Z:∀j v,A[j]? = some v→w.cell? (a.add j)=some v) (Q:o+A.length≤D.size) (O:∀v∈A,v.oneCell'=true) :
  (Builtin.copy_ #[30,30] ty #[.slice (some ⟨g,o,none⟩) E J,.slice (some a) I ab]).run Tryz.prog w =
   .ok (goInt k) (w.setRow g (D.toList.take o++A++D.toList.drop (o+A.length)).toArray):=by
 have F:=run_loadCells_list (P:=Tryz.prog) w a A Z;have aa:=run_storeCells_at Tryz.prog g o t A 0 D w U (by simpa using Q) O;obtain⟨i,V,Y,_⟩:=UCa;rw[X]at F;subst W
 simp[Builtin.copy_,run_underlying Tryz.underlying30,Builtin.lenOf,Builtin.firstCells,sizeOf,typeInfo,V,Y,F,aa]
theorem Qbb {A xs E:List Value}{i n cap:Nat}(Z:A.length=cap*11)(U:A.take (n*11)=xs)(ab:i < n)(ac:n+1≤cap)(V:E.length=11){D F:List Value}
  (ad:D=A.take ((i+1)*11)++xs.drop (i*11)++A.drop ((i+1)*11+(xs.drop (i*11)).length)) (hF:F=D.take (i*11)++E++D.drop (i*11+E.length)) :
  D.length=cap*11∧F.length=cap*11∧F.take ((n+1)*11)=xs.take (i*11)++E++xs.drop (i*11):=by
 have W:xs.length=n*11:=by rw[←U,List.length_take];omega
 have J:(xs.drop (i*11)).length=(n - i)*11:=by rw[List.length_drop,W];omega
 have I:(A.take ((i+1)*11)).length=(i+1)*11:=by rw[List.length_take];omega
 have aa:D.length=cap*11:=by rw[ad,List.length_append,List.length_append,I,J,List.length_drop];omega
 have X:D.take (i*11)=xs.take (i*11):=by
  rw[ad,List.append_assoc,List.take_append_of_le_length (by rw[I];omega),List.take_take,←U,List.take_take]
  congr 1;omega
 have Y:D.drop (i*11+E.length)=xs.drop (i*11)++A.drop ((i+1)*11+(xs.drop (i*11)).length):=by
  rw[ad,List.append_assoc,V,show i*11+11=(A.take ((i+1)*11)).length by rw[I];omega,List.drop_left]
 have O:F=(xs.take (i*11)++E++xs.drop (i*11))++A.drop ((i+1)*11+(xs.drop (i*11)).length):=by rw[hF,X,Y];simp
 have Q:(xs.take (i*11)++E++xs.drop (i*11)).length=(n+1)*11:=by rw[List.length_append,List.length_append,List.length_take,W,V,J];omega
 refine⟨aa,?_,?_⟩
 ·rw[O,List.length_append,Q,List.length_drop,J,Z];omega
 ·rw[O,←Q,List.take_left]
theorem Ya (b o j:Nat):(⟨b,o,none⟩:Addr).add j=⟨b,o+j,none⟩:=by
 unfold Addr.add;split
 ·next h0=>rw[h0];rfl
 ·rfl
theorem Xqa {c:Cod Bkg}(ah:Good c){w:World}{base g n cap i m vb q:Nat}{l:List Bkg}{xs:List Value}{b:Bkg}{I:List Value}(hm:m=1)(h:Own c 11 63 w base (.slice (some ⟨g,0,none⟩) n cap) l xs)(hi:i < n)(aP:n+m≤cap)(hn:n≤1000)
  (Y:Blk w vb I.toArray 63) (aU:I.length=11) (ae:c w (QO base (.slice (some ⟨g,0,none⟩) n cap)) b I) (ar:vb≠g) :
  Calls Tryz.prog 208 #[.slice (some ⟨g,0,none⟩) n cap,.int .i64 (i:Int),.slice (some ⟨vb,0,none⟩) m q] w fun e w'=>∃X,e=.returned (.slice (some ⟨g,0,none⟩) (n+m) cap)∧Own c 11 63 w' base (.slice (some ⟨g,0,none⟩) (n+m) cap) (l.take i++b::l.drop i) X∧Kept (fun k=>k=g) w w':=by
 have aS:¬((m:Int)=0):=by omega
 have aT:¬((i:Int)=(n:Int)):=by omega
 have aC:=h.lt
 obtain⟨A,af,Q,ap,ao,aa,ax,aD⟩:∃A:Array Value,Blk w g A 63∧A.size=cap*11∧A.toList.take (l.length*11)=xs∧n≤cap∧cap≤maxLen∧base≤g∧n=l.length:=by
  rcases h.row.2 with⟨hv,_⟩ | ⟨g',aH,A,hv,hb,aB,ao,aa,Q,aG⟩
  ·cases hv
  ·simp only[Value.slice.injEq,Option.some.injEq,Addr.mk.injEq,and_true]at hv
   obtain⟨rfl,rfl,rfl⟩:=hv;exact⟨A,aB,Q,aG,ao,aa,hb,rfl⟩
 have aF:∀lb cb,(callFunc 238 #[.slice (some ⟨vb,0,none⟩) m q,.slice (some ⟨g,(i+m)*11,none⟩) lb cb]).run Tryz.prog w=.ok (.value (.bool false)) w:=fun lb cb=>by
  rw[run_callFunc_extern Tryz.func238 (by kernel_rfl) (by kernel_rfl) (by kernel_rfl) (e:=Extern.SlicesOverlaps.overlaps #[30,30] #[4]) (by kernel_rfl),Lib.run_overlaps_apart w 30 4 63 Tryz.underlying30 11 (fun W=>by obtain⟨i,hi,hs,_⟩:=UCa;simp[sizeOf,typeInfo,hi,hs]) ⟨vb,0,none⟩ ⟨g,(i+m)*11,none⟩ m q lb cb ar 63 63 11 A.size
    (by have h9:w.heap[vb]? = some (.cells I.toArray 63 (0,0)):=Y;simp[World.shape?,h9,aU]) (by have h9:w.heap[g]? = some (.cells A 63 (0,0)):=af;simp[World.shape?,h9]) (by rw[Q];omega) (Y.free 0) (Y.free 11)]
  rfl
 have aR:IntKind.i64.wrap ((i:Int)+(m:Int))=(i:Int)+(m:Int):=by rw[IntKind.wrap_i64];omega
 have aI:(0:Int)≤(i:Int)+(m:Int):=by omega
 have aM:i≤n:=by omega
 have aQ:((i:Int)+(m:Int)).toNat=i+m:=by omega
 have aJ:¬(cap=i+m):=by omega
 have aK:(i:Int)≤(n:Int)+(m:Int):=by omega
 have aL:¬(cap=i):=by omega
 have aO:cap≤9223372036854775807:=by unfold maxLen at aa;omega
 subst aD;have ab:A.toList.take (l.length*11)=xs:=ap
 have ak:A.toList.length=cap*11:=by rw[Array.length_toList,Q]
 have av:xs.length=l.length*11:=by rw[←ab,List.length_take];omega
 obtain⟨D,ac⟩:∃C,C=A.toList.take ((i+1)*11)++xs.drop (i*11)++A.toList.drop ((i+1)*11+(xs.drop (i*11)).length):=⟨_,rfl⟩;obtain⟨F,hF⟩:∃F,F=D.take (i*11)++I++D.drop (i*11+I.length):=⟨_,rfl⟩;obtain⟨al,am,ai⟩:=Qbb ak ab hi (by omega) aU ac hF
 have ag:(xs.drop (i*11)).length=(l.length - i)*11:=by rw[List.length_drop,av];omega
 have au:∀u∈xs,u.oneCell'=true:=fun u V=>by
  obtain⟨j,E⟩:=List.getElem?_of_mem V
  have aN:j < l.length*11:=by have:=(List.getElem?_eq_some_iff.1 E).1;omega
  obtain⟨U,hc,hl,ay⟩:=h.el (j / 11) l[j / 11] (List.getElem?_eq_getElem (by omega));have:=ay (j % 11) (U[j % 11]'(by omega)) (List.getElem?_eq_getElem (by omega));rw[show j / 11*11+j % 11=j by omega,E]at this
  injection this with this
  rw[this];exact ah.one hc _ (List.getElem_mem _)
 have aq:∀u∈I,u.oneCell'=true:=fun u V=>ah.one ae _ V
 have Z:Blk w.drew g A 63:=af
 have az:∀ty J sc,(Builtin.copy_ #[30,30] ty #[.slice (some ⟨g,(i+m)*11,none⟩) (l.length+m - (i+m)) J,.slice (some ⟨g,i*11,none⟩) (l.length+m - i) sc]).run Tryz.prog w.drew=.ok (goInt ((l.length - i:Nat))) (w.drew.setRow g D.toArray):=fun ty J sc=>by
  have O:l.length - i=Nat.min (l.length+m - i) (l.length+m - (i+m)):=by simp only[Nat.min_def];split<;>omega
  have:=Vq Z ty ((i+m)*11) (l.length+m - (i+m)) J ⟨g,i*11,none⟩ (l.length+m - i) sc (l.length - i) (xs.drop (i*11)) O ag (fun j v E=>by
   rw[Ya];refine Z.cell ?_;rw[List.getElem?_drop,←ab,List.getElem?_take]at E
   by_cases hjj:i*11+j < l.length*11
   ·rw[if_pos hjj,Array.getElem?_toList]at E;exact E
   ·rw[if_neg hjj]at E;cases E) (by rw[ag,Q];omega) (fun u V=>au u (List.mem_of_mem_drop V))
  rw[hm]at this ⊢;rw[ac];exact this
 have ad:Blk (w.drew.setRow g D.toArray) g D.toArray 63:=Z.row _;have aj:Blk (w.drew.setRow g D.toArray) vb I.toArray 63:=Blk.rowOther (show Blk w.drew vb I.toArray 63 from Y) ar _
 have aA:∀ty J,(Builtin.copy_ #[30,30] ty #[.slice (some ⟨g,i*11,none⟩) (l.length+m - i) J,.slice (some ⟨vb,0,none⟩) m q]).run Tryz.prog (w.drew.setRow g D.toArray)=.ok (goInt (1:Nat)) ((w.drew.setRow g D.toArray).setRow g F.toArray):=fun ty J=>by
  have O:1=Nat.min m (l.length+m - i):=by simp only[Nat.min_def];split<;>omega
  have:=Vq ad ty (i*11) (l.length+m - i) J ⟨vb,0,none⟩ m q 1 I O aU (fun j v E=>by
   rw[Ya,Nat.zero_add]
   exact aj.cell (by simpa using E)) (by rw[aU];simp only[List.size_toArray,al];omega) aq
  rw[hF];exact this
 have aw:=yh (show ∃X,Own c 11 63 ((w.drew.setRow g D.toArray).setRow g F.toArray) base (.slice (some ⟨g,0,none⟩) (l.length+m) cap) (l.take i++b::l.drop i) X∧Kept (fun k=>k=g) w ((w.drew.setRow g D.toArray).setRow g F.toArray)from by
  have hK:Kept (fun k=>k=g) w ((w.drew.setRow g D.toArray).setRow g F.toArray):=((Kept.refl (fun k=>k=g) w).drew.setRow (.inl rfl) _).setRow (.inl rfl) _
  have an:∀(x:Bkg) (U:List Value),c w (QO base (.slice (some ⟨g,0,none⟩) l.length cap)) x U→c ((w.drew.setRow g D.toArray).setRow g F.toArray) (QO base (.slice (some ⟨g,0,none⟩) (l.length+m) cap)) x U:=fun x U hc=>
   ah.keep hc fun k O aE=>⟨hK.block k aE (fun e=>O.2 (by rw[e];rfl)),O.1,fun e=>O.2 e⟩
  refine⟨_,h.insert (Nat.le_of_lt hi) aU (an _ _ ae) an ?_,hK⟩;refine⟨by rw[←ai,List.length_take];omega,.inr ⟨g,cap,F.toArray,by rw[hm],ax,ad.row _,by omega,aa,by simpa using am,by rw[←ai]⟩⟩)
 clear ae ap Q ab ak av ac hF al am ai ag au aq Z ad aj h aC af;have HM:=yh hm;clear hm
 go_enter Tryz.func208,Tryz.ntmps208
 go_wp2_with (simp only[aF])
 go_region_law (refine step_copy_runI rfl _ _ 30 30 rfl _ _ (by simp[Act.eval,Act.put]) (by simp[Act.eval,Act.put]) (az _ _ _) ?_)
 all_goals
  go_wp2_with (at_builtin;refine wpList_copy_runI _ rfl _ _ 30 30 rfl _ _ rfl rfl (aA _ _) ?_)
  go_ret
  obtain⟨X,h1,h2⟩:=aw.out;exact⟨X,rfl,h1,h2⟩
theorem QXb {row xs A:List Value}{i n G:Nat}(hc:row.length=G*11)(W:row.take (i*11)=xs.take (i*11))(aa:xs.length=n*11)(ab:i < n)(ac:n+1≤G)(I:A.length=11){D E:List Value}
  (J:D=row.take (i*11)++A++row.drop (i*11+A.length)) (X:E=D.take ((i+1)*11)++xs.drop (i*11)++D.drop ((i+1)*11+(xs.drop (i*11)).length)) :
  D.length=G*11∧E.length=G*11∧E.take ((n+1)*11)=xs.take (i*11)++A++xs.drop (i*11):=by
 have Q:(xs.drop (i*11)).length=(n - i)*11:=by rw[List.length_drop,aa];omega
 have F:(xs.take (i*11)).length=i*11:=by rw[List.length_take];omega
 have U:D.length=G*11:=by rw[J,List.length_append,List.length_append,W,F,I,List.length_drop];omega
 have Y:D.take ((i+1)*11)=xs.take (i*11)++A:=by
  have Z:(xs.take (i*11)++A).length=(i+1)*11:=by rw[List.length_append,F,I];omega
  rw[J,W,←Z,List.take_left]
 have O:E=(xs.take (i*11)++A++xs.drop (i*11))++D.drop ((i+1)*11+(xs.drop (i*11)).length):=by rw[X,Y]
 have V:(xs.take (i*11)++A++xs.drop (i*11)).length=(n+1)*11:=by rw[List.length_append,List.length_append,F,I,Q];omega
 refine⟨U,?_,?_⟩
 ·rw[O,List.length_append,V,List.length_drop,Q,U];omega
 ·rw[O,←V,List.take_left]
theorem X6a {c:Cod Bkg}(ao:Good c){w:World}{base g n cap i m vb q:Nat}{l:List Bkg}{xs:List Value}{b:Bkg}{O:List Value}(hm:m=1)(h:Own c 11 63 w base (.slice (some ⟨g,0,none⟩) n cap) l xs)(hi:i < n)(aX:cap < n+m)(hn:n≤1000)(a8:base≤w.heap.size)
  (hV:Blk w vb O.toArray 63) (ae:O.length=11) (al:c w (QO base (.slice (some ⟨g,0,none⟩) n cap)) b O) :
  Calls Tryz.prog 208 #[.slice (some ⟨g,0,none⟩) n cap,.int .i64 (i:Int),.slice (some ⟨vb,0,none⟩) m q] w fun e w'=>∃N G Y,e=.returned (.slice (some ⟨N,0,none⟩) (n+m) G)∧Own c 11 63 w' base (.slice (some ⟨N,0,none⟩) (n+m) G) (l.take i++b::l.drop i) Y∧Kept (fun k=>k=g) w w':=by
 have bh:¬((m:Int)=0):=by omega
 have bi:¬((i:Int)=(n:Int)):=by omega
 have bj:(cap:Int) < (n:Int)+(m:Int):=by omega
 obtain⟨I,ad,ac,aJ,aH,am,a7,aV⟩:∃I:Array Value,Blk w g I 63∧I.size=cap*11∧I.toList.take (l.length*11)=xs∧n≤cap∧cap≤maxLen∧base≤g∧n=l.length:=by
  rcases h.row.2 with⟨hv,_⟩ | ⟨g',aZ,I,hv,hb,aU,aH,am,ac,aY⟩
  ·cases hv
  ·simp only[Value.slice.injEq,Option.some.injEq,Addr.mk.injEq,and_true]at hv
   obtain⟨rfl,rfl,rfl⟩:=hv;exact⟨I,aU,ac,aY,aH,am,hb,rfl⟩
 subst aV;have av:I.toList.take (l.length*11)=xs:=aJ
 have aB:I.toList.length=cap*11:=by rw[Array.length_toList,ac]
 have af:xs.length=l.length*11:=by rw[←av,List.length_take,aB];omega
 have aL:∀u∈xs,u.oneCell'=true:=fun u W=>by
  obtain⟨j,A⟩:=List.getElem?_of_mem W
  have bc:j < l.length*11:=by have:=(List.getElem?_eq_some_iff.1 A).1;omega
  obtain⟨V,hc,hl,aQ⟩:=h.el (j / 11) l[j / 11] (List.getElem?_eq_getElem (by omega));have:=aQ (j % 11) (V[j % 11]'(by omega)) (List.getElem?_eq_getElem (by omega));rw[show j / 11*11+j % 11=j by omega,A]at this
  injection this with this
  rw[this];exact ao.one hc _ (List.getElem_mem _)
 have aK:∀u∈O,u.oneCell'=true:=fun u W=>ao.one al _ W
 have au:∀(X:World),X.heap[g]? = w.heap[g]?→∀j v,xs[j]? = some v→X.cell? ⟨g,j,none⟩=some v:=fun X hX j v A=>by
  have aP:Blk X g I 63:=hX.trans ad;refine aP.cell ?_;rw[←av,List.getElem?_take]at A
  by_cases hjj:j < l.length*11
  ·rw[if_pos hjj,Array.getElem?_toList]at A;exact A
  ·rw[if_neg hjj]at A;cases A
 obtain⟨i0,aC,aN,ax,aw⟩:=UCa;obtain⟨z,hz⟩:∃z:Value,z=.agg #[.int .i64 0,.int .i64 0,.int .i64 0,.int .i64 0,.bool false,.int .i64 0,.int .i64 0,.int .i64 0,.int .i64 0,.int .i64 0,.slice none 0 0]:=⟨_,rfl⟩;rw[←hz]at aw
 have aM:∀k,(Builtin.zeroCells z.cells k).size=k*11:=fun k=>by rw[hz];simp[Builtin.zeroCells,Value.cells]
 have ap:i+(l.length+m - i)=l.length+m:=by omega
 have aD:(l.length:Int)+(m:Int) - (i:Int)=((l.length+m - i:Nat):Int):=by omega
 have aI:(Builtin.firstCells i0.size i (.slice (some ⟨g,0,none⟩) i cap)).run Tryz.prog w.drew=.ok (xs.take (i*11)).toArray w.drew:=by
  rw[aN]
  exact run_firstCells_some w.drew 11 i ⟨g,0,none⟩ i cap (xs.take (i*11)) (by rw[List.length_take];omega) (fun j v A=>by
   rw[Ya,Nat.zero_add];rw[List.getElem?_take]at A
   split at A
   ·exact au _ rfl j v A
   ·cases A)
 obtain⟨G,hG⟩:∃G,G=grownCap w (l.length+m) cap 63:=⟨_,rfl⟩;obtain⟨F,aa⟩:∃F:Array Value,F=(xs.take (i*11)).toArray++Builtin.zeroCells z.cells (l.length+m - i)++Builtin.zeroCells z.cells (G - (l.length+m)):=⟨_,rfl⟩
 have aq:∀ty,(Builtin.append_ #[30,3] ty #[.slice (some ⟨g,0,none⟩) i cap,.int .i64 ((l.length:Int)+(m:Int) - (i:Int))]).run Tryz.prog w =
   .ok (.slice (some ⟨w.heap.size,0,none⟩) (l.length+m) G) (w.drew.alloc (.cells F 63)):=fun ty=>by
  have h:=Lib.run_append_grow_zeros w 30 3 ty 63 i0 z .i64 .i64 Tryz.underlying30 Tryz.underlying3 aC aw (some ⟨g,0,none⟩) i cap (xs.take (i*11)) aI (l.length+m - i) (by omega) (by omega) (by omega) (by omega) (by rw[ax];omega) (by rw[ax,ap];exact growslice_fits aX (by omega));rw[ap,←hG]at h;rw[aD,aa];exact h
 have a3:l.length+m≤G:=by rw[hG];exact grownCap_ge w _ _ _
 have ay:G≤maxLen:=by rw[hG];exact grownCap_le_maxLen w _ _ _ (by unfold maxLen;omega)
 have ak:F.toList.length=G*11:=by
  rw[aa];simp only[Array.toList_append,List.length_append,List.length_take,Array.length_toList,aM,af];omega
 have aA:F.toList.take (i*11)=xs.take (i*11):=by
  have ht:(xs.take (i*11)).length=i*11:=by rw[List.length_take];omega
  rw[aa];simp only[Array.toList_append,List.append_assoc];rw[List.take_append_of_le_length (by omega),List.take_take,Nat.min_self]
 obtain⟨E,ag⟩:∃R,R=F.toList.take (i*11)++O++F.toList.drop (i*11+O.length):=⟨_,rfl⟩;obtain⟨Q,ah⟩:∃R,R=E.take ((i+1)*11)++xs.drop (i*11)++E.drop ((i+1)*11+(xs.drop (i*11)).length):=⟨_,rfl⟩;obtain⟨aE,aF,ar⟩:=QXb ak aA af hi (by omega) ae ag ah
 have an:(xs.drop (i*11)).length=(l.length - i)*11:=by rw[List.length_drop,af];omega
 obtain⟨N,hN⟩:∃N,N=w.heap.size:=⟨_,rfl⟩;rw[←hN]at aq
 have aT:g≠N:=by have:=ad.lt;omega
 have bf:vb≠N:=by have:=hV.lt;omega
 obtain⟨D,ab⟩:∃D,D=w.drew.alloc (.cells F 63):=⟨_,rfl⟩;rw[←ab]at aq
 have Z:yw w D:=by rw[ab];exact(Below.refl _ w).drew.alloc (Nat.le_refl _) _
 have ai:Blk D N F 63:=by rw[ab,hN];exact Blk.new w.drew F _
 have aR:∀ty J,(Builtin.copy_ #[30,30] ty #[.slice (some ⟨N,i*11,none⟩) (l.length+m - i) J,.slice (some ⟨vb,0,none⟩) m q]).run Tryz.prog D=.ok (goInt (1:Nat)) (D.setRow N E.toArray):=fun ty J=>by
  have U:1=Nat.min m (l.length+m - i):=by simp only[Nat.min_def];split<;>omega
  have:=Vq ai ty (i*11) (l.length+m - i) J ⟨vb,0,none⟩ m q 1 O U ae (fun j v A=>by
   rw[Ya,Nat.zero_add]
   exact(hV.bel Z).cell (by simpa using A)) (by rw[ae,←Array.length_toList,ak];omega) aK
  rw[ag];exact this
 have aj:Blk (D.setRow N E.toArray).drew N E.toArray 63:=ai.row _
 have aS:∀ty J sc,(Builtin.copy_ #[30,30] ty #[.slice (some ⟨N,(i+m)*11,none⟩) (l.length+m - (i+m)) J,.slice (some ⟨g,i*11,none⟩) (l.length - i) sc]).run Tryz.prog (D.setRow N E.toArray).drew=.ok (goInt ((l.length - i:Nat))) ((D.setRow N E.toArray).drew.setRow N Q.toArray):=fun ty J sc=>by
  have U:l.length - i=Nat.min (l.length - i) (l.length+m - (i+m)):=by simp only[Nat.min_def];split<;>omega
  have:=Vq aj ty ((i+m)*11) (l.length+m - (i+m)) J ⟨g,i*11,none⟩ (l.length - i) sc (l.length - i) (xs.drop (i*11)) U an (fun j v A=>by
   rw[Ya];refine au _ ?_ _ _ (by rwa [List.getElem?_drop]at A)
   show(D.setRow N E.toArray).heap[g]? = _
   rw[setRow_other _ _ _ _ aT]
   exact Z.block g ad.lt) (by rw[an];simp only[List.size_toArray,aE];omega) (fun u W=>aL u (List.mem_of_mem_drop W))
  rw[hm]at this ⊢;rw[ah];exact this
 have aO:=yh (show ∃Y,Own c 11 63 ((D.setRow N E.toArray).drew.setRow N Q.toArray) base (.slice (some ⟨N,0,none⟩) (l.length+m) G) (l.take i++b::l.drop i) Y∧Kept (fun k=>k=g) w ((D.setRow N E.toArray).drew.setRow N Q.toArray)from by
  have az:Kept (fun _=>False) w ((D.setRow N E.toArray).drew.setRow N Q.toArray):=(((Kept.of_below (S:=fun _=>False) Z (fun k U h2=>by omega)).setRow (z:=N) (.inr (by omega)) _).drew).setRow (z:=N) (.inr (by omega)) _
  have aG:∀(x:Bkg) (V:List Value),c w (QO base (.slice (some ⟨g,0,none⟩) l.length cap)) x V→c ((D.setRow N E.toArray).drew.setRow N Q.toArray) (QO base (.slice (some ⟨N,0,none⟩) (l.length+m) G)) x V:=fun x V hc=>
   ao.keep hc fun k U aW=>⟨az.block k aW (fun h=>h),U.1,fun e=>by simp only[Value.ownBlock,Option.some.injEq]at e;omega⟩
  refine⟨_,h.insert (Nat.le_of_lt hi) ae (aG _ _ al) aG ?_,az.mono fun _ _ h=>h.elim⟩;refine⟨by rw[←ar,List.length_take];omega,.inr ⟨N,G,Q.toArray,by rw[hm],by omega,aj.row _,by omega,ay,by simpa using aF,by rw[←ar]⟩⟩)
 have bg:IntKind.i64.wrap ((i:Int)+(m:Int))=(i:Int)+(m:Int):=by rw[IntKind.wrap_i64];omega
 have a4:(0:Int)≤(i:Int)+(m:Int):=by omega
 have bb:i≤l.length:=by omega
 have be:((i:Int)+(m:Int)).toNat=i+m:=by omega
 have a5:(i:Int)≤(l.length:Int):=by omega
 have a0:G≤9223372036854775807:=by unfold maxLen at ay;omega
 have a1:¬(G=i):=by omega
 have a2:¬(G=i+m):=by omega
 have a9:¬(cap=i):=by omega
 have ba:(i:Int)≤(cap:Int):=by omega
 have a6:(i:Int)+(m:Int)≤(l.length:Int)+(m:Int):=by omega
 have HM:=yh hm
 have bd:cap≤9223372036854775807:=by unfold maxLen at am;omega
 clear al aJ ac av af aB ag ah aE aF ar an aL aK ai aj h ad hm aD ap aI aa hG ak aA ab hN hz aw aM aC aN ax au Z hV
 go_enter Tryz.func208,Tryz.ntmps208
 go_wp2_with (first
  | (at_builtin;refine Lib.wpList_append_run _ rfl _ _ _ _ rfl _ _ rfl rfl _ _ (aq _) ?_)
  | (at_builtin;refine wpList_copy_runI _ rfl _ _ 30 30 rfl _ _ rfl rfl (aR _ _) ?_))
 go_region_law (refine step_copy_runI rfl _ _ 30 30 rfl _ _ (by simp[Act.eval,Act.put]) (by simp[Act.eval,Act.put]) (aS _ _ _) ?_)
 all_goals
  go_wp2_with fail
  go_ret
  obtain⟨Y,h1,h2⟩:=aO.out;exact⟨N,G,Y,rfl,h1,h2⟩
theorem Qvb {c:Cod Bkg}(F:Good c){w:World}{base n cap m U q:Nat}{A:Option Addr}{l:List Bkg}{xs:List Value}{b:Bkg}{V:List Value}(hm:m=1)(hq:m≤q)(am:q≤maxLen)(h:Own c 11 63 w base (.slice A n cap) l xs)(hn:n≤1000)(aa:base≤w.heap.size)
  (hV:Blk w U V.toArray 63) (an:V.length=11) (ac:c w (QO base (.slice A n cap)) b V) (af:QO base (.slice A n cap) U) :
  Calls Tryz.prog 208 #[.slice A n cap,.int .i64 (n:Int),.slice (some ⟨U,0,none⟩) m q] w fun e w'=>∃W n' c' D,e=.returned (.slice W n' c')∧Own c 11 63 w' base (.slice W n' c') (l++[b]) D∧Kept (fun k=>(Value.slice A n cap).ownBlock=some k) w w':=by
 have au:¬((m:Int)=0):=by omega
 have aq:=h.lt
 have ad:n=l.length:=by
  obtain⟨W,n',c',hv,hs⟩:=h.sl F;simp only[Value.slice.injEq]at hv;rw[hv.2.1,hs.len]
 have ae:Sl c 11 w (QO base (.slice A n cap)) (some ⟨U,0,none⟩) m q [b]:=by
  refine⟨hm.symm,hq,am,fun i x hx=>?_⟩
  rcases i with _ | i
  ·simp at hx;subst hx
   exact⟨U,0,V,rfl,af,ac,an,fun j u hu=>by simp only[Nat.zero_mul,Nat.zero_add];exact hV.cell (by simpa using hu)⟩
  ·simp at hx
 have ab:(l.length+m)*104≤140737488355328:=by omega
 have ak:n≤cap:=by
  rcases h.row.2 with⟨hv,_⟩ | ⟨g',ag,ah,hv,hb,ap,ak,_⟩
  ·simp only[Value.slice.injEq]at hv;omega
  ·simp only[Value.slice.injEq]at hv;omega
 have hA:A=none∧n=0∧cap=0∨∃g,A=some ⟨g,0,none⟩:=by
  rcases h.row.2 with⟨hv,_⟩ | ⟨g',ag,ah,hv,_⟩
  ·simp only[Value.slice.injEq]at hv;exact .inl hv
  ·simp only[Value.slice.injEq]at hv;exact .inr ⟨g',hv.1⟩
 have Y:=yh (fun(v':Value) (w':World) (D:List Value) (al:Own c 11 63 w' base v' (l++[b]) D) (I:w.grownBy w' (Value.slice A n cap).ownBlock)=>
  (⟨al,⟨I.os,I.tape,I.output,I.size,fun j hj aj=>I.block j hj (fun e=>aj e.symm)⟩⟩:Own c 11 63 w' base v' (l++[b]) D∧Kept (fun k=>(Value.slice A n cap).ownBlock=some k) w w'))
 have X:=yh h;have Z:=yh ae;have HM:=yh hm;have ao:=yh ad
 have ai:(m:Int)=1:=by omega
 clear h ae ac hV af hm ad ai
 rcases hA with⟨rfl,rfl,rfl⟩ | ⟨g,rfl⟩
 ·go_enter Tryz.func208,Tryz.ntmps208
  go_wp2_with (at_builtin;refine QC (t:=30) (e:=63) (bytes:=104) rfl (.tmp 23) (.tmp 24) rfl Qwa F rfl X.out rfl Z.out (fun _ _ h=>h) ab (by omega) aa ?_;intro v' w' D E J _;obtain⟨A8,n8,c8,rfl,_⟩:=E.sl F;obtain⟨O,Q⟩:=Y.out _ _ _ E J)
  go_ret
  exact⟨_,_,_,D,rfl,O,Q⟩
 ·have ar:(n:Int)≤(n:Int):=Int.le_refl _
  by_cases hcap:cap=n
  ·subst hcap
   go_enter Tryz.func208,Tryz.ntmps208
   go_wp2_with (at_builtin;refine QC (t:=30) (e:=63) (bytes:=104) rfl (.tmp 23) (.tmp 24) rfl Qwa F rfl X.out rfl Z.out (fun _ _ h=>h) ab (by omega) aa ?_;intro v' w' D E J _;obtain⟨A8,n8,c8,rfl,_⟩:=E.sl F;obtain⟨O,Q⟩:=Y.out _ _ _ E J)
   go_ret
   exact⟨_,_,_,D,rfl,O,Q⟩
  ·go_enter Tryz.func208,Tryz.ntmps208
   go_wp2_with (at_builtin;refine QC (t:=30) (e:=63) (bytes:=104) rfl (.tmp 23) (.tmp 24) rfl Qwa F rfl X.out rfl Z.out (fun _ _ h=>h) ab (by omega) aa ?_;intro v' w' D E J _;obtain⟨A8,n8,c8,rfl,_⟩:=E.sl F;obtain⟨O,Q⟩:=Y.out _ _ _ E J)
   go_ret
   exact⟨_,_,_,D,rfl,O,Q⟩
theorem Qub {c:Cod Bkg}(Q:Good c){w:World}{base n cap i U:Nat}{A:Option Addr}{l:List Bkg}{xs:List Value}{b:Bkg}{Y:List Value}(h:Own c 11 63 w base (.slice A n cap) l xs)(hi:i≤l.length)(hn:l.length≤1000)(Z:base≤w.heap.size)
  (V:Blk w U Y.toArray 63) (X:Y.length=11) (W:c w (QO base (.slice A n cap)) b Y) (aa:QO base (.slice A n cap) U) :
  Calls Tryz.prog 208 #[.slice A n cap,.int .i64 (i:Int),.slice (some ⟨U,0,none⟩) 1 1] w fun e w'=>∃E O F D,e=.returned (.slice E O F)∧Own c 11 63 w' base (.slice E O F) (l.take i++b::l.drop i) D∧Kept (fun k=>(Value.slice A n cap).ownBlock=some k) w w':=by
 have ae:n=l.length:=by
  obtain⟨E,O,F,J,hs⟩:=h.sl Q;simp only[Value.slice.injEq]at J;rw[J.2.1,hs.len]
 by_cases hlt:i < n
 ·obtain⟨g,c9,J,ac,ad⟩:=h.form (by omega)
  simp only[Value.slice.injEq]at J;obtain⟨rfl,af,rfl⟩:=J
  have ab:U≠g:=fun e=>aa.2 (by rw[e];rfl)
  by_cases hr:n+1≤cap
  ·refine(Xqa Q rfl h hlt hr (by omega) V X W ab).mono ?_
   rintro e w' ⟨D,rfl,I,hk⟩;exact⟨_,_,_,D,rfl,I,hk.mono fun k _ hk=>by rw[hk];rfl⟩
  ·refine(X6a Q rfl h hlt (by omega) (by omega) Z V X W).mono ?_
   rintro e w' ⟨N,G,D,rfl,I,hk⟩;exact⟨_,_,_,D,rfl,I,hk.mono fun k _ hk=>by rw[hk];rfl⟩
 ·obtain rfl:i=n:=by omega
  refine(Qvb Q rfl (Nat.le_refl _) (by unfold maxLen;omega) h (by omega) Z V X W aa).mono ?_;rintro e w' ⟨E,O,F,D,rfl,I,hk⟩;refine⟨E,O,F,D,rfl,?_,hk⟩;rw[List.take_of_length_le (by omega),List.drop_eq_nil_of_le (by omega)];exact I
end Go.Proofs.YtjdcokpmgionjaaGreat
