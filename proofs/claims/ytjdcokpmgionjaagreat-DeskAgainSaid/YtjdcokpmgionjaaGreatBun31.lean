/-
  Words, laws and contracts: DeskM.
-/
import Derived.Test.YtjdcokpmgionjaaGreatBun29
import Derived.Test.YtjdcokpmgionjaaGreatBun30
import Derived.BigQuiet
set_option linter.unusedSimpArgs false
set_option linter.unusedVariables false
set_option maxRecDepth 100000
set_option maxHeartbeats 20000000
namespace Go.Proofs.YtjdcokpmgionjaaGreat
open Go.RowKit Go.Shelf
theorem Z6 (w:World):Calls Tryz.prog 58 #[] w fun e w'=>∃p,e=.returned (.agg (Qa Qq p))∧SaiR w' Qq p∧yw w w':=by
 go_enter Tryz.func58,Tryz.ntmps58
 go_wp2_with fail
 refine(ZLa _).mono ?_;rintro e w1 ⟨A,n,cap,B,m,U,rfl,hc,hd,X⟩;have I:=(Blk.new w #[.int .i64 0,.int .i64 0,.slice none 0 0,.slice none 0 0,.slice none 0 0,.int .i64 0,.int .i64 0,.slice none 0 0,.int .i64 0,.int .i64 0,.int .i64 0,.slice none 0 0,.bool false] 32).bel X;have hb:=(Qf w (.cells #[.int .i64 0,.int .i64 0,.slice none 0 0,.slice none 0 0,.slice none 0 0,.int .i64 0,.int .i64 0,.slice none 0 0,.int .i64 0,.int .i64 0,.int .i64 0,.slice none 0 0,.bool false] 32)).trans (X.mono (by simp));have hc:=hc.keep (w':=w1) (S':=fun b=>b≠w.heap.size) ZB (by omega) (fun b hb _=>⟨rfl,fun e=>by subst e;simp at hb;omega⟩);have hd:=hd.keep (w':=w1) (S':=fun b=>b≠w.heap.size) Zg (by omega) (fun b hb _=>⟨rfl,fun e=>by subst e;simp at hb;omega⟩);clear X
 go_wp2_with fail
 refine(Vea _).mono ?_;rintro e Q ⟨D,Y,V,E,Z,W,rfl,J,O,F⟩;have ac:=hb.size;have J:=J.keep (w':=Q) (S':=fun b=>b≠w.heap.size) (Zt Qb (by omega)) (by omega) (fun b hb _=>⟨rfl,fun e=>by subst e;have:=I.lt;omega⟩);have O:=O.keep (w':=Q) (S':=fun b=>b≠w.heap.size) Qs (by omega) (fun b hb _=>⟨rfl,fun e=>by subst e;have:=I.lt;omega⟩);have hc:=hc.bel F;have hd:=hd.bel F;have aa:=I.bel F;replace hb:=hb.trans (F.mono hb.size);have HC:=yh hc;clear hc;have HD:=yh hd;clear hd;have HF:=yh J;clear J;have HG:=yh O;clear O;have HB:=yh hb;clear hb;clear F I
 go_wp2_with (refine wpList_store_row rfl 32 (.tmp 0) (.tmp 3) rfl w.heap.size (Qa Qq ⟨A,n,cap,B,m,U,D,Y,V,E,Z,W,none,0,0⟩) rfl rfl 32 _ aa (by kernel_rfl) rfl (by simp[Value.oneCell']) ?_)
 refine bodyPost_ret (v:=.agg (Qa Qq ⟨A,n,cap,B,m,U,D,Y,V,E,Z,W,none,0,0⟩)) ((aa.row _).ret (k:=0) (by kernel_rfl) rfl Tryz.underlying32 (by kernel_rfl) (by kernel_rfl)) rfl ?_;have hK:=ZWb (Below.refl Q.heap.size Q) w.heap.size (Qa Qq ⟨A,n,cap,B,m,U,D,Y,V,E,Z,W,none,0,0⟩);exact⟨_,rfl,⟨(HC.out.kept hK (fun b _ hb e=>hb e)).all ZB (by omega),(HD.out.kept hK (fun b _ hb e=>hb e)).all Zg (by omega),⟨HF.out.keep (S':=All) (Zt Qb (by omega)) (by omega) (fun b hb ab=>⟨hK.block b ab hb,trivial⟩),(HG.out.kept hK (fun b _ hb e=>hb e)).all Qs (by omega),.of (by decide) (by decide),.of (by decide) (by decide),.of (by decide) (by decide)⟩,Sl.nil _ _ _ _⟩,HB.out.trans (hK.below (B:=w.heap.size) HB.out.size (fun k hk e=>by omega))⟩
theorem QCa (w:World):Calls Tryz.prog 59 #[] w fun e w'=>∃q,e=.returned (.slice (some ⟨q,0,none⟩) 3 3)∧Blk w' q #[.int .i64 1,.int .i64 1,.int .i64 5,.int .i64 2,.bool true,.int .i64 1,.int .i64 0,.int .i64 0,.int .i64 2,.int .i64 0,.int .i64 0,.int .i64 2,.int .i64 4,.int .i64 5,.int .i64 0,.bool false,.int .i64 0,.int .i64 0,.int .i64 0,.int .i64 0,.int .i64 0,.int .i64 300,.int .i64 3,.int .i64 8,.int .i64 0,.int .i64 0,.bool false,.int .i64 0,.int .i64 0,.int .i64 0,.int .i64 0,.int .i64 0,.int .i64 0] 53∧yw w w':=by
 go_enter Tryz.func59,Tryz.ntmps59
 go_wp2_with fail
 go_ret
 exact⟨_,rfl,Blk.new w _ _,Qf _ _⟩
theorem Yca {w:World}{q:Nat}(h:Blk w q #[.int .i64 1,.int .i64 1,.int .i64 5,.int .i64 2,.bool true,.int .i64 1,.int .i64 0,.int .i64 0,.int .i64 2,.int .i64 0,.int .i64 0,.int .i64 2,.int .i64 4,.int .i64 5,.int .i64 0,.bool false,.int .i64 0,.int .i64 0,.int .i64 0,.int .i64 0,.int .i64 0,.int .i64 300,.int .i64 3,.int .i64 8,.int .i64 0,.int .i64 0,.bool false,.int .i64 0,.int .i64 0,.int .i64 0,.int .i64 0,.int .i64 0,.int .i64 0] 53):w.rangeAt q 0 (Q1 U1).toList:=fun j u A=>by
 rcases j with _ | _ | _ | _ | _ | _ | _ | _ | _ | _ | _ | j<;>first | (simp[Q1,U1]at A;subst A;exact h.cell rfl) | simp[Q1]at A
def UCc:Sai:={ Qq with bks:=[Yc] }
theorem V7 (w:World):Calls Tryz.prog 10 #[] w fun e w'=>e=.returned (.bool true)∧yw w w':=by
 have aA:=yh (fun p X Z=>VYb Xr U4a Qq p U1 X Z (fun h _=>Y3 h) (.of (by decide) (by decide)));rw[Qfc,Zbc,Xtb]at aA;obtain⟨bs,af⟩:∃b,b=VM U1:=⟨_,rfl⟩;have aK:=yh (fun X=>Xz U1 X);rw[ZPb,QG,←af]at aK;have aD:=yh (fun p X Z=>Qsa Xr U4a Qq p none 0 0 [] 0 bs X Z (Sl.nil _ _ _ _) (fun y h d hd=>by cases hd) (by rw[af,Yra];exact fun y h _=>Y3 h) (by rw[af,Yra];exact fun _=>Xta) (by rw[af,Yra];exact fun y h _=>ZGb h (Y3 h)));have ac:=yh (fun p A cap X Z hl=>Qsa Xr U4a Qq p A 1 cap [XY] 1 bs X Z hl (fun y h d hd _=>by rw[List.mem_singleton]at hd;subst hd;exact Y3 h) (by rw[af,Yra];exact fun y h _=>Y3 h) (by rw[af,Yra];exact fun _=>Xta) (by rw[af,Yra];exact fun y h _=>ZGb h (Y3 h)));rw[af,UDc,←af]at aD;rw[af,UEc,←af]at ac;have ao:=yh (fun p A cap X Z hl=>VNa Xr U4a Qq p A 1 cap [XY] 1 X Z hl (fun y h d hd _=>by rw[List.mem_singleton]at hd;subst hd;exact Y3 h));rw[Uhb,Uib]at ao;have ak:=yh (fun A cap X hl=>VKa A 1 cap [XY] 1 0 X hl (by decide) Vr);rw[Xsb.1,Xsb.2]at ak;obtain⟨F1,a2⟩:∃F,F=UCc:=⟨_,rfl⟩;rw[show({ Qq with bks:=[Yc] } : Sai)=F1 from a2.symm]at aA ao;clear af a2;have a8:=yh (Below.refl w.heap.size w)
 go_enter Tryz.func10,Tryz.ntmps10
 go_upto_region 1 with(fail)
 go_cut [1,2,3] (fun q q2 q3 wx=>∃s a y p',q=.pointer (some ⟨s,0,none⟩)∧q2=.pointer (some ⟨a,0,none⟩)∧q3=.int .i64 0∧Blk wx s (Qa y p') 32∧y=F1∧SaiR wx y p'∧Blk wx a (QK ZP) 55∧yw w wx)
 case first=>
  clear aD ac ao ak aK
  go_wp2_with fail
  refine(Z6 _).mono ?_;rintro e w1 ⟨p1,rfl,aE,a6⟩;have ac:=yh aE;clear aE;have ag:=yh a6;clear a6
  go_wp2_with fail
  refine(QCa _).mono ?_;rintro e w2 ⟨q,rfl,hA,am⟩;have HR:=yh (Yca hA);have HC:=yh (aA.out p1 _ (ac.out.bel am));have aj:=yh (ag.out.trans (am.mono ag.out.size));clear hA am
  go_wp2_with (refine wpList_load_mid rfl 53 (.tmp 19) rfl q 0 rfl (Q1 U1).toList _ HR.out Tryz.underlying53 (by kernel_rfl) (by kernel_rfl) ?_)
  refine HC.out.mono ?_;rintro e w3 ⟨⟨y,p',an,rfl,hy,ab,U⟩,ah⟩;obtain rfl:an=ZP:=ab;have HO:=yh U.sai;have HY:=yh hy;have ae:=yh (aj.out.trans (ah.mono aj.out.size));clear hy U ah HC aA HR;have aC:=yh (show ∀g,g=w3.heap.size→Blk ((w3.alloc (.cells #[.int .i64 0,.int .i64 0,.slice none 0 0,.slice none 0 0,.slice none 0 0,.int .i64 0,.int .i64 0,.slice none 0 0,.int .i64 0,.int .i64 0,.int .i64 0,.slice none 0 0,.bool false] 32)).alloc (.cells #[.int .i64 0,.int .i64 0] 55)) g #[.int .i64 0,.int .i64 0,.slice none 0 0,.slice none 0 0,.slice none 0 0,.int .i64 0,.int .i64 0,.slice none 0 0,.int .i64 0,.int .i64 0,.int .i64 0,.slice none 0 0,.bool false] 32 from fun g D=>by subst D;exact(Blk.new w3 _ _).old _);have aB:=yh (show ∀g,g=w3.heap.size+1→Blk (((w3.alloc (.cells #[.int .i64 0,.int .i64 0,.slice none 0 0,.slice none 0 0,.slice none 0 0,.int .i64 0,.int .i64 0,.slice none 0 0,.int .i64 0,.int .i64 0,.int .i64 0,.slice none 0 0,.bool false] 32)).alloc (.cells #[.int .i64 0,.int .i64 0] 55)).setRow w3.heap.size (Qa y p')) g #[.int .i64 0,.int .i64 0] 55 from fun g D=>by subst D;exact(Blk.new1 w3 _ _ _).rowOther (by omega) _)
  go_wp2_with (first | (refine wpList_store_row rfl 32 (.tmp 1) (.tmp 22) rfl _ (Qa y p') rfl rfl 32 _ (aC.out _ (by simp)) (by kernel_rfl) rfl (by simp[Value.oneCell']) ?_) | (refine wpList_store_row rfl 55 (.tmp 2) (.tmp 23) rfl _ (QK ZP) rfl rfl 55 _ (aB.out _ (by simp)) (by kernel_rfl) rfl (by simp[QK,Value.oneCell']) ?_))
  go_meet
  have ap:yw w3 ((((w3.alloc (.cells #[.int .i64 0,.int .i64 0,.slice none 0 0,.slice none 0 0,.slice none 0 0,.int .i64 0,.int .i64 0,.slice none 0 0,.int .i64 0,.int .i64 0,.int .i64 0,.slice none 0 0,.bool false] 32)).alloc (.cells #[.int .i64 0,.int .i64 0] 55)).setRow w3.heap.size (Qa y p')).setRow (w3.heap.size+1) (QK ZP)):=below_setRow (below_setRow (Zh w3 _ _) (Nat.le_refl _) _) (by omega) _;exact⟨_,_,y,p',rfl,rfl,rfl,((aC.out _ rfl).row _).rowOther (by omega) _,HY.out,HO.out.bel ap,(aB.out _ rfl).row _,ae.out.trans (ap.mono ae.out.size)⟩
 obtain⟨s1,a1,y1,p1,rfl,rfl,rfl,bM,rfl,aE,aw,hb⟩:=hcut;obtain⟨V1,bg⟩:∃V,V=wc:=⟨_,rfl⟩;subst bg;have au:=yh (fun X (Z:yw V1 X)=>bM.bel Z);have ar:=yh (fun X (Z:yw V1 X)=>aE.bel Z);have aq:=yh (fun X (Z:yw V1 X)=>aw.bel Z);have ag:=yh hb;clear hb;clear bM aE aw a8 aA
 go_upto_region 2 with(fail)
 go_cut [4,5] (fun q r wx=>q=.string ⟨bs.toArray⟩∧r=.int .i64 0∧yw V1 wx)
 case first=>
  clear aD ac ao ak au ar aq ag
  go_wp2_with fail
  refine(QCa _).mono ?_;rintro e w2 ⟨q,rfl,hA,am⟩;have HR:=yh (Yca hA);have aj:=yh am;clear am;clear hA
  go_wp2_with (refine wpList_load_mid rfl 53 (.tmp 27) rfl q 0 rfl (Q1 U1).toList _ HR.out Tryz.underlying53 (by kernel_rfl) (by kernel_rfl) ?_)
  refine(aK.out _).mono ?_;rintro e w3 ⟨rfl,ah⟩;have ae:=yh ah;clear ah
  go_wp2_with fail
  go_meet
  exact⟨rfl,rfl,aj.out.trans (ae.out.mono aj.out.size)⟩
 obtain⟨rfl,rfl,am⟩:=hcut;obtain⟨V2,bh⟩:∃V,V=wc:=⟨_,rfl⟩;subst bh;have aj:=yh am;clear am;clear aK
 go_upto_region 3 with(fail)
 go_cut [6,7,8] (fun q q2 q3 wx=>∃s a A c,q=.pointer (some ⟨s,0,none⟩)∧q2=.pointer (some ⟨a,0,none⟩)∧q3=.int .i64 0∧Blk wx s #[.slice A 1 c,.int .i64 1] 39∧Sl ZL 13 wx All A 1 c [XY]∧Blk wx a (QK ZP) 55∧yw V2 wx)
 case first=>
  clear ac ao ak au ar aq ag aj
  go_wp2_with fail
  refine(Z6 _).mono ?_;rintro e w1 ⟨p4,rfl,I,Y⟩;have HC:=yh (aD.out p4 _ I);have aS:=yh Y;clear Y;clear I
  go_wp2_with fail
  refine HC.out.mono ?_;rintro e w3 ⟨⟨v,xs,an,he,ab,U⟩,ah⟩;obtain rfl:an=ZP:=ab;rw[Zn]at he;rw[QG]at U;obtain⟨A,n,c,rfl,hs⟩:=U.sl Qm;obtain rfl:1=n:=hs.len;have HD:=yh (hs.all Qm (by omega));have ae:=yh (aS.out.trans (ah.mono aS.out.size));subst he;clear U hs ah HC;have aC:=yh (show ∀g,g=w3.heap.size→Blk ((w3.alloc (.cells #[.slice none 0 0,.int .i64 0] 39)).alloc (.cells #[.int .i64 0,.int .i64 0] 55)) g #[.slice none 0 0,.int .i64 0] 39 from fun g D=>by subst D;exact(Blk.new w3 _ _).old _);have aB:=yh (show ∀g,g=w3.heap.size+1→Blk (((w3.alloc (.cells #[.slice none 0 0,.int .i64 0] 39)).alloc (.cells #[.int .i64 0,.int .i64 0] 55)).setRow w3.heap.size #[.slice A 1 c,.int .i64 1]) g #[.int .i64 0,.int .i64 0] 55 from fun g D=>by subst D;exact(Blk.new1 w3 _ _ _).rowOther (by omega) _)
  go_wp2_with (first | (refine wpList_store_row rfl 39 (.tmp 6) (.tmp 37) rfl _ #[.slice A 1 c,.int .i64 1] rfl rfl 39 _ (aC.out _ (by simp)) (by kernel_rfl) rfl (by simp[Value.oneCell']) ?_) | (refine wpList_store_row rfl 55 (.tmp 7) (.tmp 38) rfl _ (QK ZP) rfl rfl 55 _ (aB.out _ (by simp)) (by kernel_rfl) rfl (by simp[QK,Value.oneCell']) ?_))
  go_meet
  have ap:yw w3 ((((w3.alloc (.cells #[.slice none 0 0,.int .i64 0] 39)).alloc (.cells #[.int .i64 0,.int .i64 0] 55)).setRow w3.heap.size #[.slice A 1 c,.int .i64 1]).setRow (w3.heap.size+1) (QK ZP)):=below_setRow (below_setRow (Zh w3 _ _) (Nat.le_refl _) _) (by omega) _;exact⟨_,_,A,c,rfl,rfl,rfl,((aC.out _ rfl).row _).rowOther (by omega) _,HD.out.bel ap,(aB.out _ rfl).row _,ae.out.trans (ap.mono ae.out.size)⟩
 obtain⟨s3,a3,A3,c3,rfl,rfl,rfl,al,a0,ax,ah⟩:=hcut;obtain⟨V3,bi⟩:∃V,V=wc:=⟨_,rfl⟩;subst bi;have aQ:=aj.out.trans (ah.mono aj.out.size);have ae:=yh (fun X (Z:yw V3 X)=>aQ.trans (Z.mono aQ.size));have aL:=yh (fun X (Z:yw V3 X)=>al.bel Z);have ad:=yh (fun X (Z:yw V3 X)=>a0.bel Z);have az:=yh (fun X (Z:yw V3 X)=>ax.bel Z);have J:=yh (show ∀X,yw V3 X→(fun w'=>yJ w' s3 0 A3 1 c3∧yI w' s3 1 1) X from fun X Z=>⟨(al.bel Z).cell rfl,(al.bel Z).cell rfl⟩);clear ah aQ al a0 ax aj aD
 go_upto_region 4 with(fail)
 go_cut [10,11] (fun q q2 wx=>∃a,q=.pointer (some ⟨a,0,none⟩)∧q2=.int .i64 0∧Blk wx a (QK ZP) 55∧yw V3 wx)
 case first=>
  clear ao ak au ar aq ag ae az;have bG:yw V3 V3.drew:=(Below.refl _ V3).drew;refine wp_region_held_drew (S:=(fun w'=>yJ w' s3 0 A3 1 c3∧yI w' s3 1 1)) (by kernel_rfl) (J.out _ bG) (fun O=>?_);refine yT [1,2] (by kernel_rfl) (by assumption) ?_
  iterate 2 (refine yS (v:=?_) (gA rfl) (fun _ _ _ h=>h) rfl ?_ ?_;rotate_left;(focus (intro w bH;(try dsimp only at bH);go_simp<;>with_reducible rfl));simp only[yP,yA,yB,yC])
  refine wpAnyH_ready (rs:=[0,8,9]) (by kernel_rfl) (by simp) ?_;refine AllReadyH.cons (gA rfl) (fun K hK=>?_) ?m_1
  case m_1=>
   refine AllReadyH.cons (gA rfl) (fun K hK=>?_) ?m_2
   case m_2=>
    refine AllReadyH.cons (gA rfl) (fun K hK=>?_) AllReadyH.nil;go_simp
    refine hK.out _ _ (J.out _ (bG.alloc bG.size (.cells #[.int .i64 0,.int .i64 0] 55))) fun O=>?_
    clear hK K
    try simp only[yP,yQ,yA,yB,yC]
    (have E:=ZF bG #[.int .i64 0,.int .i64 0] 55;have aa:=V9 bG;(try replace hL:=fun g D=>(hL g D).bel (Qf _ (.cells #[.int .i64 0,.int .i64 0] 55)));(try replace I:=I.bel (Qf _ (.cells #[.int .i64 0,.int .i64 0] 55)));replace bG:=bG.alloc bG.size (.cells #[.int .i64 0,.int .i64 0] 55))
    refine wpAnyH_ready (rs:=[0,8]) (by kernel_rfl) (by simp) ?_;refine AllReadyH.cons (gA rfl) (fun K hK=>?_) ?m_3
    case m_3=>
     refine AllReadyH.cons (gA rfl) (fun K hK=>?_) AllReadyH.nil;go_simp
     refine hK.out _ _ (J.out _ (bG.alloc bG.size (.cells #[.slice none 0 0,.int .i64 0] 39))) fun O=>?_
     clear hK K
     try simp only[yP,yQ,yA,yB,yC]
     (have hL:=ZF bG #[.slice none 0 0,.int .i64 0] 39;have bI:=V9 bG;(try replace E:=fun g D=>(E g D).bel (Qf _ (.cells #[.slice none 0 0,.int .i64 0] 39)));(try replace I:=I.bel (Qf _ (.cells #[.slice none 0 0,.int .i64 0] 39)));replace bG:=bG.alloc bG.size (.cells #[.slice none 0 0,.int .i64 0] 39))
     refine wpAnyH_ready (rs:=[0]) (by kernel_rfl) (by simp) ?_;refine AllReadyH.cons (gA rfl) (fun K hK=>?_) AllReadyH.nil;go_simp
     (go_at_call 58;refine(Z6 _).mono ?_;rintro e w4 ⟨p4,rfl,I,Y⟩;(try replace hL:=fun g D=>(hL g D).bel Y);(try replace E:=fun g D=>(E g D).bel Y);replace bG:=bG.trans (Y.mono bG.size);clear Y)
     go_wp2_with fail
     refine hK.out _ _ (J.out _ bG) fun O=>?_
     clear hK K
     try simp only[yP,yQ,yA,yB,yC]
     refine wpAnyH_ready (rs:=[3]) (by kernel_rfl) (by simp) ?_;refine AllReadyH.cons (gA rfl) (fun K hK=>?_) AllReadyH.nil;go_simp
     (go_at_call 53;refine(ac.out p4 A3 c3 _ I (ad.out _ bG)).mono ?_;rintro e w5 ⟨⟨v,xs,an,he,ab,U⟩,Q⟩;obtain rfl:an=ZP:=ab;rw[Zn]at he;rw[QG]at U;obtain⟨A5,n5,c5,rfl,-⟩:=U.sl Qm;subst he;(try replace hL:=fun g D=>(hL g D).bel Q);(try replace E:=fun g D=>(E g D).bel Q);replace bG:=bG.trans (Q.mono bG.size);clear Q I U)
     go_wp2_with fail
     refine hK.out _ _ (J.out _ bG) fun O=>?_
     clear hK K
     try simp only[yP,yQ,yA,yB,yC]
     refine yT [4,5,6,7] (by kernel_rfl) (by assumption) ?_
     iterate 4 (refine yS (v:=?_) (gA rfl) (fun _ _ _ h=>h) rfl ?_ ?_;rotate_left;(focus (intro w bH;(try dsimp only at bH);go_simp<;>with_reducible rfl));simp only[yP,yA,yB,yC])
     refine yR 10 (by kernel_rfl) (gA rfl) fun K hK=>?_
     (refine wp_store_row 39 (.tmp 9) (.tmp 45) rfl _ #[.slice A5 n5 c5,.int .i64 1] rfl rfl 39 _ (hL _ (by simp)) (by kernel_rfl) rfl (by simp[Value.oneCell']) ?_)
     refine hK.out _ _ (J.out _ (below_setRow bG (bI _ (by simp)) _)) fun O=>?_
     clear hK K
     try simp only[yP,yQ,yA,yB,yC]
     refine yR 11 (by kernel_rfl) (gA rfl) fun K hK=>?_
     (refine wp_store_row 55 (.tmp 10) (.tmp 46) rfl _ (QK ZP) rfl rfl 55 _ ((E _ (by simp)).rowOther (Blk.neTy (E _ (by simp)) (hL _ (by simp)) (by decide)) _) (by kernel_rfl) rfl (by simp[QK,Value.oneCell']) ?_)
     refine hK.out _ _ (J.out _ (below_setRow (below_setRow bG (bI _ (by simp)) _) (aa _ (by simp)) _)) fun O=>?_
     clear hK K
     try simp only[yP,yQ,yA,yB,yC]
     refine yT [12] (by kernel_rfl) (by assumption) ?_
     iterate 1 (refine yS (v:=?_) (gA rfl) (fun _ _ _ h=>h) rfl ?_ ?_;rotate_left;(focus (intro w bH;(try dsimp only at bH);go_simp<;>with_reducible rfl));simp only[yP,yA,yB,yC])
     refine wpAnyH_done (by kernel_rfl) ?_ _
     go_wp2_with fail
     go_meet
     exact⟨_,rfl,rfl,((E _ (by simp)).rowOther (Blk.neTy (E _ (by simp)) (hL _ (by simp)) (by decide)) _).row _,below_setRow (below_setRow bG (bI _ (by simp)) _) (aa _ (by simp)) _⟩
    go_simp
    (go_at_call 58;refine(Z6 _).mono ?_;rintro e w4 ⟨p4,rfl,I,Y⟩;(try replace hL:=fun g D=>(hL g D).bel Y);(try replace E:=fun g D=>(E g D).bel Y);replace bG:=bG.trans (Y.mono bG.size);clear Y)
    go_wp2_with fail
    refine hK.out _ _ (J.out _ bG) fun O=>?_
    clear hK K
    try simp only[yP,yQ,yA,yB,yC]
    refine wpAnyH_ready (rs:=[3,8]) (by kernel_rfl) (by simp) ?_;refine AllReadyH.cons (gA rfl) (fun K hK=>?_) ?m_4
    case m_4=>
     refine AllReadyH.cons (gA rfl) (fun K hK=>?_) AllReadyH.nil;go_simp
     refine hK.out _ _ (J.out _ (bG.alloc bG.size (.cells #[.slice none 0 0,.int .i64 0] 39))) fun O=>?_
     clear hK K
     try simp only[yP,yQ,yA,yB,yC]
     (have hL:=ZF bG #[.slice none 0 0,.int .i64 0] 39;have bI:=V9 bG;(try replace E:=fun g D=>(E g D).bel (Qf _ (.cells #[.slice none 0 0,.int .i64 0] 39)));(try replace I:=I.bel (Qf _ (.cells #[.slice none 0 0,.int .i64 0] 39)));replace bG:=bG.alloc bG.size (.cells #[.slice none 0 0,.int .i64 0] 39))
     refine wpAnyH_ready (rs:=[3]) (by kernel_rfl) (by simp) ?_;refine AllReadyH.cons (gA rfl) (fun K hK=>?_) AllReadyH.nil;go_simp
     (go_at_call 53;refine(ac.out p4 A3 c3 _ I (ad.out _ bG)).mono ?_;rintro e w5 ⟨⟨v,xs,an,he,ab,U⟩,Q⟩;obtain rfl:an=ZP:=ab;rw[Zn]at he;rw[QG]at U;obtain⟨A5,n5,c5,rfl,-⟩:=U.sl Qm;subst he;(try replace hL:=fun g D=>(hL g D).bel Q);(try replace E:=fun g D=>(E g D).bel Q);replace bG:=bG.trans (Q.mono bG.size);clear Q I U)
     go_wp2_with fail
     refine hK.out _ _ (J.out _ bG) fun O=>?_
     clear hK K
     try simp only[yP,yQ,yA,yB,yC]
     refine yT [4,5,6,7] (by kernel_rfl) (by assumption) ?_
     iterate 4 (refine yS (v:=?_) (gA rfl) (fun _ _ _ h=>h) rfl ?_ ?_;rotate_left;(focus (intro w bH;(try dsimp only at bH);go_simp<;>with_reducible rfl));simp only[yP,yA,yB,yC])
     refine yR 10 (by kernel_rfl) (gA rfl) fun K hK=>?_
     (refine wp_store_row 39 (.tmp 9) (.tmp 45) rfl _ #[.slice A5 n5 c5,.int .i64 1] rfl rfl 39 _ (hL _ (by simp)) (by kernel_rfl) rfl (by simp[Value.oneCell']) ?_)
     refine hK.out _ _ (J.out _ (below_setRow bG (bI _ (by simp)) _)) fun O=>?_
     clear hK K
     try simp only[yP,yQ,yA,yB,yC]
     refine yR 11 (by kernel_rfl) (gA rfl) fun K hK=>?_
     (refine wp_store_row 55 (.tmp 10) (.tmp 46) rfl _ (QK ZP) rfl rfl 55 _ ((E _ (by simp)).rowOther (Blk.neTy (E _ (by simp)) (hL _ (by simp)) (by decide)) _) (by kernel_rfl) rfl (by simp[QK,Value.oneCell']) ?_)
     refine hK.out _ _ (J.out _ (below_setRow (below_setRow bG (bI _ (by simp)) _) (aa _ (by simp)) _)) fun O=>?_
     clear hK K
     try simp only[yP,yQ,yA,yB,yC]
     refine yT [12] (by kernel_rfl) (by assumption) ?_
     iterate 1 (refine yS (v:=?_) (gA rfl) (fun _ _ _ h=>h) rfl ?_ ?_;rotate_left;(focus (intro w bH;(try dsimp only at bH);go_simp<;>with_reducible rfl));simp only[yP,yA,yB,yC])
     refine wpAnyH_done (by kernel_rfl) ?_ _
     go_wp2_with fail
     go_meet
     exact⟨_,rfl,rfl,((E _ (by simp)).rowOther (Blk.neTy (E _ (by simp)) (hL _ (by simp)) (by decide)) _).row _,below_setRow (below_setRow bG (bI _ (by simp)) _) (aa _ (by simp)) _⟩
    go_simp
    (go_at_call 53;refine(ac.out p4 A3 c3 _ I (ad.out _ bG)).mono ?_;rintro e w5 ⟨⟨v,xs,an,he,ab,U⟩,Q⟩;obtain rfl:an=ZP:=ab;rw[Zn]at he;rw[QG]at U;obtain⟨A5,n5,c5,rfl,-⟩:=U.sl Qm;subst he;(try replace hL:=fun g D=>(hL g D).bel Q);(try replace E:=fun g D=>(E g D).bel Q);replace bG:=bG.trans (Q.mono bG.size);clear Q I U)
    go_wp2_with fail
    refine hK.out _ _ (J.out _ bG) fun O=>?_
    clear hK K
    try simp only[yP,yQ,yA,yB,yC]
    refine yT [4,5,6,7] (by kernel_rfl) (by assumption) ?_
    iterate 4 (refine yS (v:=?_) (gA rfl) (fun _ _ _ h=>h) rfl ?_ ?_;rotate_left;(focus (intro w bH;(try dsimp only at bH);go_simp<;>with_reducible rfl));simp only[yP,yA,yB,yC])
    refine wpAnyH_ready (rs:=[8]) (by kernel_rfl) (by simp) ?_;refine AllReadyH.cons (gA rfl) (fun K hK=>?_) AllReadyH.nil;go_simp
    refine hK.out _ _ (J.out _ (bG.alloc bG.size (.cells #[.slice none 0 0,.int .i64 0] 39))) fun O=>?_
    clear hK K
    try simp only[yP,yQ,yA,yB,yC]
    (have hL:=ZF bG #[.slice none 0 0,.int .i64 0] 39;have bI:=V9 bG;(try replace E:=fun g D=>(E g D).bel (Qf _ (.cells #[.slice none 0 0,.int .i64 0] 39)));(try replace I:=I.bel (Qf _ (.cells #[.slice none 0 0,.int .i64 0] 39)));replace bG:=bG.alloc bG.size (.cells #[.slice none 0 0,.int .i64 0] 39))
    refine yR 10 (by kernel_rfl) (gA rfl) fun K hK=>?_
    (refine wp_store_row 39 (.tmp 9) (.tmp 45) rfl _ #[.slice A5 n5 c5,.int .i64 1] rfl rfl 39 _ (hL _ (by simp)) (by kernel_rfl) rfl (by simp[Value.oneCell']) ?_)
    refine hK.out _ _ (J.out _ (below_setRow bG (bI _ (by simp)) _)) fun O=>?_
    clear hK K
    try simp only[yP,yQ,yA,yB,yC]
    refine yR 11 (by kernel_rfl) (gA rfl) fun K hK=>?_
    (refine wp_store_row 55 (.tmp 10) (.tmp 46) rfl _ (QK ZP) rfl rfl 55 _ ((E _ (by simp)).rowOther (Blk.neTy (E _ (by simp)) (hL _ (by simp)) (by decide)) _) (by kernel_rfl) rfl (by simp[QK,Value.oneCell']) ?_)
    refine hK.out _ _ (J.out _ (below_setRow (below_setRow bG (bI _ (by simp)) _) (aa _ (by simp)) _)) fun O=>?_
    clear hK K
    try simp only[yP,yQ,yA,yB,yC]
    refine yT [12] (by kernel_rfl) (by assumption) ?_
    iterate 1 (refine yS (v:=?_) (gA rfl) (fun _ _ _ h=>h) rfl ?_ ?_;rotate_left;(focus (intro w bH;(try dsimp only at bH);go_simp<;>with_reducible rfl));simp only[yP,yA,yB,yC])
    refine wpAnyH_done (by kernel_rfl) ?_ _
    go_wp2_with fail
    go_meet
    exact⟨_,rfl,rfl,((E _ (by simp)).rowOther (Blk.neTy (E _ (by simp)) (hL _ (by simp)) (by decide)) _).row _,below_setRow (below_setRow bG (bI _ (by simp)) _) (aa _ (by simp)) _⟩
   go_simp
   refine hK.out _ _ (J.out _ (bG.alloc bG.size (.cells #[.slice none 0 0,.int .i64 0] 39))) fun O=>?_
   clear hK K
   try simp only[yP,yQ,yA,yB,yC]
   (have hL:=ZF bG #[.slice none 0 0,.int .i64 0] 39;have bI:=V9 bG;(try replace E:=fun g D=>(E g D).bel (Qf _ (.cells #[.slice none 0 0,.int .i64 0] 39)));(try replace I:=I.bel (Qf _ (.cells #[.slice none 0 0,.int .i64 0] 39)));replace bG:=bG.alloc bG.size (.cells #[.slice none 0 0,.int .i64 0] 39))
   refine wpAnyH_ready (rs:=[0,9]) (by kernel_rfl) (by simp) ?_;refine AllReadyH.cons (gA rfl) (fun K hK=>?_) ?m_5
   case m_5=>
    refine AllReadyH.cons (gA rfl) (fun K hK=>?_) AllReadyH.nil;go_simp
    refine hK.out _ _ (J.out _ (bG.alloc bG.size (.cells #[.int .i64 0,.int .i64 0] 55))) fun O=>?_
    clear hK K
    try simp only[yP,yQ,yA,yB,yC]
    (have E:=ZF bG #[.int .i64 0,.int .i64 0] 55;have aa:=V9 bG;(try replace hL:=fun g D=>(hL g D).bel (Qf _ (.cells #[.int .i64 0,.int .i64 0] 55)));(try replace I:=I.bel (Qf _ (.cells #[.int .i64 0,.int .i64 0] 55)));replace bG:=bG.alloc bG.size (.cells #[.int .i64 0,.int .i64 0] 55))
    refine wpAnyH_ready (rs:=[0]) (by kernel_rfl) (by simp) ?_;refine AllReadyH.cons (gA rfl) (fun K hK=>?_) AllReadyH.nil;go_simp
    (go_at_call 58;refine(Z6 _).mono ?_;rintro e w4 ⟨p4,rfl,I,Y⟩;(try replace hL:=fun g D=>(hL g D).bel Y);(try replace E:=fun g D=>(E g D).bel Y);replace bG:=bG.trans (Y.mono bG.size);clear Y)
    go_wp2_with fail
    refine hK.out _ _ (J.out _ bG) fun O=>?_
    clear hK K
    try simp only[yP,yQ,yA,yB,yC]
    refine wpAnyH_ready (rs:=[3]) (by kernel_rfl) (by simp) ?_;refine AllReadyH.cons (gA rfl) (fun K hK=>?_) AllReadyH.nil;go_simp
    (go_at_call 53;refine(ac.out p4 A3 c3 _ I (ad.out _ bG)).mono ?_;rintro e w5 ⟨⟨v,xs,an,he,ab,U⟩,Q⟩;obtain rfl:an=ZP:=ab;rw[Zn]at he;rw[QG]at U;obtain⟨A5,n5,c5,rfl,-⟩:=U.sl Qm;subst he;(try replace hL:=fun g D=>(hL g D).bel Q);(try replace E:=fun g D=>(E g D).bel Q);replace bG:=bG.trans (Q.mono bG.size);clear Q I U)
    go_wp2_with fail
    refine hK.out _ _ (J.out _ bG) fun O=>?_
    clear hK K
    try simp only[yP,yQ,yA,yB,yC]
    refine yT [4,5,6,7] (by kernel_rfl) (by assumption) ?_
    iterate 4 (refine yS (v:=?_) (gA rfl) (fun _ _ _ h=>h) rfl ?_ ?_;rotate_left;(focus (intro w bH;(try dsimp only at bH);go_simp<;>with_reducible rfl));simp only[yP,yA,yB,yC])
    refine yR 10 (by kernel_rfl) (gA rfl) fun K hK=>?_
    (refine wp_store_row 39 (.tmp 9) (.tmp 45) rfl _ #[.slice A5 n5 c5,.int .i64 1] rfl rfl 39 _ (hL _ (by simp)) (by kernel_rfl) rfl (by simp[Value.oneCell']) ?_)
    refine hK.out _ _ (J.out _ (below_setRow bG (bI _ (by simp)) _)) fun O=>?_
    clear hK K
    try simp only[yP,yQ,yA,yB,yC]
    refine yR 11 (by kernel_rfl) (gA rfl) fun K hK=>?_
    (refine wp_store_row 55 (.tmp 10) (.tmp 46) rfl _ (QK ZP) rfl rfl 55 _ ((E _ (by simp)).rowOther (Blk.neTy (E _ (by simp)) (hL _ (by simp)) (by decide)) _) (by kernel_rfl) rfl (by simp[QK,Value.oneCell']) ?_)
    refine hK.out _ _ (J.out _ (below_setRow (below_setRow bG (bI _ (by simp)) _) (aa _ (by simp)) _)) fun O=>?_
    clear hK K
    try simp only[yP,yQ,yA,yB,yC]
    refine yT [12] (by kernel_rfl) (by assumption) ?_
    iterate 1 (refine yS (v:=?_) (gA rfl) (fun _ _ _ h=>h) rfl ?_ ?_;rotate_left;(focus (intro w bH;(try dsimp only at bH);go_simp<;>with_reducible rfl));simp only[yP,yA,yB,yC])
    refine wpAnyH_done (by kernel_rfl) ?_ _
    go_wp2_with fail
    go_meet
    exact⟨_,rfl,rfl,((E _ (by simp)).rowOther (Blk.neTy (E _ (by simp)) (hL _ (by simp)) (by decide)) _).row _,below_setRow (below_setRow bG (bI _ (by simp)) _) (aa _ (by simp)) _⟩
   go_simp
   (go_at_call 58;refine(Z6 _).mono ?_;rintro e w4 ⟨p4,rfl,I,Y⟩;(try replace hL:=fun g D=>(hL g D).bel Y);(try replace E:=fun g D=>(E g D).bel Y);replace bG:=bG.trans (Y.mono bG.size);clear Y)
   go_wp2_with fail
   refine hK.out _ _ (J.out _ bG) fun O=>?_
   clear hK K
   try simp only[yP,yQ,yA,yB,yC]
   refine wpAnyH_ready (rs:=[3,9]) (by kernel_rfl) (by simp) ?_;refine AllReadyH.cons (gA rfl) (fun K hK=>?_) ?m_6
   case m_6=>
    refine AllReadyH.cons (gA rfl) (fun K hK=>?_) AllReadyH.nil;go_simp
    refine hK.out _ _ (J.out _ (bG.alloc bG.size (.cells #[.int .i64 0,.int .i64 0] 55))) fun O=>?_
    clear hK K
    try simp only[yP,yQ,yA,yB,yC]
    (have E:=ZF bG #[.int .i64 0,.int .i64 0] 55;have aa:=V9 bG;(try replace hL:=fun g D=>(hL g D).bel (Qf _ (.cells #[.int .i64 0,.int .i64 0] 55)));(try replace I:=I.bel (Qf _ (.cells #[.int .i64 0,.int .i64 0] 55)));replace bG:=bG.alloc bG.size (.cells #[.int .i64 0,.int .i64 0] 55))
    refine wpAnyH_ready (rs:=[3]) (by kernel_rfl) (by simp) ?_;refine AllReadyH.cons (gA rfl) (fun K hK=>?_) AllReadyH.nil;go_simp
    (go_at_call 53;refine(ac.out p4 A3 c3 _ I (ad.out _ bG)).mono ?_;rintro e w5 ⟨⟨v,xs,an,he,ab,U⟩,Q⟩;obtain rfl:an=ZP:=ab;rw[Zn]at he;rw[QG]at U;obtain⟨A5,n5,c5,rfl,-⟩:=U.sl Qm;subst he;(try replace hL:=fun g D=>(hL g D).bel Q);(try replace E:=fun g D=>(E g D).bel Q);replace bG:=bG.trans (Q.mono bG.size);clear Q I U)
    go_wp2_with fail
    refine hK.out _ _ (J.out _ bG) fun O=>?_
    clear hK K
    try simp only[yP,yQ,yA,yB,yC]
    refine yT [4,5,6,7] (by kernel_rfl) (by assumption) ?_
    iterate 4 (refine yS (v:=?_) (gA rfl) (fun _ _ _ h=>h) rfl ?_ ?_;rotate_left;(focus (intro w bH;(try dsimp only at bH);go_simp<;>with_reducible rfl));simp only[yP,yA,yB,yC])
    refine yR 10 (by kernel_rfl) (gA rfl) fun K hK=>?_
    (refine wp_store_row 39 (.tmp 9) (.tmp 45) rfl _ #[.slice A5 n5 c5,.int .i64 1] rfl rfl 39 _ (hL _ (by simp)) (by kernel_rfl) rfl (by simp[Value.oneCell']) ?_)
    refine hK.out _ _ (J.out _ (below_setRow bG (bI _ (by simp)) _)) fun O=>?_
    clear hK K
    try simp only[yP,yQ,yA,yB,yC]
    refine yR 11 (by kernel_rfl) (gA rfl) fun K hK=>?_
    (refine wp_store_row 55 (.tmp 10) (.tmp 46) rfl _ (QK ZP) rfl rfl 55 _ ((E _ (by simp)).rowOther (Blk.neTy (E _ (by simp)) (hL _ (by simp)) (by decide)) _) (by kernel_rfl) rfl (by simp[QK,Value.oneCell']) ?_)
    refine hK.out _ _ (J.out _ (below_setRow (below_setRow bG (bI _ (by simp)) _) (aa _ (by simp)) _)) fun O=>?_
    clear hK K
    try simp only[yP,yQ,yA,yB,yC]
    refine yT [12] (by kernel_rfl) (by assumption) ?_
    iterate 1 (refine yS (v:=?_) (gA rfl) (fun _ _ _ h=>h) rfl ?_ ?_;rotate_left;(focus (intro w bH;(try dsimp only at bH);go_simp<;>with_reducible rfl));simp only[yP,yA,yB,yC])
    refine wpAnyH_done (by kernel_rfl) ?_ _
    go_wp2_with fail
    go_meet
    exact⟨_,rfl,rfl,((E _ (by simp)).rowOther (Blk.neTy (E _ (by simp)) (hL _ (by simp)) (by decide)) _).row _,below_setRow (below_setRow bG (bI _ (by simp)) _) (aa _ (by simp)) _⟩
   go_simp
   (go_at_call 53;refine(ac.out p4 A3 c3 _ I (ad.out _ bG)).mono ?_;rintro e w5 ⟨⟨v,xs,an,he,ab,U⟩,Q⟩;obtain rfl:an=ZP:=ab;rw[Zn]at he;rw[QG]at U;obtain⟨A5,n5,c5,rfl,-⟩:=U.sl Qm;subst he;(try replace hL:=fun g D=>(hL g D).bel Q);(try replace E:=fun g D=>(E g D).bel Q);replace bG:=bG.trans (Q.mono bG.size);clear Q I U)
   go_wp2_with fail
   refine hK.out _ _ (J.out _ bG) fun O=>?_
   clear hK K
   try simp only[yP,yQ,yA,yB,yC]
   refine yT [4,5,6,7] (by kernel_rfl) (by assumption) ?_
   iterate 4 (refine yS (v:=?_) (gA rfl) (fun _ _ _ h=>h) rfl ?_ ?_;rotate_left;(focus (intro w bH;(try dsimp only at bH);go_simp<;>with_reducible rfl));simp only[yP,yA,yB,yC])
   refine wpAnyH_ready (rs:=[9]) (by kernel_rfl) (by simp) ?_;refine AllReadyH.cons (gA rfl) (fun K hK=>?_) AllReadyH.nil;go_simp
   refine hK.out _ _ (J.out _ (bG.alloc bG.size (.cells #[.int .i64 0,.int .i64 0] 55))) fun O=>?_
   clear hK K
   try simp only[yP,yQ,yA,yB,yC]
   (have E:=ZF bG #[.int .i64 0,.int .i64 0] 55;have aa:=V9 bG;(try replace hL:=fun g D=>(hL g D).bel (Qf _ (.cells #[.int .i64 0,.int .i64 0] 55)));(try replace I:=I.bel (Qf _ (.cells #[.int .i64 0,.int .i64 0] 55)));replace bG:=bG.alloc bG.size (.cells #[.int .i64 0,.int .i64 0] 55))
   refine yR 10 (by kernel_rfl) (gA rfl) fun K hK=>?_
   (refine wp_store_row 39 (.tmp 9) (.tmp 45) rfl _ #[.slice A5 n5 c5,.int .i64 1] rfl rfl 39 _ (hL _ (by simp)) (by kernel_rfl) rfl (by simp[Value.oneCell']) ?_)
   refine hK.out _ _ (J.out _ (below_setRow bG (bI _ (by simp)) _)) fun O=>?_
   clear hK K
   try simp only[yP,yQ,yA,yB,yC]
   refine yR 11 (by kernel_rfl) (gA rfl) fun K hK=>?_
   (refine wp_store_row 55 (.tmp 10) (.tmp 46) rfl _ (QK ZP) rfl rfl 55 _ ((E _ (by simp)).rowOther (Blk.neTy (E _ (by simp)) (hL _ (by simp)) (by decide)) _) (by kernel_rfl) rfl (by simp[QK,Value.oneCell']) ?_)
   refine hK.out _ _ (J.out _ (below_setRow (below_setRow bG (bI _ (by simp)) _) (aa _ (by simp)) _)) fun O=>?_
   clear hK K
   try simp only[yP,yQ,yA,yB,yC]
   refine yT [12] (by kernel_rfl) (by assumption) ?_
   iterate 1 (refine yS (v:=?_) (gA rfl) (fun _ _ _ h=>h) rfl ?_ ?_;rotate_left;(focus (intro w bH;(try dsimp only at bH);go_simp<;>with_reducible rfl));simp only[yP,yA,yB,yC])
   refine wpAnyH_done (by kernel_rfl) ?_ _
   go_wp2_with fail
   go_meet
   exact⟨_,rfl,rfl,((E _ (by simp)).rowOther (Blk.neTy (E _ (by simp)) (hL _ (by simp)) (by decide)) _).row _,below_setRow (below_setRow bG (bI _ (by simp)) _) (aa _ (by simp)) _⟩
  go_simp
  (go_at_call 58;refine(Z6 _).mono ?_;rintro e w4 ⟨p4,rfl,I,Y⟩;(try replace hL:=fun g D=>(hL g D).bel Y);(try replace E:=fun g D=>(E g D).bel Y);replace bG:=bG.trans (Y.mono bG.size);clear Y)
  go_wp2_with fail
  refine hK.out _ _ (J.out _ bG) fun O=>?_
  clear hK K
  try simp only[yP,yQ,yA,yB,yC]
  refine wpAnyH_ready (rs:=[3,8,9]) (by kernel_rfl) (by simp) ?_;refine AllReadyH.cons (gA rfl) (fun K hK=>?_) ?m_7
  case m_7=>
   refine AllReadyH.cons (gA rfl) (fun K hK=>?_) ?m_8
   case m_8=>
    refine AllReadyH.cons (gA rfl) (fun K hK=>?_) AllReadyH.nil;go_simp
    refine hK.out _ _ (J.out _ (bG.alloc bG.size (.cells #[.int .i64 0,.int .i64 0] 55))) fun O=>?_
    clear hK K
    try simp only[yP,yQ,yA,yB,yC]
    (have E:=ZF bG #[.int .i64 0,.int .i64 0] 55;have aa:=V9 bG;(try replace hL:=fun g D=>(hL g D).bel (Qf _ (.cells #[.int .i64 0,.int .i64 0] 55)));(try replace I:=I.bel (Qf _ (.cells #[.int .i64 0,.int .i64 0] 55)));replace bG:=bG.alloc bG.size (.cells #[.int .i64 0,.int .i64 0] 55))
    refine wpAnyH_ready (rs:=[3,8]) (by kernel_rfl) (by simp) ?_;refine AllReadyH.cons (gA rfl) (fun K hK=>?_) ?m_9
    case m_9=>
     refine AllReadyH.cons (gA rfl) (fun K hK=>?_) AllReadyH.nil;go_simp
     refine hK.out _ _ (J.out _ (bG.alloc bG.size (.cells #[.slice none 0 0,.int .i64 0] 39))) fun O=>?_
     clear hK K
     try simp only[yP,yQ,yA,yB,yC]
     (have hL:=ZF bG #[.slice none 0 0,.int .i64 0] 39;have bI:=V9 bG;(try replace E:=fun g D=>(E g D).bel (Qf _ (.cells #[.slice none 0 0,.int .i64 0] 39)));(try replace I:=I.bel (Qf _ (.cells #[.slice none 0 0,.int .i64 0] 39)));replace bG:=bG.alloc bG.size (.cells #[.slice none 0 0,.int .i64 0] 39))
     refine wpAnyH_ready (rs:=[3]) (by kernel_rfl) (by simp) ?_;refine AllReadyH.cons (gA rfl) (fun K hK=>?_) AllReadyH.nil;go_simp
     (go_at_call 53;refine(ac.out p4 A3 c3 _ I (ad.out _ bG)).mono ?_;rintro e w5 ⟨⟨v,xs,an,he,ab,U⟩,Q⟩;obtain rfl:an=ZP:=ab;rw[Zn]at he;rw[QG]at U;obtain⟨A5,n5,c5,rfl,-⟩:=U.sl Qm;subst he;(try replace hL:=fun g D=>(hL g D).bel Q);(try replace E:=fun g D=>(E g D).bel Q);replace bG:=bG.trans (Q.mono bG.size);clear Q I U)
     go_wp2_with fail
     refine hK.out _ _ (J.out _ bG) fun O=>?_
     clear hK K
     try simp only[yP,yQ,yA,yB,yC]
     refine yT [4,5,6,7] (by kernel_rfl) (by assumption) ?_
     iterate 4 (refine yS (v:=?_) (gA rfl) (fun _ _ _ h=>h) rfl ?_ ?_;rotate_left;(focus (intro w bH;(try dsimp only at bH);go_simp<;>with_reducible rfl));simp only[yP,yA,yB,yC])
     refine yR 10 (by kernel_rfl) (gA rfl) fun K hK=>?_
     (refine wp_store_row 39 (.tmp 9) (.tmp 45) rfl _ #[.slice A5 n5 c5,.int .i64 1] rfl rfl 39 _ (hL _ (by simp)) (by kernel_rfl) rfl (by simp[Value.oneCell']) ?_)
     refine hK.out _ _ (J.out _ (below_setRow bG (bI _ (by simp)) _)) fun O=>?_
     clear hK K
     try simp only[yP,yQ,yA,yB,yC]
     refine yR 11 (by kernel_rfl) (gA rfl) fun K hK=>?_
     (refine wp_store_row 55 (.tmp 10) (.tmp 46) rfl _ (QK ZP) rfl rfl 55 _ ((E _ (by simp)).rowOther (Blk.neTy (E _ (by simp)) (hL _ (by simp)) (by decide)) _) (by kernel_rfl) rfl (by simp[QK,Value.oneCell']) ?_)
     refine hK.out _ _ (J.out _ (below_setRow (below_setRow bG (bI _ (by simp)) _) (aa _ (by simp)) _)) fun O=>?_
     clear hK K
     try simp only[yP,yQ,yA,yB,yC]
     refine yT [12] (by kernel_rfl) (by assumption) ?_
     iterate 1 (refine yS (v:=?_) (gA rfl) (fun _ _ _ h=>h) rfl ?_ ?_;rotate_left;(focus (intro w bH;(try dsimp only at bH);go_simp<;>with_reducible rfl));simp only[yP,yA,yB,yC])
     refine wpAnyH_done (by kernel_rfl) ?_ _
     go_wp2_with fail
     go_meet
     exact⟨_,rfl,rfl,((E _ (by simp)).rowOther (Blk.neTy (E _ (by simp)) (hL _ (by simp)) (by decide)) _).row _,below_setRow (below_setRow bG (bI _ (by simp)) _) (aa _ (by simp)) _⟩
    go_simp
    (go_at_call 53;refine(ac.out p4 A3 c3 _ I (ad.out _ bG)).mono ?_;rintro e w5 ⟨⟨v,xs,an,he,ab,U⟩,Q⟩;obtain rfl:an=ZP:=ab;rw[Zn]at he;rw[QG]at U;obtain⟨A5,n5,c5,rfl,-⟩:=U.sl Qm;subst he;(try replace hL:=fun g D=>(hL g D).bel Q);(try replace E:=fun g D=>(E g D).bel Q);replace bG:=bG.trans (Q.mono bG.size);clear Q I U)
    go_wp2_with fail
    refine hK.out _ _ (J.out _ bG) fun O=>?_
    clear hK K
    try simp only[yP,yQ,yA,yB,yC]
    refine yT [4,5,6,7] (by kernel_rfl) (by assumption) ?_
    iterate 4 (refine yS (v:=?_) (gA rfl) (fun _ _ _ h=>h) rfl ?_ ?_;rotate_left;(focus (intro w bH;(try dsimp only at bH);go_simp<;>with_reducible rfl));simp only[yP,yA,yB,yC])
    refine wpAnyH_ready (rs:=[8]) (by kernel_rfl) (by simp) ?_;refine AllReadyH.cons (gA rfl) (fun K hK=>?_) AllReadyH.nil;go_simp
    refine hK.out _ _ (J.out _ (bG.alloc bG.size (.cells #[.slice none 0 0,.int .i64 0] 39))) fun O=>?_
    clear hK K
    try simp only[yP,yQ,yA,yB,yC]
    (have hL:=ZF bG #[.slice none 0 0,.int .i64 0] 39;have bI:=V9 bG;(try replace E:=fun g D=>(E g D).bel (Qf _ (.cells #[.slice none 0 0,.int .i64 0] 39)));(try replace I:=I.bel (Qf _ (.cells #[.slice none 0 0,.int .i64 0] 39)));replace bG:=bG.alloc bG.size (.cells #[.slice none 0 0,.int .i64 0] 39))
    refine yR 10 (by kernel_rfl) (gA rfl) fun K hK=>?_
    (refine wp_store_row 39 (.tmp 9) (.tmp 45) rfl _ #[.slice A5 n5 c5,.int .i64 1] rfl rfl 39 _ (hL _ (by simp)) (by kernel_rfl) rfl (by simp[Value.oneCell']) ?_)
    refine hK.out _ _ (J.out _ (below_setRow bG (bI _ (by simp)) _)) fun O=>?_
    clear hK K
    try simp only[yP,yQ,yA,yB,yC]
    refine yR 11 (by kernel_rfl) (gA rfl) fun K hK=>?_
    (refine wp_store_row 55 (.tmp 10) (.tmp 46) rfl _ (QK ZP) rfl rfl 55 _ ((E _ (by simp)).rowOther (Blk.neTy (E _ (by simp)) (hL _ (by simp)) (by decide)) _) (by kernel_rfl) rfl (by simp[QK,Value.oneCell']) ?_)
    refine hK.out _ _ (J.out _ (below_setRow (below_setRow bG (bI _ (by simp)) _) (aa _ (by simp)) _)) fun O=>?_
    clear hK K
    try simp only[yP,yQ,yA,yB,yC]
    refine yT [12] (by kernel_rfl) (by assumption) ?_
    iterate 1 (refine yS (v:=?_) (gA rfl) (fun _ _ _ h=>h) rfl ?_ ?_;rotate_left;(focus (intro w bH;(try dsimp only at bH);go_simp<;>with_reducible rfl));simp only[yP,yA,yB,yC])
    refine wpAnyH_done (by kernel_rfl) ?_ _
    go_wp2_with fail
    go_meet
    exact⟨_,rfl,rfl,((E _ (by simp)).rowOther (Blk.neTy (E _ (by simp)) (hL _ (by simp)) (by decide)) _).row _,below_setRow (below_setRow bG (bI _ (by simp)) _) (aa _ (by simp)) _⟩
   go_simp
   refine hK.out _ _ (J.out _ (bG.alloc bG.size (.cells #[.slice none 0 0,.int .i64 0] 39))) fun O=>?_
   clear hK K
   try simp only[yP,yQ,yA,yB,yC]
   (have hL:=ZF bG #[.slice none 0 0,.int .i64 0] 39;have bI:=V9 bG;(try replace E:=fun g D=>(E g D).bel (Qf _ (.cells #[.slice none 0 0,.int .i64 0] 39)));(try replace I:=I.bel (Qf _ (.cells #[.slice none 0 0,.int .i64 0] 39)));replace bG:=bG.alloc bG.size (.cells #[.slice none 0 0,.int .i64 0] 39))
   refine wpAnyH_ready (rs:=[3,9]) (by kernel_rfl) (by simp) ?_;refine AllReadyH.cons (gA rfl) (fun K hK=>?_) ?m_10
   case m_10=>
    refine AllReadyH.cons (gA rfl) (fun K hK=>?_) AllReadyH.nil;go_simp
    refine hK.out _ _ (J.out _ (bG.alloc bG.size (.cells #[.int .i64 0,.int .i64 0] 55))) fun O=>?_
    clear hK K
    try simp only[yP,yQ,yA,yB,yC]
    (have E:=ZF bG #[.int .i64 0,.int .i64 0] 55;have aa:=V9 bG;(try replace hL:=fun g D=>(hL g D).bel (Qf _ (.cells #[.int .i64 0,.int .i64 0] 55)));(try replace I:=I.bel (Qf _ (.cells #[.int .i64 0,.int .i64 0] 55)));replace bG:=bG.alloc bG.size (.cells #[.int .i64 0,.int .i64 0] 55))
    refine wpAnyH_ready (rs:=[3]) (by kernel_rfl) (by simp) ?_;refine AllReadyH.cons (gA rfl) (fun K hK=>?_) AllReadyH.nil;go_simp
    (go_at_call 53;refine(ac.out p4 A3 c3 _ I (ad.out _ bG)).mono ?_;rintro e w5 ⟨⟨v,xs,an,he,ab,U⟩,Q⟩;obtain rfl:an=ZP:=ab;rw[Zn]at he;rw[QG]at U;obtain⟨A5,n5,c5,rfl,-⟩:=U.sl Qm;subst he;(try replace hL:=fun g D=>(hL g D).bel Q);(try replace E:=fun g D=>(E g D).bel Q);replace bG:=bG.trans (Q.mono bG.size);clear Q I U)
    go_wp2_with fail
    refine hK.out _ _ (J.out _ bG) fun O=>?_
    clear hK K
    try simp only[yP,yQ,yA,yB,yC]
    refine yT [4,5,6,7] (by kernel_rfl) (by assumption) ?_
    iterate 4 (refine yS (v:=?_) (gA rfl) (fun _ _ _ h=>h) rfl ?_ ?_;rotate_left;(focus (intro w bH;(try dsimp only at bH);go_simp<;>with_reducible rfl));simp only[yP,yA,yB,yC])
    refine yR 10 (by kernel_rfl) (gA rfl) fun K hK=>?_
    (refine wp_store_row 39 (.tmp 9) (.tmp 45) rfl _ #[.slice A5 n5 c5,.int .i64 1] rfl rfl 39 _ (hL _ (by simp)) (by kernel_rfl) rfl (by simp[Value.oneCell']) ?_)
    refine hK.out _ _ (J.out _ (below_setRow bG (bI _ (by simp)) _)) fun O=>?_
    clear hK K
    try simp only[yP,yQ,yA,yB,yC]
    refine yR 11 (by kernel_rfl) (gA rfl) fun K hK=>?_
    (refine wp_store_row 55 (.tmp 10) (.tmp 46) rfl _ (QK ZP) rfl rfl 55 _ ((E _ (by simp)).rowOther (Blk.neTy (E _ (by simp)) (hL _ (by simp)) (by decide)) _) (by kernel_rfl) rfl (by simp[QK,Value.oneCell']) ?_)
    refine hK.out _ _ (J.out _ (below_setRow (below_setRow bG (bI _ (by simp)) _) (aa _ (by simp)) _)) fun O=>?_
    clear hK K
    try simp only[yP,yQ,yA,yB,yC]
    refine yT [12] (by kernel_rfl) (by assumption) ?_
    iterate 1 (refine yS (v:=?_) (gA rfl) (fun _ _ _ h=>h) rfl ?_ ?_;rotate_left;(focus (intro w bH;(try dsimp only at bH);go_simp<;>with_reducible rfl));simp only[yP,yA,yB,yC])
    refine wpAnyH_done (by kernel_rfl) ?_ _
    go_wp2_with fail
    go_meet
    exact⟨_,rfl,rfl,((E _ (by simp)).rowOther (Blk.neTy (E _ (by simp)) (hL _ (by simp)) (by decide)) _).row _,below_setRow (below_setRow bG (bI _ (by simp)) _) (aa _ (by simp)) _⟩
   go_simp
   (go_at_call 53;refine(ac.out p4 A3 c3 _ I (ad.out _ bG)).mono ?_;rintro e w5 ⟨⟨v,xs,an,he,ab,U⟩,Q⟩;obtain rfl:an=ZP:=ab;rw[Zn]at he;rw[QG]at U;obtain⟨A5,n5,c5,rfl,-⟩:=U.sl Qm;subst he;(try replace hL:=fun g D=>(hL g D).bel Q);(try replace E:=fun g D=>(E g D).bel Q);replace bG:=bG.trans (Q.mono bG.size);clear Q I U)
   go_wp2_with fail
   refine hK.out _ _ (J.out _ bG) fun O=>?_
   clear hK K
   try simp only[yP,yQ,yA,yB,yC]
   refine yT [4,5,6,7] (by kernel_rfl) (by assumption) ?_
   iterate 4 (refine yS (v:=?_) (gA rfl) (fun _ _ _ h=>h) rfl ?_ ?_;rotate_left;(focus (intro w bH;(try dsimp only at bH);go_simp<;>with_reducible rfl));simp only[yP,yA,yB,yC])
   refine wpAnyH_ready (rs:=[9]) (by kernel_rfl) (by simp) ?_;refine AllReadyH.cons (gA rfl) (fun K hK=>?_) AllReadyH.nil;go_simp
   refine hK.out _ _ (J.out _ (bG.alloc bG.size (.cells #[.int .i64 0,.int .i64 0] 55))) fun O=>?_
   clear hK K
   try simp only[yP,yQ,yA,yB,yC]
   (have E:=ZF bG #[.int .i64 0,.int .i64 0] 55;have aa:=V9 bG;(try replace hL:=fun g D=>(hL g D).bel (Qf _ (.cells #[.int .i64 0,.int .i64 0] 55)));(try replace I:=I.bel (Qf _ (.cells #[.int .i64 0,.int .i64 0] 55)));replace bG:=bG.alloc bG.size (.cells #[.int .i64 0,.int .i64 0] 55))
   refine yR 10 (by kernel_rfl) (gA rfl) fun K hK=>?_
   (refine wp_store_row 39 (.tmp 9) (.tmp 45) rfl _ #[.slice A5 n5 c5,.int .i64 1] rfl rfl 39 _ (hL _ (by simp)) (by kernel_rfl) rfl (by simp[Value.oneCell']) ?_)
   refine hK.out _ _ (J.out _ (below_setRow bG (bI _ (by simp)) _)) fun O=>?_
   clear hK K
   try simp only[yP,yQ,yA,yB,yC]
   refine yR 11 (by kernel_rfl) (gA rfl) fun K hK=>?_
   (refine wp_store_row 55 (.tmp 10) (.tmp 46) rfl _ (QK ZP) rfl rfl 55 _ ((E _ (by simp)).rowOther (Blk.neTy (E _ (by simp)) (hL _ (by simp)) (by decide)) _) (by kernel_rfl) rfl (by simp[QK,Value.oneCell']) ?_)
   refine hK.out _ _ (J.out _ (below_setRow (below_setRow bG (bI _ (by simp)) _) (aa _ (by simp)) _)) fun O=>?_
   clear hK K
   try simp only[yP,yQ,yA,yB,yC]
   refine yT [12] (by kernel_rfl) (by assumption) ?_
   iterate 1 (refine yS (v:=?_) (gA rfl) (fun _ _ _ h=>h) rfl ?_ ?_;rotate_left;(focus (intro w bH;(try dsimp only at bH);go_simp<;>with_reducible rfl));simp only[yP,yA,yB,yC])
   refine wpAnyH_done (by kernel_rfl) ?_ _
   go_wp2_with fail
   go_meet
   exact⟨_,rfl,rfl,((E _ (by simp)).rowOther (Blk.neTy (E _ (by simp)) (hL _ (by simp)) (by decide)) _).row _,below_setRow (below_setRow bG (bI _ (by simp)) _) (aa _ (by simp)) _⟩
  go_simp
  (go_at_call 53;refine(ac.out p4 A3 c3 _ I (ad.out _ bG)).mono ?_;rintro e w5 ⟨⟨v,xs,an,he,ab,U⟩,Q⟩;obtain rfl:an=ZP:=ab;rw[Zn]at he;rw[QG]at U;obtain⟨A5,n5,c5,rfl,-⟩:=U.sl Qm;subst he;(try replace hL:=fun g D=>(hL g D).bel Q);(try replace E:=fun g D=>(E g D).bel Q);replace bG:=bG.trans (Q.mono bG.size);clear Q I U)
  go_wp2_with fail
  refine hK.out _ _ (J.out _ bG) fun O=>?_
  clear hK K
  try simp only[yP,yQ,yA,yB,yC]
  refine yT [4,5,6,7] (by kernel_rfl) (by assumption) ?_
  iterate 4 (refine yS (v:=?_) (gA rfl) (fun _ _ _ h=>h) rfl ?_ ?_;rotate_left;(focus (intro w bH;(try dsimp only at bH);go_simp<;>with_reducible rfl));simp only[yP,yA,yB,yC])
  refine wpAnyH_ready (rs:=[8,9]) (by kernel_rfl) (by simp) ?_;refine AllReadyH.cons (gA rfl) (fun K hK=>?_) ?m_11
  case m_11=>
   refine AllReadyH.cons (gA rfl) (fun K hK=>?_) AllReadyH.nil;go_simp
   refine hK.out _ _ (J.out _ (bG.alloc bG.size (.cells #[.int .i64 0,.int .i64 0] 55))) fun O=>?_
   clear hK K
   try simp only[yP,yQ,yA,yB,yC]
   (have E:=ZF bG #[.int .i64 0,.int .i64 0] 55;have aa:=V9 bG;(try replace hL:=fun g D=>(hL g D).bel (Qf _ (.cells #[.int .i64 0,.int .i64 0] 55)));(try replace I:=I.bel (Qf _ (.cells #[.int .i64 0,.int .i64 0] 55)));replace bG:=bG.alloc bG.size (.cells #[.int .i64 0,.int .i64 0] 55))
   refine wpAnyH_ready (rs:=[8]) (by kernel_rfl) (by simp) ?_;refine AllReadyH.cons (gA rfl) (fun K hK=>?_) AllReadyH.nil;go_simp
   refine hK.out _ _ (J.out _ (bG.alloc bG.size (.cells #[.slice none 0 0,.int .i64 0] 39))) fun O=>?_
   clear hK K
   try simp only[yP,yQ,yA,yB,yC]
   (have hL:=ZF bG #[.slice none 0 0,.int .i64 0] 39;have bI:=V9 bG;(try replace E:=fun g D=>(E g D).bel (Qf _ (.cells #[.slice none 0 0,.int .i64 0] 39)));(try replace I:=I.bel (Qf _ (.cells #[.slice none 0 0,.int .i64 0] 39)));replace bG:=bG.alloc bG.size (.cells #[.slice none 0 0,.int .i64 0] 39))
   refine yR 10 (by kernel_rfl) (gA rfl) fun K hK=>?_
   (refine wp_store_row 39 (.tmp 9) (.tmp 45) rfl _ #[.slice A5 n5 c5,.int .i64 1] rfl rfl 39 _ (hL _ (by simp)) (by kernel_rfl) rfl (by simp[Value.oneCell']) ?_)
   refine hK.out _ _ (J.out _ (below_setRow bG (bI _ (by simp)) _)) fun O=>?_
   clear hK K
   try simp only[yP,yQ,yA,yB,yC]
   refine yR 11 (by kernel_rfl) (gA rfl) fun K hK=>?_
   (refine wp_store_row 55 (.tmp 10) (.tmp 46) rfl _ (QK ZP) rfl rfl 55 _ ((E _ (by simp)).rowOther (Blk.neTy (E _ (by simp)) (hL _ (by simp)) (by decide)) _) (by kernel_rfl) rfl (by simp[QK,Value.oneCell']) ?_)
   refine hK.out _ _ (J.out _ (below_setRow (below_setRow bG (bI _ (by simp)) _) (aa _ (by simp)) _)) fun O=>?_
   clear hK K
   try simp only[yP,yQ,yA,yB,yC]
   refine yT [12] (by kernel_rfl) (by assumption) ?_
   iterate 1 (refine yS (v:=?_) (gA rfl) (fun _ _ _ h=>h) rfl ?_ ?_;rotate_left;(focus (intro w bH;(try dsimp only at bH);go_simp<;>with_reducible rfl));simp only[yP,yA,yB,yC])
   refine wpAnyH_done (by kernel_rfl) ?_ _
   go_wp2_with fail
   go_meet
   exact⟨_,rfl,rfl,((E _ (by simp)).rowOther (Blk.neTy (E _ (by simp)) (hL _ (by simp)) (by decide)) _).row _,below_setRow (below_setRow bG (bI _ (by simp)) _) (aa _ (by simp)) _⟩
  go_simp
  refine hK.out _ _ (J.out _ (bG.alloc bG.size (.cells #[.slice none 0 0,.int .i64 0] 39))) fun O=>?_
  clear hK K
  try simp only[yP,yQ,yA,yB,yC]
  (have hL:=ZF bG #[.slice none 0 0,.int .i64 0] 39;have bI:=V9 bG;(try replace E:=fun g D=>(E g D).bel (Qf _ (.cells #[.slice none 0 0,.int .i64 0] 39)));(try replace I:=I.bel (Qf _ (.cells #[.slice none 0 0,.int .i64 0] 39)));replace bG:=bG.alloc bG.size (.cells #[.slice none 0 0,.int .i64 0] 39))
  refine wpAnyH_ready (rs:=[9]) (by kernel_rfl) (by simp) ?_;refine AllReadyH.cons (gA rfl) (fun K hK=>?_) AllReadyH.nil;go_simp
  refine hK.out _ _ (J.out _ (bG.alloc bG.size (.cells #[.int .i64 0,.int .i64 0] 55))) fun O=>?_
  clear hK K
  try simp only[yP,yQ,yA,yB,yC]
  (have E:=ZF bG #[.int .i64 0,.int .i64 0] 55;have aa:=V9 bG;(try replace hL:=fun g D=>(hL g D).bel (Qf _ (.cells #[.int .i64 0,.int .i64 0] 55)));(try replace I:=I.bel (Qf _ (.cells #[.int .i64 0,.int .i64 0] 55)));replace bG:=bG.alloc bG.size (.cells #[.int .i64 0,.int .i64 0] 55))
  refine yR 10 (by kernel_rfl) (gA rfl) fun K hK=>?_
  (refine wp_store_row 39 (.tmp 9) (.tmp 45) rfl _ #[.slice A5 n5 c5,.int .i64 1] rfl rfl 39 _ (hL _ (by simp)) (by kernel_rfl) rfl (by simp[Value.oneCell']) ?_)
  refine hK.out _ _ (J.out _ (below_setRow bG (bI _ (by simp)) _)) fun O=>?_
  clear hK K
  try simp only[yP,yQ,yA,yB,yC]
  refine yR 11 (by kernel_rfl) (gA rfl) fun K hK=>?_
  (refine wp_store_row 55 (.tmp 10) (.tmp 46) rfl _ (QK ZP) rfl rfl 55 _ ((E _ (by simp)).rowOther (Blk.neTy (E _ (by simp)) (hL _ (by simp)) (by decide)) _) (by kernel_rfl) rfl (by simp[QK,Value.oneCell']) ?_)
  refine hK.out _ _ (J.out _ (below_setRow (below_setRow bG (bI _ (by simp)) _) (aa _ (by simp)) _)) fun O=>?_
  clear hK K
  try simp only[yP,yQ,yA,yB,yC]
  refine yT [12] (by kernel_rfl) (by assumption) ?_
  iterate 1 (refine yS (v:=?_) (gA rfl) (fun _ _ _ h=>h) rfl ?_ ?_;rotate_left;(focus (intro w bH;(try dsimp only at bH);go_simp<;>with_reducible rfl));simp only[yP,yA,yB,yC])
  refine wpAnyH_done (by kernel_rfl) ?_ _
  go_wp2_with fail
  go_meet
  exact⟨_,rfl,rfl,((E _ (by simp)).rowOther (Blk.neTy (E _ (by simp)) (hL _ (by simp)) (by decide)) _).row _,below_setRow (below_setRow bG (bI _ (by simp)) _) (aa _ (by simp)) _⟩
 obtain⟨a4,rfl,rfl,ay,Y⟩:=hcut;obtain⟨V4,bj⟩:∃V,V=wc:=⟨_,rfl⟩;subst bj;have aI:=yh (fun X (Z:yw V4 X)=>ay.bel Z);have ai:=yh (fun X (Z:yw V4 X)=>Y.trans (Z.mono Y.size));clear ay Y ac
 go_upto_region 5 with(fail)
 go_cut [12,13] (fun q e wx=>e=.int .i64 0∧(∃s y p',q=.pointer (some ⟨s,0,none⟩)∧Blk wx s (Qa y p') 32∧y=y1∧SaiR wx y p')∧yw V4 wx)
 case first=>
  clear ak au ar aq ag ae az aI;have bG:yw V4 V4.drew:=(Below.refl _ V4).drew;refine wp_region_held_drew (S:=(fun w'=>yJ w' s3 0 A3 1 c3∧yI w' s3 1 1)) (by kernel_rfl) (J.out _ (ai.out _ bG)) (fun O=>?_);refine yT [1] (by kernel_rfl) (by assumption) ?_
  iterate 1 (refine yS (v:=?_) (gA rfl) (fun _ _ _ h=>h) rfl ?_ ?_;rotate_left;(focus (intro w bH;(try dsimp only at bH);go_simp<;>with_reducible rfl));simp only[yP,yA,yB,yC])
  focus
   refine Qja 0 6 (by kernel_rfl) (gA rfl) (gA rfl) (fun K k0=>?_) (fun K k6=>?_)
   repeat first
    |
     revert k0
     intro hK;go_simp
     (go_at_call 58;refine(Z6 _).mono ?_;rintro e w4 ⟨p4,rfl,I,Y⟩;(try replace hL:=fun g D=>(hL g D).bel Y);replace bG:=bG.trans (Y.mono bG.size);clear Y)
     go_wp2_with fail
     refine hK.out _ _ (J.out _ (ai.out _ bG)) fun O=>?_
     clear hK K
     try simp only[yP,yQ,yA,yB,yC]
     first
      | refine Qja 2 6 (by(fail_if_success (fail_if_success decide +kernel));kernel_rfl) (gA rfl) (gA rfl) (fun K k2=>?_) (fun K k6=>?_)
      | refine UF 2 (by(fail_if_success (fail_if_success decide +kernel));kernel_rfl) (gA rfl) (fun K k2=>?_)
    |
     revert k2
     intro hK;go_simp
     (go_at_call 16;(try have bo:=fun g D=>Blk.lt (hL g D));refine(ao.out p4 A3 c3 _ I (ad.out _ (ai.out _ bG))).mono ?_;rintro e w5 ⟨⟨y,p',rfl,hy,U⟩,Q⟩;have bp:y1=y:=hy.symm;subst bp;clear hy;(try replace hL:=fun g D=>(hL g D).bel Q);replace bG:=bG.trans (Q.mono bG.size);clear Q I)
     go_wp2_with fail
     refine hK.out _ _ (J.out _ (ai.out _ bG)) fun O=>?_
     clear hK K
     try simp only[yP,yQ,yA,yB,yC]
     refine yT [3,4,5] (by kernel_rfl) (by assumption) ?_
     iterate 3 (refine yS (v:=?_) (gA rfl) (fun _ _ _ h=>h) rfl ?_ ?_;rotate_left;(focus (intro w bH;(try dsimp only at bH);go_simp<;>with_reducible rfl));simp only[yP,yA,yB,yC])
     first
      | refine UF 6 (by(fail_if_success (fail_if_success decide +kernel));kernel_rfl) (gA rfl) (fun K k6=>?_)
      | rotate_left
    |
     revert k6
     intro hK;go_simp
     refine hK.out _ _ (J.out _ (ai.out _ (bG.alloc bG.size (.cells #[.int .i64 0,.int .i64 0,.slice none 0 0,.slice none 0 0,.slice none 0 0,.int .i64 0,.int .i64 0,.slice none 0 0,.int .i64 0,.int .i64 0,.int .i64 0,.slice none 0 0,.bool false] 32)))) fun O=>?_
     clear hK K
     try simp only[yP,yQ,yA,yB,yC]
     (have hL:=ZF bG #[.int .i64 0,.int .i64 0,.slice none 0 0,.slice none 0 0,.slice none 0 0,.int .i64 0,.int .i64 0,.slice none 0 0,.int .i64 0,.int .i64 0,.int .i64 0,.slice none 0 0,.bool false] 32;have bI:=V9 bG;(try replace I:=I.bel (Qf _ (.cells #[.int .i64 0,.int .i64 0,.slice none 0 0,.slice none 0 0,.slice none 0 0,.int .i64 0,.int .i64 0,.slice none 0 0,.int .i64 0,.int .i64 0,.int .i64 0,.slice none 0 0,.bool false] 32)));(try have bm:=Qf w5 (.cells #[.int .i64 0,.int .i64 0,.slice none 0 0,.slice none 0 0,.slice none 0 0,.int .i64 0,.int .i64 0,.slice none 0 0,.int .i64 0,.int .i64 0,.int .i64 0,.slice none 0 0,.bool false] 32));replace bG:=bG.alloc bG.size (.cells #[.int .i64 0,.int .i64 0,.slice none 0 0,.slice none 0 0,.slice none 0 0,.int .i64 0,.int .i64 0,.slice none 0 0,.int .i64 0,.int .i64 0,.int .i64 0,.slice none 0 0,.bool false] 32))
     first
      | refine UF 0 (by(fail_if_success (fail_if_success decide +kernel));kernel_rfl) (gA rfl) (fun K k0=>?_)
      | refine UF 2 (by(fail_if_success (fail_if_success decide +kernel));kernel_rfl) (gA rfl) (fun K k2=>?_)
      | rotate_left
   all_goals
    refine yR 7 (by kernel_rfl) (gA rfl) fun K hK=>?_
    (refine wp_store_row 32 (.tmp 12) (.tmp 52) rfl _ (Qa y1 p') rfl rfl 32 _ (hL _ (by simp)) (by kernel_rfl) rfl (by simp[Value.oneCell']) ?_)
    refine hK.out _ _ (J.out _ (ai.out _ (below_setRow bG (bI _ (by simp)) _))) fun O=>?_
    clear hK K
    try simp only[yP,yQ,yA,yB,yC]
    refine yT [8] (by kernel_rfl) (by assumption) ?_
    iterate 1 (refine yS (v:=?_) (gA rfl) (fun _ _ _ h=>h) rfl ?_ ?_;rotate_left;(focus (intro w bH;(try dsimp only at bH);go_simp<;>with_reducible rfl));simp only[yP,yA,yB,yC])
    refine wpAnyH_done (by kernel_rfl) ?_ _
    go_wp2_with fail
    go_meet
    refine⟨rfl,⟨_,y1,p',rfl,(hL _ (by simp)).row _,rfl,?_⟩,below_setRow bG (bI _ (by simp)) _⟩
    first | exact U.sai.bel (below_setRow bm (Nat.le_refl _) _) | exact(U.kept ((Kept.refl (fun k=>k=_) w5).setRow (.inl rfl) _) (fun k hk e=>by have:=bo _ rfl;have h2:V4.drew.heap.size=V4.heap.size:=rfl;omega)).sai
 obtain⟨rfl,⟨s5,y5,p5,rfl,a5,a7,bL⟩,Q⟩:=hcut;obtain⟨V5,bk⟩:∃V,V=wc:=⟨_,rfl⟩;subst bk;have bq:y1=y5:=a7.symm;subst bq;have aP:=yh (fun X (Z:yw V5 X)=>a5.bel Z);have aO:=yh (fun X (Z:yw V5 X)=>bL.bel Z);have aH:=yh (fun X (Z:yw V5 X)=>Q.trans (Z.mono Q.size));clear a5 bL Q a7 ao J
 go_upto_region 6 with(fail)
 go_cut [14,15] (fun q e wx=>e=.int .i64 0∧(∃s A c,q=.pointer (some ⟨s,0,none⟩)∧Blk wx s #[.slice A 1 c,.int .i64 1] 39∧Sl ZL 13 wx All A 1 c [XY])∧yw V5 wx)
 case first=>
  have bJ:=ai.out _ (aH.out _ (Below.refl _ _));have HC:=yh (ak.out A3 c3 V5 (ad.out _ bJ));have hz:=aL.out _ bJ;clear au ar aq ag ae az aI ad ak aL aP aO aH ai bJ
  go_wp2_with (refine wpList_load_row rfl 39 (.tmp 6) rfl s3 rfl 39 _ (0,0) _ hz Tryz.underlying39 rfl (by kernel_rfl) ?_)
  refine HC.out.mono ?_;rintro e w8 ⟨⟨v,xs,he,U⟩,aF⟩;rw[Zn]at he;rw[QG]at U;obtain⟨A,n,c,rfl,hs⟩:=U.sl Qm;obtain rfl:1=n:=hs.len;have a9:=yh (hs.all Qm (by omega));have aJ:=yh aF;subst he;clear U hs aF HC hz
  go_wp2_with (refine wpList_store_row rfl 39 (.tmp 14) (.tmp 57) rfl w8.heap.size #[.slice A 1 c,.int .i64 1] rfl rfl 39 _ (Blk.new w8 #[.slice none 0 0,.int .i64 0] 39) (by kernel_rfl) rfl (by simp[Value.oneCell']) ?_)
  go_meet
  have ap:yw w8 ((w8.alloc (.cells #[.slice none 0 0,.int .i64 0] 39)).setRow w8.heap.size #[.slice A 1 c,.int .i64 1]):=below_setRow (Qf w8 _) (Nat.le_refl _) _;exact⟨rfl,⟨_,A,c,rfl,(Blk.new w8 _ _).row _,a9.out.bel ap⟩,aJ.out.trans (ap.mono aJ.out.size)⟩
 obtain⟨rfl,⟨s6,A6,c6,rfl,aM,bK⟩,aN⟩:=hcut;obtain⟨V6,bl⟩:∃V,V=wc:=⟨_,rfl⟩;subst bl;have aR:=aH.out _ aN;have bJ:=ai.out _ aR;have aG:=ae.out _ bJ;have aw:=aq.out _ aG;have ax:=az.out _ bJ;have ay:=aI.out _ aR;have al:=aL.out _ bJ;have bv:yI V6 a1 0 0:=aw.cell rfl;have bw:yI V6 a1 1 800:=aw.cell rfl;have bx:yI V6 a3 0 0:=ax.cell rfl;have bz:yI V6 a3 1 800:=ax.cell rfl;have bA:yI V6 a4 0 0:=ay.cell rfl;have bB:yI V6 a4 1 800:=ay.cell rfl;have br:yJ V6 s3 0 A3 1 c3:=al.cell rfl;have bN:yI V6 s3 1 1:=al.cell rfl;have bt:yJ V6 s6 0 A6 1 c6:=aM.cell rfl;have bu:yI V6 s6 1 1:=aM.cell rfl;obtain⟨f0,f1,f2,f3,f4,f5,f6,f7,f8,f9,ba,bb,bc⟩:=Z7 (aP.out _ aN);obtain⟨g0,g1,g2,g3,g4,g5,g6,g7,g8,g9,bd,be,bf⟩:=Z7 (au.out _ aG)
 have bn:∀W:World,(binOp .eql 55 (.agg #[.int .i64 0,.int .i64 800]) (.agg #[.int .i64 0,.int .i64 800])).run Tryz.prog W=.ok (.bool true) W:=fun W=>(Xab ZP ZP W).trans (by rw[decide_eq_true rfl])
 have aV:=yh (U9 y1 p5 p1 V6 (aO.out _ aN) (ar.out _ aG));have aW:=yh (fun V (hV:yw V6 V)=>X8 A6 A3 1 c6 1 c3 [XY] [XY] 1 1 V (bK.bel hV) ((ad.out _ bJ).bel hV));have aY:=yh al;have aZ:=yh aM;have aU:=yh (ag.out.trans (aG.mono ag.out.size));clear aR bJ aG aw ax ay al aM bK aN aq az aI aL au aP aO ar ad ai aH ae ak ag
 go_wp2_with fail
 refine aV.out.mono ?_;rintro e w7 ⟨rfl,av⟩;have aX:=yh (aW.out _ av);have bC:yJ w7 s3 0 A3 1 c3:=(aY.out.bel av).cell rfl;have bD:yI w7 s3 1 1:=(aY.out.bel av).cell rfl;have bE:yJ w7 s6 0 A6 1 c6:=(aZ.out.bel av).cell rfl;have bF:yI w7 s6 1 1:=(aZ.out.bel av).cell rfl;have aT:=yh (aU.out.trans (av.mono aU.out.size));clear av aV aW f0 f1 f2 f3 f4 f5 f6 f7 f8 f9 ba bb bc g0 g1 g2 g3 g4 g5 g6 g7 g8 g9 bd be bf bv bw bx bz bA bB br bN bt bu bn
 go_wp2_with fail
 refine aX.out.mono ?_;rintro e w8 ⟨rfl,aF⟩;have aJ:=yh (aT.out.trans (aF.mono aT.out.size));have hd:decide ((1:Int)=1∧[XY]=[XY])=true:=decide_eq_true ⟨rfl,rfl⟩;clear aF aX
 go_wp2_with fail
 go_ret
 exact⟨by first | rfl | simp[hd],aJ.out⟩
end Go.Proofs.YtjdcokpmgionjaaGreat
