/-
  Laws and contracts.
-/
import Derived.Test.YtjdcokpmgionjaaGreatBun22
import Derived.Test.YtjdcokpmgionjaaGreatBun23
import Derived.BigQuiet
set_option linter.unusedSimpArgs false
set_option linter.unusedVariables false
set_option maxRecDepth 100000
set_option maxHeartbeats 20000000
namespace Go.Proofs.YtjdcokpmgionjaaGreat
open Proofs.Tryz Go.RowKit Go.Shelf
theorem Uk (w:World):Calls prog 58 #[] w fun e w'=>∃p,e=.returned (.agg (Qa Qq p))∧SaiR w' Qq p∧yw w w':=by
 go_enter func58,ntmps58
 go_wp2_with fail
 refine(YYa _).mono ?_
 rintro e w1 ⟨A,n,cap,B,m,U,rfl,hc,hd,X⟩
 have I:=(Blk.new w M9 32).bel X
 have hb:=(Qi w (.cells M9 32)).trans (X.mono (by simp))
 have hc:=hc.keep (w':=w1) (S':=fun b=>b≠w.heap.size) Z6 (by omega) (fun b hb _=>⟨rfl,fun e=>by subst e;simp at hb;omega⟩)
 have hd:=hd.keep (w':=w1) (S':=fun b=>b≠w.heap.size) Zs (by omega) (fun b hb _=>⟨rfl,fun e=>by subst e;simp at hb;omega⟩)
 clear X
 go_wp2_with fail
 refine(Q4b _).mono ?_
 rintro e Q ⟨D,Y,V,E,Z,W,rfl,J,O,F⟩
 have ac:=hb.size
 have J:=J.keep (w':=Q) (S':=fun b=>b≠w.heap.size) (ZK Qc (by omega)) (by omega) (fun b hb _=>⟨rfl,fun e=>by subst e;have:=I.lt;omega⟩)
 have O:=O.keep (w':=Q) (S':=fun b=>b≠w.heap.size) Qt (by omega) (fun b hb _=>⟨rfl,fun e=>by subst e;have:=I.lt;omega⟩)
 have hc:=hc.bel F
 have hd:=hd.bel F
 have aa:=I.bel F
 replace hb:=hb.trans (F.mono hb.size)
 have HC:=yh hc
 clear hc
 have HD:=yh hd
 clear hd
 have HF:=yh J
 clear J
 have HG:=yh O
 clear O
 have HB:=yh hb
 clear hb
 clear F I
 go_wp2_with (refine yX 32 (.tmp 0) (.tmp 3) w.heap.size (Qa Qq ⟨A,n,cap,B,m,U,D,Y,V,E,Z,W,none,0,0⟩) aa ?_)
 refine yq (.agg (Qa Qq ⟨A,n,cap,B,m,U,D,Y,V,E,Z,W,none,0,0⟩)) (k:=0) (aa.row _) underlying32 ?_
 have hK:=Ynb (J4 Q.heap.size Q) w.heap.size (Qa Qq ⟨A,n,cap,B,m,U,D,Y,V,E,Z,W,none,0,0⟩)
 exact⟨_,rfl,⟨(HC.kept hK (fun b _ hb e=>hb e)).all Z6 (by omega),(HD.kept hK (fun b _ hb e=>hb e)).all Zs (by omega),⟨HF.keep (S':=All) (ZK Qc (by omega)) (by omega) (fun b hb ab=>⟨hK.block b ab hb,trivial⟩),(HG.kept hK (fun b _ hb e=>hb e)).all Qt (by omega),.of (by decide) (by decide),.of (by decide) (by decide),.of (by decide) (by decide)⟩,Sl.nil _ _ _ _⟩,HB.trans (hK.below (B:=w.heap.size) HB.size (fun k hk e=>by omega))⟩
theorem Qza (w:World):Calls prog 59 #[] w fun e w'=>∃q,e=.returned (.slice (some ⟨q,0,none⟩) 3 3)∧Blk w' q #[.int .i64 1,.int .i64 1,.int .i64 5,.int .i64 2,.bool true,.int .i64 1,.int .i64 0,.int .i64 0,.int .i64 2,.int .i64 0,.int .i64 0,.int .i64 2,.int .i64 4,.int .i64 5,.int .i64 0,.bool false,.int .i64 0,.int .i64 0,.int .i64 0,.int .i64 0,.int .i64 0,.int .i64 300,.int .i64 3,.int .i64 8,.int .i64 0,.int .i64 0,.bool false,.int .i64 0,.int .i64 0,.int .i64 0,.int .i64 0,.int .i64 0,.int .i64 0] 53∧yw w w':=by
 go_enter func59,ntmps59
 go_wp2_with fail
 go_ret
 exact⟨_,rfl,Blk.new w _ _,Qi _ _⟩
theorem X4a {w:World}{q:Nat}(h:Blk w q #[.int .i64 1,.int .i64 1,.int .i64 5,.int .i64 2,.bool true,.int .i64 1,.int .i64 0,.int .i64 0,.int .i64 2,.int .i64 0,.int .i64 0,.int .i64 2,.int .i64 4,.int .i64 5,.int .i64 0,.bool false,.int .i64 0,.int .i64 0,.int .i64 0,.int .i64 0,.int .i64 0,.int .i64 300,.int .i64 3,.int .i64 8,.int .i64 0,.int .i64 0,.bool false,.int .i64 0,.int .i64 0,.int .i64 0,.int .i64 0,.int .i64 0,.int .i64 0] 53):w.rangeAt q 0 (Zf Vm).toList:=fun j u A=>by
 rcases j with _ | _ | _ | _ | _ | _ | _ | _ | _ | _ | _ | j<;>first | (simp[Zf,Vm]at A;subst A;exact h.cell rfl) | simp[Zf]at A
def ZLc:Sai:={ Qq with bks:=[Ys] }
theorem Vea (w:World):Calls prog 10 #[] w fun e w'=>e=.returned (.bool true)∧yw w w':=by
 have az:=yh (fun p X Y=>U0b XN UGa Qq p Vm X Y (fun h _=>Qba h) (.of (by decide) (by decide)))
 rw[Yfb,Qec,Vtb]at az
 obtain⟨bs,ae⟩:=yE (Udb Vm)
 have aJ:=yh (fun X=>Y6a Vm X)
 rw[Zkb,QQ,←ae]at aJ
 have aC:=yh (fun p X Y=>X0a XN UGa Qq p none 0 0 [] 0 bs X Y (Sl.nil _ _ _ _) (fun y h d hd=>by cases hd) (by rw[ae,Yda];exact fun y h _=>Qba h) (by rw[ae,Yda];exact fun _=>Xna) (by rw[ae,Yda];exact fun y h _=>Zdb h (Qba h)))
 have ab:=yh (fun p A cap X Y hl=>X0a XN UGa Qq p A 1 cap [Yh] 1 bs X Y hl (fun y h d hd _=>by rw[List.mem_singleton]at hd;subst hd;exact Qba h) (by rw[ae,Yda];exact fun y h _=>Qba h) (by rw[ae,Yda];exact fun _=>Xna) (by rw[ae,Yda];exact fun y h _=>Zdb h (Qba h)))
 rw[ae,ZMc,←ae]at aC
 rw[ae,ZNc,←ae]at ab
 have bD:=yh (fun p A cap X Y hl=>ZVb XN UGa Qq p A 1 cap [Yh] 1 X Y hl (fun y h d hd _=>by rw[List.mem_singleton]at hd;subst hd;exact Qba h))
 rw[ZCb,ZDb]at bD
 have aj:=yh (fun A cap X hl=>ZRb A 1 cap [Yh] 1 0 X hl (by decide) U0)
 rw[Vsb.1,Vsb.2]at aj
 obtain⟨F1,bE⟩:=yE ZLc
 rw[show({ Qq with bks:=[Ys] } : Sai)=F1 from bE.symm]at az bD
 clear ae bE
 have a7:=yh (J4 w.heap.size w)
 go_enter func10,ntmps10
 go_upto_region 1 with(fail)
 go_cut [1,2,3] (fun q q2 q3 wx=>∃s a y p',yp q s∧yp q2 a∧q3=.int .i64 0∧Blk wx s (Qa y p') 32∧y=F1∧SaiR wx y p'∧Blk wx a (QD ZU) 55∧yw w wx)
 case first=>
  clear aC ab bD aj aJ
  go_wp2_with fail
  refine(Uk _).mono ?_
  rintro e w1 ⟨p1,rfl,aD,a5⟩
  have ab:=yh aD
  clear aD
  have af:=yh a5
  clear a5
  go_wp2_with fail
  refine(Qza _).mono ?_
  rintro e w2 ⟨q,rfl,hA,al⟩
  have HR:=yh (X4a hA)
  have HC:=yh (az p1 _ (ab.bel al))
  have ai:=yh (af.trans (al.mono af.size))
  clear hA al
  go_wp2_with (refine wpList_load_mid rfl 53 (.tmp 19) rfl q 0 rfl (Zf Vm).toList _ HR underlying53 (by kernel_rfl) (by kernel_rfl) ?_)
  refine HC.mono ?_
  rintro e w3 ⟨⟨y,p',an,rfl,hy,aa,U⟩,ag⟩
  obtain rfl:an=ZU:=aa
  have HO:=yh U.sai
  have HY:=yh hy
  have ad:=yh (ai.trans (ag.mono ai.size))
  clear hy U ag HC az HR
  have aB:=yh (show ∀g,g=w3.heap.size→Blk ((w3.alloc (.cells M9 32)).alloc (.cells #[.int .i64 0,.int .i64 0] 55)) g M9 32 from fun g D=>by subst D;exact(Blk.new w3 _ _).old _)
  have aA:=yh (show ∀g,g=w3.heap.size+1→Blk (((w3.alloc (.cells M9 32)).alloc (.cells #[.int .i64 0,.int .i64 0] 55)).setRow w3.heap.size (Qa y p')) g #[.int .i64 0,.int .i64 0] 55 from fun g D=>by subst D;exact(Blk.new1 w3 _ _ _).rowOther (by omega) _)
  go_wp2_with (first | (refine wpList_store_row rfl 32 (.tmp 1) (.tmp 22) rfl _ (Qa y p') rfl rfl 32 _ (aB _ (by simp)) (by kernel_rfl) rfl (by simp[Value.oneCell']) ?_) | (refine wpList_store_row rfl 55 (.tmp 2) (.tmp 23) rfl _ (QD ZU) rfl rfl 55 _ (aA _ (by simp)) (by kernel_rfl) rfl (by simp[QD,Value.oneCell']) ?_))
  go_meet
  have ao:yw w3 ((((w3.alloc (.cells M9 32)).alloc (.cells #[.int .i64 0,.int .i64 0] 55)).setRow w3.heap.size (Qa y p')).setRow (w3.heap.size+1) (QD ZU)):=M5 (M5 (Zl w3 _ _) (J5 _) _) (by omega) _
  exact⟨_,_,y,p',rfl,rfl,rfl,((aB _ rfl).row _).rowOther (by omega) _,HY,HO.bel ao,(aA _ rfl).row _,ad.trans (ao.mono ad.size)⟩
 obtain⟨s1,a1,y1,p1,rfl,rfl,rfl,bF,rfl,aD,av,hb⟩:=hcut
 obtain⟨V1,rfl⟩:=yE wc
 have ar:=yh (fun X (Y:yw V1 X)=>bF.bel Y)
 have aq:=yh (fun X (Y:yw V1 X)=>aD.bel Y)
 have ap:=yh (fun X (Y:yw V1 X)=>av.bel Y)
 have af:=yh hb
 clear hb
 clear bF aD av a7 az
 go_upto_region 2 with(fail)
 go_cut [4,5] (fun q r wx=>q=.string ⟨bs.toArray⟩∧r=.int .i64 0∧yw V1 wx)
 case first=>
  clear aC ab bD aj ar aq ap af
  go_wp2_with fail
  refine(Qza _).mono ?_
  rintro e w2 ⟨q,rfl,hA,al⟩
  have HR:=yh (X4a hA)
  have ai:=yh al
  clear al
  clear hA
  go_wp2_with (refine wpList_load_mid rfl 53 (.tmp 27) rfl q 0 rfl (Zf Vm).toList _ HR underlying53 (by kernel_rfl) (by kernel_rfl) ?_)
  refine yM (aJ _) fun w3 ag=>?_
  have ad:=yh ag
  clear ag
  go_wp2_with fail
  go_meet
  exact⟨rfl,rfl,ai.trans (ad.mono ai.size)⟩
 obtain⟨rfl,rfl,al⟩:=hcut
 obtain⟨V2,rfl⟩:=yE wc
 have ai:=yh al
 clear al
 clear aJ
 go_upto_region 3 with(fail)
 go_cut [6,7,8] (fun q q2 q3 wx=>∃s a A c,yp q s∧yp q2 a∧q3=.int .i64 0∧Blk wx s #[.slice A 1 c,.int .i64 1] 39∧Sl Vv 13 wx All A 1 c [Yh]∧Blk wx a (QD ZU) 55∧yw V2 wx)
 case first=>
  clear ab bD aj ar aq ap af ai
  go_wp2_with fail
  refine(Uk _).mono ?_
  rintro e w1 ⟨p4,rfl,I,bC⟩
  have HC:=yh (aC p4 _ I)
  have aR:=yh bC
  clear bC
  clear I
  go_wp2_with fail
  refine HC.mono ?_
  rintro e w3 ⟨⟨v,xs,an,he,aa,U⟩,ag⟩
  obtain rfl:an=ZU:=aa
  rw[Zy]at he
  rw[QQ]at U
  obtain⟨A,n,c,rfl,hs⟩:=U.sl Qy
  obtain rfl:1=n:=hs.len
  have HD:=yh (hs.all Qy (by omega))
  have ad:=yh (aR.trans (ag.mono aR.size))
  subst he
  clear U hs ag HC
  have aB:=yh (show ∀g,g=w3.heap.size→Blk ((w3.alloc (.cells #[.slice none 0 0,.int .i64 0] 39)).alloc (.cells #[.int .i64 0,.int .i64 0] 55)) g #[.slice none 0 0,.int .i64 0] 39 from fun g D=>by subst D;exact(Blk.new w3 _ _).old _)
  have aA:=yh (show ∀g,g=w3.heap.size+1→Blk (((w3.alloc (.cells #[.slice none 0 0,.int .i64 0] 39)).alloc (.cells #[.int .i64 0,.int .i64 0] 55)).setRow w3.heap.size #[.slice A 1 c,.int .i64 1]) g #[.int .i64 0,.int .i64 0] 55 from fun g D=>by subst D;exact(Blk.new1 w3 _ _ _).rowOther (by omega) _)
  go_wp2_with (first | (refine wpList_store_row rfl 39 (.tmp 6) (.tmp 37) rfl _ #[.slice A 1 c,.int .i64 1] rfl rfl 39 _ (aB _ (by simp)) (by kernel_rfl) rfl (by simp[Value.oneCell']) ?_) | (refine wpList_store_row rfl 55 (.tmp 7) (.tmp 38) rfl _ (QD ZU) rfl rfl 55 _ (aA _ (by simp)) (by kernel_rfl) rfl (by simp[QD,Value.oneCell']) ?_))
  go_meet
  have ao:yw w3 ((((w3.alloc (.cells #[.slice none 0 0,.int .i64 0] 39)).alloc (.cells #[.int .i64 0,.int .i64 0] 55)).setRow w3.heap.size #[.slice A 1 c,.int .i64 1]).setRow (w3.heap.size+1) (QD ZU)):=M5 (M5 (Zl w3 _ _) (J5 _) _) (by omega) _
  exact⟨_,_,A,c,rfl,rfl,rfl,((aB _ rfl).row _).rowOther (by omega) _,HD.bel ao,(aA _ rfl).row _,ad.trans (ao.mono ad.size)⟩
 obtain⟨s3,a3,A3,c3,rfl,rfl,rfl,ak,aZ,aw,ag⟩:=hcut
 obtain⟨V3,rfl⟩:=yE wc
 have aP:=ai.trans (ag.mono ai.size)
 have ad:=yh (fun X (Y:yw V3 X)=>aP.trans (Y.mono aP.size))
 have aK:=yh (fun X (Y:yw V3 X)=>ak.bel Y)
 have ac:=yh (fun X (Y:yw V3 X)=>aZ.bel Y)
 have ay:=yh (fun X (Y:yw V3 X)=>aw.bel Y)
 have J:=yh (show ∀X,yw V3 X→(fun w'=>yJ w' s3 0 A3 1 c3∧yI w' s3 1 1) X from fun X Y=>⟨(ak.bel Y).cell rfl,(ak.bel Y).cell rfl⟩)
 clear ag aP ak aZ aw ai aC
 go_upto_region 4 with(fail)
 go_cut [10,11] (fun q q2 wx=>∃a,yp q a∧q2=.int .i64 0∧Blk wx a (QD ZU) 55∧yw V3 wx)
 case first=>
  clear bD aj ar aq ap af ad ay
  have bA:yw V3 V3.drew:=(J4 _ V3).drew
  refine yZ (S:=(fun w'=>yJ w' s3 0 A3 1 c3∧yI w' s3 1 1)) (J _ bA) fun O=>?_
  refine yT [1,2] ?_
  iterate 2 (refine yS ?_;simp only[yU])
  refine wpAnyH_ready (rs:=[0,8,9]) (by kernel_rfl) (by simp) ?_
  refine AllReadyH.cons (gA rfl) (fun K hK=>?_) ?m_1
  case m_1=>
   refine AllReadyH.cons (gA rfl) (fun K hK=>?_) ?m_2
   case m_2=>
    refine AllReadyH.cons (gA rfl) (fun K hK=>?_) AllReadyH.nil
    go_simp
    refine hK.out _ _ (J _ (bA.alloc bA.size (.cells #[.int .i64 0,.int .i64 0] 55))) fun O=>?_
    clear hK K
    try simp only[yU]
    (have E:=ZA bA #[.int .i64 0,.int .i64 0] 55;have Z:=Xi bA;(try replace F:=fun g D=>(F g D).bel (Qi _ (.cells #[.int .i64 0,.int .i64 0] 55)));(try replace I:=I.bel (Qi _ (.cells #[.int .i64 0,.int .i64 0] 55)));replace bA:=bA.alloc bA.size (.cells #[.int .i64 0,.int .i64 0] 55))
    refine wpAnyH_ready (rs:=[0,8]) (by kernel_rfl) (by simp) ?_
    refine AllReadyH.cons (gA rfl) (fun K hK=>?_) ?m_3
    case m_3=>
     refine AllReadyH.cons (gA rfl) (fun K hK=>?_) AllReadyH.nil
     go_simp
     refine hK.out _ _ (J _ (bA.alloc bA.size (.cells #[.slice none 0 0,.int .i64 0] 39))) fun O=>?_
     clear hK K
     try simp only[yU]
     (have F:=ZA bA #[.slice none 0 0,.int .i64 0] 39;have bB:=Xi bA;(try replace E:=fun g D=>(E g D).bel (Qi _ (.cells #[.slice none 0 0,.int .i64 0] 39)));(try replace I:=I.bel (Qi _ (.cells #[.slice none 0 0,.int .i64 0] 39)));replace bA:=bA.alloc bA.size (.cells #[.slice none 0 0,.int .i64 0] 39))
     refine wpAnyH_ready (rs:=[0]) (by kernel_rfl) (by simp) ?_
     refine AllReadyH.cons (gA rfl) (fun K hK=>?_) AllReadyH.nil
     go_simp
     (go_at_call 58;refine(Uk _).mono ?_;rintro e w4 ⟨p4,rfl,I,bC⟩;(try replace F:=fun g D=>(F g D).bel bC);(try replace E:=fun g D=>(E g D).bel bC);replace bA:=bA.trans (bC.mono bA.size);clear bC)
     go_wp2_with fail
     refine hK.out _ _ (J _ bA) fun O=>?_
     clear hK K
     try simp only[yU]
     refine wpAnyH_ready (rs:=[3]) (by kernel_rfl) (by simp) ?_
     refine AllReadyH.cons (gA rfl) (fun K hK=>?_) AllReadyH.nil
     go_simp
     (go_at_call 53;refine(ab p4 A3 c3 _ I (ac _ bA)).mono ?_;rintro e w5 ⟨⟨v,xs,an,he,aa,U⟩,Q⟩;obtain rfl:an=ZU:=aa;rw[Zy]at he;rw[QQ]at U;obtain⟨A5,n5,c5,rfl,-⟩:=U.sl Qy;subst he;(try replace F:=fun g D=>(F g D).bel Q);(try replace E:=fun g D=>(E g D).bel Q);replace bA:=bA.trans (Q.mono bA.size);clear Q I U)
     go_wp2_with fail
     refine hK.out _ _ (J _ bA) fun O=>?_
     clear hK K
     try simp only[yU]
     refine yT [4,5,6,7] ?_
     iterate 4 (refine yS ?_;simp only[yU])
     refine yR 10 fun K hK=>?_
     (refine wp_store_row 39 (.tmp 9) (.tmp 45) rfl _ #[.slice A5 n5 c5,.int .i64 1] rfl rfl 39 _ (F _ (by simp)) (by kernel_rfl) rfl (by simp[Value.oneCell']) ?_)
     refine hK.out _ _ (J _ (M5 bA (bB _ (by simp)) _)) fun O=>?_
     clear hK K
     try simp only[yU]
     refine yR 11 fun K hK=>?_
     (refine wp_store_row 55 (.tmp 10) (.tmp 46) rfl _ (QD ZU) rfl rfl 55 _ ((E _ (by simp)).rowOther (Blk.neTy (E _ (by simp)) (F _ (by simp)) (by decide)) _) (by kernel_rfl) rfl (by simp[QD,Value.oneCell']) ?_)
     refine hK.out _ _ (J _ (M5 (M5 bA (bB _ (by simp)) _) (Z _ (by simp)) _)) fun O=>?_
     clear hK K
     try simp only[yU]
     refine yT [12] ?_
     iterate 1 (refine yS ?_;simp only[yU])
     refine yD ?_
     go_wp2_with fail
     go_meet
     exact⟨_,rfl,rfl,((E _ (by simp)).rowOther (Blk.neTy (E _ (by simp)) (F _ (by simp)) (by decide)) _).row _,M5 (M5 bA (bB _ (by simp)) _) (Z _ (by simp)) _⟩
    go_simp
    (go_at_call 58;refine(Uk _).mono ?_;rintro e w4 ⟨p4,rfl,I,bC⟩;(try replace F:=fun g D=>(F g D).bel bC);(try replace E:=fun g D=>(E g D).bel bC);replace bA:=bA.trans (bC.mono bA.size);clear bC)
    go_wp2_with fail
    refine hK.out _ _ (J _ bA) fun O=>?_
    clear hK K
    try simp only[yU]
    refine wpAnyH_ready (rs:=[3,8]) (by kernel_rfl) (by simp) ?_
    refine AllReadyH.cons (gA rfl) (fun K hK=>?_) ?m_4
    case m_4=>
     refine AllReadyH.cons (gA rfl) (fun K hK=>?_) AllReadyH.nil
     go_simp
     refine hK.out _ _ (J _ (bA.alloc bA.size (.cells #[.slice none 0 0,.int .i64 0] 39))) fun O=>?_
     clear hK K
     try simp only[yU]
     (have F:=ZA bA #[.slice none 0 0,.int .i64 0] 39;have bB:=Xi bA;(try replace E:=fun g D=>(E g D).bel (Qi _ (.cells #[.slice none 0 0,.int .i64 0] 39)));(try replace I:=I.bel (Qi _ (.cells #[.slice none 0 0,.int .i64 0] 39)));replace bA:=bA.alloc bA.size (.cells #[.slice none 0 0,.int .i64 0] 39))
     refine wpAnyH_ready (rs:=[3]) (by kernel_rfl) (by simp) ?_
     refine AllReadyH.cons (gA rfl) (fun K hK=>?_) AllReadyH.nil
     go_simp
     (go_at_call 53;refine(ab p4 A3 c3 _ I (ac _ bA)).mono ?_;rintro e w5 ⟨⟨v,xs,an,he,aa,U⟩,Q⟩;obtain rfl:an=ZU:=aa;rw[Zy]at he;rw[QQ]at U;obtain⟨A5,n5,c5,rfl,-⟩:=U.sl Qy;subst he;(try replace F:=fun g D=>(F g D).bel Q);(try replace E:=fun g D=>(E g D).bel Q);replace bA:=bA.trans (Q.mono bA.size);clear Q I U)
     go_wp2_with fail
     refine hK.out _ _ (J _ bA) fun O=>?_
     clear hK K
     try simp only[yU]
     refine yT [4,5,6,7] ?_
     iterate 4 (refine yS ?_;simp only[yU])
     refine yR 10 fun K hK=>?_
     (refine wp_store_row 39 (.tmp 9) (.tmp 45) rfl _ #[.slice A5 n5 c5,.int .i64 1] rfl rfl 39 _ (F _ (by simp)) (by kernel_rfl) rfl (by simp[Value.oneCell']) ?_)
     refine hK.out _ _ (J _ (M5 bA (bB _ (by simp)) _)) fun O=>?_
     clear hK K
     try simp only[yU]
     refine yR 11 fun K hK=>?_
     (refine wp_store_row 55 (.tmp 10) (.tmp 46) rfl _ (QD ZU) rfl rfl 55 _ ((E _ (by simp)).rowOther (Blk.neTy (E _ (by simp)) (F _ (by simp)) (by decide)) _) (by kernel_rfl) rfl (by simp[QD,Value.oneCell']) ?_)
     refine hK.out _ _ (J _ (M5 (M5 bA (bB _ (by simp)) _) (Z _ (by simp)) _)) fun O=>?_
     clear hK K
     try simp only[yU]
     refine yT [12] ?_
     iterate 1 (refine yS ?_;simp only[yU])
     refine yD ?_
     go_wp2_with fail
     go_meet
     exact⟨_,rfl,rfl,((E _ (by simp)).rowOther (Blk.neTy (E _ (by simp)) (F _ (by simp)) (by decide)) _).row _,M5 (M5 bA (bB _ (by simp)) _) (Z _ (by simp)) _⟩
    go_simp
    (go_at_call 53;refine(ab p4 A3 c3 _ I (ac _ bA)).mono ?_;rintro e w5 ⟨⟨v,xs,an,he,aa,U⟩,Q⟩;obtain rfl:an=ZU:=aa;rw[Zy]at he;rw[QQ]at U;obtain⟨A5,n5,c5,rfl,-⟩:=U.sl Qy;subst he;(try replace F:=fun g D=>(F g D).bel Q);(try replace E:=fun g D=>(E g D).bel Q);replace bA:=bA.trans (Q.mono bA.size);clear Q I U)
    go_wp2_with fail
    refine hK.out _ _ (J _ bA) fun O=>?_
    clear hK K
    try simp only[yU]
    refine yT [4,5,6,7] ?_
    iterate 4 (refine yS ?_;simp only[yU])
    refine wpAnyH_ready (rs:=[8]) (by kernel_rfl) (by simp) ?_
    refine AllReadyH.cons (gA rfl) (fun K hK=>?_) AllReadyH.nil
    go_simp
    refine hK.out _ _ (J _ (bA.alloc bA.size (.cells #[.slice none 0 0,.int .i64 0] 39))) fun O=>?_
    clear hK K
    try simp only[yU]
    (have F:=ZA bA #[.slice none 0 0,.int .i64 0] 39;have bB:=Xi bA;(try replace E:=fun g D=>(E g D).bel (Qi _ (.cells #[.slice none 0 0,.int .i64 0] 39)));(try replace I:=I.bel (Qi _ (.cells #[.slice none 0 0,.int .i64 0] 39)));replace bA:=bA.alloc bA.size (.cells #[.slice none 0 0,.int .i64 0] 39))
    refine yR 10 fun K hK=>?_
    (refine wp_store_row 39 (.tmp 9) (.tmp 45) rfl _ #[.slice A5 n5 c5,.int .i64 1] rfl rfl 39 _ (F _ (by simp)) (by kernel_rfl) rfl (by simp[Value.oneCell']) ?_)
    refine hK.out _ _ (J _ (M5 bA (bB _ (by simp)) _)) fun O=>?_
    clear hK K
    try simp only[yU]
    refine yR 11 fun K hK=>?_
    (refine wp_store_row 55 (.tmp 10) (.tmp 46) rfl _ (QD ZU) rfl rfl 55 _ ((E _ (by simp)).rowOther (Blk.neTy (E _ (by simp)) (F _ (by simp)) (by decide)) _) (by kernel_rfl) rfl (by simp[QD,Value.oneCell']) ?_)
    refine hK.out _ _ (J _ (M5 (M5 bA (bB _ (by simp)) _) (Z _ (by simp)) _)) fun O=>?_
    clear hK K
    try simp only[yU]
    refine yT [12] ?_
    iterate 1 (refine yS ?_;simp only[yU])
    refine yD ?_
    go_wp2_with fail
    go_meet
    exact⟨_,rfl,rfl,((E _ (by simp)).rowOther (Blk.neTy (E _ (by simp)) (F _ (by simp)) (by decide)) _).row _,M5 (M5 bA (bB _ (by simp)) _) (Z _ (by simp)) _⟩
   go_simp
   refine hK.out _ _ (J _ (bA.alloc bA.size (.cells #[.slice none 0 0,.int .i64 0] 39))) fun O=>?_
   clear hK K
   try simp only[yU]
   (have F:=ZA bA #[.slice none 0 0,.int .i64 0] 39;have bB:=Xi bA;(try replace E:=fun g D=>(E g D).bel (Qi _ (.cells #[.slice none 0 0,.int .i64 0] 39)));(try replace I:=I.bel (Qi _ (.cells #[.slice none 0 0,.int .i64 0] 39)));replace bA:=bA.alloc bA.size (.cells #[.slice none 0 0,.int .i64 0] 39))
   refine wpAnyH_ready (rs:=[0,9]) (by kernel_rfl) (by simp) ?_
   refine AllReadyH.cons (gA rfl) (fun K hK=>?_) ?m_5
   case m_5=>
    refine AllReadyH.cons (gA rfl) (fun K hK=>?_) AllReadyH.nil
    go_simp
    refine hK.out _ _ (J _ (bA.alloc bA.size (.cells #[.int .i64 0,.int .i64 0] 55))) fun O=>?_
    clear hK K
    try simp only[yU]
    (have E:=ZA bA #[.int .i64 0,.int .i64 0] 55;have Z:=Xi bA;(try replace F:=fun g D=>(F g D).bel (Qi _ (.cells #[.int .i64 0,.int .i64 0] 55)));(try replace I:=I.bel (Qi _ (.cells #[.int .i64 0,.int .i64 0] 55)));replace bA:=bA.alloc bA.size (.cells #[.int .i64 0,.int .i64 0] 55))
    refine wpAnyH_ready (rs:=[0]) (by kernel_rfl) (by simp) ?_
    refine AllReadyH.cons (gA rfl) (fun K hK=>?_) AllReadyH.nil
    go_simp
    (go_at_call 58;refine(Uk _).mono ?_;rintro e w4 ⟨p4,rfl,I,bC⟩;(try replace F:=fun g D=>(F g D).bel bC);(try replace E:=fun g D=>(E g D).bel bC);replace bA:=bA.trans (bC.mono bA.size);clear bC)
    go_wp2_with fail
    refine hK.out _ _ (J _ bA) fun O=>?_
    clear hK K
    try simp only[yU]
    refine wpAnyH_ready (rs:=[3]) (by kernel_rfl) (by simp) ?_
    refine AllReadyH.cons (gA rfl) (fun K hK=>?_) AllReadyH.nil
    go_simp
    (go_at_call 53;refine(ab p4 A3 c3 _ I (ac _ bA)).mono ?_;rintro e w5 ⟨⟨v,xs,an,he,aa,U⟩,Q⟩;obtain rfl:an=ZU:=aa;rw[Zy]at he;rw[QQ]at U;obtain⟨A5,n5,c5,rfl,-⟩:=U.sl Qy;subst he;(try replace F:=fun g D=>(F g D).bel Q);(try replace E:=fun g D=>(E g D).bel Q);replace bA:=bA.trans (Q.mono bA.size);clear Q I U)
    go_wp2_with fail
    refine hK.out _ _ (J _ bA) fun O=>?_
    clear hK K
    try simp only[yU]
    refine yT [4,5,6,7] ?_
    iterate 4 (refine yS ?_;simp only[yU])
    refine yR 10 fun K hK=>?_
    (refine wp_store_row 39 (.tmp 9) (.tmp 45) rfl _ #[.slice A5 n5 c5,.int .i64 1] rfl rfl 39 _ (F _ (by simp)) (by kernel_rfl) rfl (by simp[Value.oneCell']) ?_)
    refine hK.out _ _ (J _ (M5 bA (bB _ (by simp)) _)) fun O=>?_
    clear hK K
    try simp only[yU]
    refine yR 11 fun K hK=>?_
    (refine wp_store_row 55 (.tmp 10) (.tmp 46) rfl _ (QD ZU) rfl rfl 55 _ ((E _ (by simp)).rowOther (Blk.neTy (E _ (by simp)) (F _ (by simp)) (by decide)) _) (by kernel_rfl) rfl (by simp[QD,Value.oneCell']) ?_)
    refine hK.out _ _ (J _ (M5 (M5 bA (bB _ (by simp)) _) (Z _ (by simp)) _)) fun O=>?_
    clear hK K
    try simp only[yU]
    refine yT [12] ?_
    iterate 1 (refine yS ?_;simp only[yU])
    refine yD ?_
    go_wp2_with fail
    go_meet
    exact⟨_,rfl,rfl,((E _ (by simp)).rowOther (Blk.neTy (E _ (by simp)) (F _ (by simp)) (by decide)) _).row _,M5 (M5 bA (bB _ (by simp)) _) (Z _ (by simp)) _⟩
   go_simp
   (go_at_call 58;refine(Uk _).mono ?_;rintro e w4 ⟨p4,rfl,I,bC⟩;(try replace F:=fun g D=>(F g D).bel bC);(try replace E:=fun g D=>(E g D).bel bC);replace bA:=bA.trans (bC.mono bA.size);clear bC)
   go_wp2_with fail
   refine hK.out _ _ (J _ bA) fun O=>?_
   clear hK K
   try simp only[yU]
   refine wpAnyH_ready (rs:=[3,9]) (by kernel_rfl) (by simp) ?_
   refine AllReadyH.cons (gA rfl) (fun K hK=>?_) ?m_6
   case m_6=>
    refine AllReadyH.cons (gA rfl) (fun K hK=>?_) AllReadyH.nil
    go_simp
    refine hK.out _ _ (J _ (bA.alloc bA.size (.cells #[.int .i64 0,.int .i64 0] 55))) fun O=>?_
    clear hK K
    try simp only[yU]
    (have E:=ZA bA #[.int .i64 0,.int .i64 0] 55;have Z:=Xi bA;(try replace F:=fun g D=>(F g D).bel (Qi _ (.cells #[.int .i64 0,.int .i64 0] 55)));(try replace I:=I.bel (Qi _ (.cells #[.int .i64 0,.int .i64 0] 55)));replace bA:=bA.alloc bA.size (.cells #[.int .i64 0,.int .i64 0] 55))
    refine wpAnyH_ready (rs:=[3]) (by kernel_rfl) (by simp) ?_
    refine AllReadyH.cons (gA rfl) (fun K hK=>?_) AllReadyH.nil
    go_simp
    (go_at_call 53;refine(ab p4 A3 c3 _ I (ac _ bA)).mono ?_;rintro e w5 ⟨⟨v,xs,an,he,aa,U⟩,Q⟩;obtain rfl:an=ZU:=aa;rw[Zy]at he;rw[QQ]at U;obtain⟨A5,n5,c5,rfl,-⟩:=U.sl Qy;subst he;(try replace F:=fun g D=>(F g D).bel Q);(try replace E:=fun g D=>(E g D).bel Q);replace bA:=bA.trans (Q.mono bA.size);clear Q I U)
    go_wp2_with fail
    refine hK.out _ _ (J _ bA) fun O=>?_
    clear hK K
    try simp only[yU]
    refine yT [4,5,6,7] ?_
    iterate 4 (refine yS ?_;simp only[yU])
    refine yR 10 fun K hK=>?_
    (refine wp_store_row 39 (.tmp 9) (.tmp 45) rfl _ #[.slice A5 n5 c5,.int .i64 1] rfl rfl 39 _ (F _ (by simp)) (by kernel_rfl) rfl (by simp[Value.oneCell']) ?_)
    refine hK.out _ _ (J _ (M5 bA (bB _ (by simp)) _)) fun O=>?_
    clear hK K
    try simp only[yU]
    refine yR 11 fun K hK=>?_
    (refine wp_store_row 55 (.tmp 10) (.tmp 46) rfl _ (QD ZU) rfl rfl 55 _ ((E _ (by simp)).rowOther (Blk.neTy (E _ (by simp)) (F _ (by simp)) (by decide)) _) (by kernel_rfl) rfl (by simp[QD,Value.oneCell']) ?_)
    refine hK.out _ _ (J _ (M5 (M5 bA (bB _ (by simp)) _) (Z _ (by simp)) _)) fun O=>?_
    clear hK K
    try simp only[yU]
    refine yT [12] ?_
    iterate 1 (refine yS ?_;simp only[yU])
    refine yD ?_
    go_wp2_with fail
    go_meet
    exact⟨_,rfl,rfl,((E _ (by simp)).rowOther (Blk.neTy (E _ (by simp)) (F _ (by simp)) (by decide)) _).row _,M5 (M5 bA (bB _ (by simp)) _) (Z _ (by simp)) _⟩
   go_simp
   (go_at_call 53;refine(ab p4 A3 c3 _ I (ac _ bA)).mono ?_;rintro e w5 ⟨⟨v,xs,an,he,aa,U⟩,Q⟩;obtain rfl:an=ZU:=aa;rw[Zy]at he;rw[QQ]at U;obtain⟨A5,n5,c5,rfl,-⟩:=U.sl Qy;subst he;(try replace F:=fun g D=>(F g D).bel Q);(try replace E:=fun g D=>(E g D).bel Q);replace bA:=bA.trans (Q.mono bA.size);clear Q I U)
   go_wp2_with fail
   refine hK.out _ _ (J _ bA) fun O=>?_
   clear hK K
   try simp only[yU]
   refine yT [4,5,6,7] ?_
   iterate 4 (refine yS ?_;simp only[yU])
   refine wpAnyH_ready (rs:=[9]) (by kernel_rfl) (by simp) ?_
   refine AllReadyH.cons (gA rfl) (fun K hK=>?_) AllReadyH.nil
   go_simp
   refine hK.out _ _ (J _ (bA.alloc bA.size (.cells #[.int .i64 0,.int .i64 0] 55))) fun O=>?_
   clear hK K
   try simp only[yU]
   (have E:=ZA bA #[.int .i64 0,.int .i64 0] 55;have Z:=Xi bA;(try replace F:=fun g D=>(F g D).bel (Qi _ (.cells #[.int .i64 0,.int .i64 0] 55)));(try replace I:=I.bel (Qi _ (.cells #[.int .i64 0,.int .i64 0] 55)));replace bA:=bA.alloc bA.size (.cells #[.int .i64 0,.int .i64 0] 55))
   refine yR 10 fun K hK=>?_
   (refine wp_store_row 39 (.tmp 9) (.tmp 45) rfl _ #[.slice A5 n5 c5,.int .i64 1] rfl rfl 39 _ (F _ (by simp)) (by kernel_rfl) rfl (by simp[Value.oneCell']) ?_)
   refine hK.out _ _ (J _ (M5 bA (bB _ (by simp)) _)) fun O=>?_
   clear hK K
   try simp only[yU]
   refine yR 11 fun K hK=>?_
   (refine wp_store_row 55 (.tmp 10) (.tmp 46) rfl _ (QD ZU) rfl rfl 55 _ ((E _ (by simp)).rowOther (Blk.neTy (E _ (by simp)) (F _ (by simp)) (by decide)) _) (by kernel_rfl) rfl (by simp[QD,Value.oneCell']) ?_)
   refine hK.out _ _ (J _ (M5 (M5 bA (bB _ (by simp)) _) (Z _ (by simp)) _)) fun O=>?_
   clear hK K
   try simp only[yU]
   refine yT [12] ?_
   iterate 1 (refine yS ?_;simp only[yU])
   refine yD ?_
   go_wp2_with fail
   go_meet
   exact⟨_,rfl,rfl,((E _ (by simp)).rowOther (Blk.neTy (E _ (by simp)) (F _ (by simp)) (by decide)) _).row _,M5 (M5 bA (bB _ (by simp)) _) (Z _ (by simp)) _⟩
  go_simp
  (go_at_call 58;refine(Uk _).mono ?_;rintro e w4 ⟨p4,rfl,I,bC⟩;(try replace F:=fun g D=>(F g D).bel bC);(try replace E:=fun g D=>(E g D).bel bC);replace bA:=bA.trans (bC.mono bA.size);clear bC)
  go_wp2_with fail
  refine hK.out _ _ (J _ bA) fun O=>?_
  clear hK K
  try simp only[yU]
  refine wpAnyH_ready (rs:=[3,8,9]) (by kernel_rfl) (by simp) ?_
  refine AllReadyH.cons (gA rfl) (fun K hK=>?_) ?m_7
  case m_7=>
   refine AllReadyH.cons (gA rfl) (fun K hK=>?_) ?m_8
   case m_8=>
    refine AllReadyH.cons (gA rfl) (fun K hK=>?_) AllReadyH.nil
    go_simp
    refine hK.out _ _ (J _ (bA.alloc bA.size (.cells #[.int .i64 0,.int .i64 0] 55))) fun O=>?_
    clear hK K
    try simp only[yU]
    (have E:=ZA bA #[.int .i64 0,.int .i64 0] 55;have Z:=Xi bA;(try replace F:=fun g D=>(F g D).bel (Qi _ (.cells #[.int .i64 0,.int .i64 0] 55)));(try replace I:=I.bel (Qi _ (.cells #[.int .i64 0,.int .i64 0] 55)));replace bA:=bA.alloc bA.size (.cells #[.int .i64 0,.int .i64 0] 55))
    refine wpAnyH_ready (rs:=[3,8]) (by kernel_rfl) (by simp) ?_
    refine AllReadyH.cons (gA rfl) (fun K hK=>?_) ?m_9
    case m_9=>
     refine AllReadyH.cons (gA rfl) (fun K hK=>?_) AllReadyH.nil
     go_simp
     refine hK.out _ _ (J _ (bA.alloc bA.size (.cells #[.slice none 0 0,.int .i64 0] 39))) fun O=>?_
     clear hK K
     try simp only[yU]
     (have F:=ZA bA #[.slice none 0 0,.int .i64 0] 39;have bB:=Xi bA;(try replace E:=fun g D=>(E g D).bel (Qi _ (.cells #[.slice none 0 0,.int .i64 0] 39)));(try replace I:=I.bel (Qi _ (.cells #[.slice none 0 0,.int .i64 0] 39)));replace bA:=bA.alloc bA.size (.cells #[.slice none 0 0,.int .i64 0] 39))
     refine wpAnyH_ready (rs:=[3]) (by kernel_rfl) (by simp) ?_
     refine AllReadyH.cons (gA rfl) (fun K hK=>?_) AllReadyH.nil
     go_simp
     (go_at_call 53;refine(ab p4 A3 c3 _ I (ac _ bA)).mono ?_;rintro e w5 ⟨⟨v,xs,an,he,aa,U⟩,Q⟩;obtain rfl:an=ZU:=aa;rw[Zy]at he;rw[QQ]at U;obtain⟨A5,n5,c5,rfl,-⟩:=U.sl Qy;subst he;(try replace F:=fun g D=>(F g D).bel Q);(try replace E:=fun g D=>(E g D).bel Q);replace bA:=bA.trans (Q.mono bA.size);clear Q I U)
     go_wp2_with fail
     refine hK.out _ _ (J _ bA) fun O=>?_
     clear hK K
     try simp only[yU]
     refine yT [4,5,6,7] ?_
     iterate 4 (refine yS ?_;simp only[yU])
     refine yR 10 fun K hK=>?_
     (refine wp_store_row 39 (.tmp 9) (.tmp 45) rfl _ #[.slice A5 n5 c5,.int .i64 1] rfl rfl 39 _ (F _ (by simp)) (by kernel_rfl) rfl (by simp[Value.oneCell']) ?_)
     refine hK.out _ _ (J _ (M5 bA (bB _ (by simp)) _)) fun O=>?_
     clear hK K
     try simp only[yU]
     refine yR 11 fun K hK=>?_
     (refine wp_store_row 55 (.tmp 10) (.tmp 46) rfl _ (QD ZU) rfl rfl 55 _ ((E _ (by simp)).rowOther (Blk.neTy (E _ (by simp)) (F _ (by simp)) (by decide)) _) (by kernel_rfl) rfl (by simp[QD,Value.oneCell']) ?_)
     refine hK.out _ _ (J _ (M5 (M5 bA (bB _ (by simp)) _) (Z _ (by simp)) _)) fun O=>?_
     clear hK K
     try simp only[yU]
     refine yT [12] ?_
     iterate 1 (refine yS ?_;simp only[yU])
     refine yD ?_
     go_wp2_with fail
     go_meet
     exact⟨_,rfl,rfl,((E _ (by simp)).rowOther (Blk.neTy (E _ (by simp)) (F _ (by simp)) (by decide)) _).row _,M5 (M5 bA (bB _ (by simp)) _) (Z _ (by simp)) _⟩
    go_simp
    (go_at_call 53;refine(ab p4 A3 c3 _ I (ac _ bA)).mono ?_;rintro e w5 ⟨⟨v,xs,an,he,aa,U⟩,Q⟩;obtain rfl:an=ZU:=aa;rw[Zy]at he;rw[QQ]at U;obtain⟨A5,n5,c5,rfl,-⟩:=U.sl Qy;subst he;(try replace F:=fun g D=>(F g D).bel Q);(try replace E:=fun g D=>(E g D).bel Q);replace bA:=bA.trans (Q.mono bA.size);clear Q I U)
    go_wp2_with fail
    refine hK.out _ _ (J _ bA) fun O=>?_
    clear hK K
    try simp only[yU]
    refine yT [4,5,6,7] ?_
    iterate 4 (refine yS ?_;simp only[yU])
    refine wpAnyH_ready (rs:=[8]) (by kernel_rfl) (by simp) ?_
    refine AllReadyH.cons (gA rfl) (fun K hK=>?_) AllReadyH.nil
    go_simp
    refine hK.out _ _ (J _ (bA.alloc bA.size (.cells #[.slice none 0 0,.int .i64 0] 39))) fun O=>?_
    clear hK K
    try simp only[yU]
    (have F:=ZA bA #[.slice none 0 0,.int .i64 0] 39;have bB:=Xi bA;(try replace E:=fun g D=>(E g D).bel (Qi _ (.cells #[.slice none 0 0,.int .i64 0] 39)));(try replace I:=I.bel (Qi _ (.cells #[.slice none 0 0,.int .i64 0] 39)));replace bA:=bA.alloc bA.size (.cells #[.slice none 0 0,.int .i64 0] 39))
    refine yR 10 fun K hK=>?_
    (refine wp_store_row 39 (.tmp 9) (.tmp 45) rfl _ #[.slice A5 n5 c5,.int .i64 1] rfl rfl 39 _ (F _ (by simp)) (by kernel_rfl) rfl (by simp[Value.oneCell']) ?_)
    refine hK.out _ _ (J _ (M5 bA (bB _ (by simp)) _)) fun O=>?_
    clear hK K
    try simp only[yU]
    refine yR 11 fun K hK=>?_
    (refine wp_store_row 55 (.tmp 10) (.tmp 46) rfl _ (QD ZU) rfl rfl 55 _ ((E _ (by simp)).rowOther (Blk.neTy (E _ (by simp)) (F _ (by simp)) (by decide)) _) (by kernel_rfl) rfl (by simp[QD,Value.oneCell']) ?_)
    refine hK.out _ _ (J _ (M5 (M5 bA (bB _ (by simp)) _) (Z _ (by simp)) _)) fun O=>?_
    clear hK K
    try simp only[yU]
    refine yT [12] ?_
    iterate 1 (refine yS ?_;simp only[yU])
    refine yD ?_
    go_wp2_with fail
    go_meet
    exact⟨_,rfl,rfl,((E _ (by simp)).rowOther (Blk.neTy (E _ (by simp)) (F _ (by simp)) (by decide)) _).row _,M5 (M5 bA (bB _ (by simp)) _) (Z _ (by simp)) _⟩
   go_simp
   refine hK.out _ _ (J _ (bA.alloc bA.size (.cells #[.slice none 0 0,.int .i64 0] 39))) fun O=>?_
   clear hK K
   try simp only[yU]
   (have F:=ZA bA #[.slice none 0 0,.int .i64 0] 39;have bB:=Xi bA;(try replace E:=fun g D=>(E g D).bel (Qi _ (.cells #[.slice none 0 0,.int .i64 0] 39)));(try replace I:=I.bel (Qi _ (.cells #[.slice none 0 0,.int .i64 0] 39)));replace bA:=bA.alloc bA.size (.cells #[.slice none 0 0,.int .i64 0] 39))
   refine wpAnyH_ready (rs:=[3,9]) (by kernel_rfl) (by simp) ?_
   refine AllReadyH.cons (gA rfl) (fun K hK=>?_) ?m_10
   case m_10=>
    refine AllReadyH.cons (gA rfl) (fun K hK=>?_) AllReadyH.nil
    go_simp
    refine hK.out _ _ (J _ (bA.alloc bA.size (.cells #[.int .i64 0,.int .i64 0] 55))) fun O=>?_
    clear hK K
    try simp only[yU]
    (have E:=ZA bA #[.int .i64 0,.int .i64 0] 55;have Z:=Xi bA;(try replace F:=fun g D=>(F g D).bel (Qi _ (.cells #[.int .i64 0,.int .i64 0] 55)));(try replace I:=I.bel (Qi _ (.cells #[.int .i64 0,.int .i64 0] 55)));replace bA:=bA.alloc bA.size (.cells #[.int .i64 0,.int .i64 0] 55))
    refine wpAnyH_ready (rs:=[3]) (by kernel_rfl) (by simp) ?_
    refine AllReadyH.cons (gA rfl) (fun K hK=>?_) AllReadyH.nil
    go_simp
    (go_at_call 53;refine(ab p4 A3 c3 _ I (ac _ bA)).mono ?_;rintro e w5 ⟨⟨v,xs,an,he,aa,U⟩,Q⟩;obtain rfl:an=ZU:=aa;rw[Zy]at he;rw[QQ]at U;obtain⟨A5,n5,c5,rfl,-⟩:=U.sl Qy;subst he;(try replace F:=fun g D=>(F g D).bel Q);(try replace E:=fun g D=>(E g D).bel Q);replace bA:=bA.trans (Q.mono bA.size);clear Q I U)
    go_wp2_with fail
    refine hK.out _ _ (J _ bA) fun O=>?_
    clear hK K
    try simp only[yU]
    refine yT [4,5,6,7] ?_
    iterate 4 (refine yS ?_;simp only[yU])
    refine yR 10 fun K hK=>?_
    (refine wp_store_row 39 (.tmp 9) (.tmp 45) rfl _ #[.slice A5 n5 c5,.int .i64 1] rfl rfl 39 _ (F _ (by simp)) (by kernel_rfl) rfl (by simp[Value.oneCell']) ?_)
    refine hK.out _ _ (J _ (M5 bA (bB _ (by simp)) _)) fun O=>?_
    clear hK K
    try simp only[yU]
    refine yR 11 fun K hK=>?_
    (refine wp_store_row 55 (.tmp 10) (.tmp 46) rfl _ (QD ZU) rfl rfl 55 _ ((E _ (by simp)).rowOther (Blk.neTy (E _ (by simp)) (F _ (by simp)) (by decide)) _) (by kernel_rfl) rfl (by simp[QD,Value.oneCell']) ?_)
    refine hK.out _ _ (J _ (M5 (M5 bA (bB _ (by simp)) _) (Z _ (by simp)) _)) fun O=>?_
    clear hK K
    try simp only[yU]
    refine yT [12] ?_
    iterate 1 (refine yS ?_;simp only[yU])
    refine yD ?_
    go_wp2_with fail
    go_meet
    exact⟨_,rfl,rfl,((E _ (by simp)).rowOther (Blk.neTy (E _ (by simp)) (F _ (by simp)) (by decide)) _).row _,M5 (M5 bA (bB _ (by simp)) _) (Z _ (by simp)) _⟩
   go_simp
   (go_at_call 53;refine(ab p4 A3 c3 _ I (ac _ bA)).mono ?_;rintro e w5 ⟨⟨v,xs,an,he,aa,U⟩,Q⟩;obtain rfl:an=ZU:=aa;rw[Zy]at he;rw[QQ]at U;obtain⟨A5,n5,c5,rfl,-⟩:=U.sl Qy;subst he;(try replace F:=fun g D=>(F g D).bel Q);(try replace E:=fun g D=>(E g D).bel Q);replace bA:=bA.trans (Q.mono bA.size);clear Q I U)
   go_wp2_with fail
   refine hK.out _ _ (J _ bA) fun O=>?_
   clear hK K
   try simp only[yU]
   refine yT [4,5,6,7] ?_
   iterate 4 (refine yS ?_;simp only[yU])
   refine wpAnyH_ready (rs:=[9]) (by kernel_rfl) (by simp) ?_
   refine AllReadyH.cons (gA rfl) (fun K hK=>?_) AllReadyH.nil
   go_simp
   refine hK.out _ _ (J _ (bA.alloc bA.size (.cells #[.int .i64 0,.int .i64 0] 55))) fun O=>?_
   clear hK K
   try simp only[yU]
   (have E:=ZA bA #[.int .i64 0,.int .i64 0] 55;have Z:=Xi bA;(try replace F:=fun g D=>(F g D).bel (Qi _ (.cells #[.int .i64 0,.int .i64 0] 55)));(try replace I:=I.bel (Qi _ (.cells #[.int .i64 0,.int .i64 0] 55)));replace bA:=bA.alloc bA.size (.cells #[.int .i64 0,.int .i64 0] 55))
   refine yR 10 fun K hK=>?_
   (refine wp_store_row 39 (.tmp 9) (.tmp 45) rfl _ #[.slice A5 n5 c5,.int .i64 1] rfl rfl 39 _ (F _ (by simp)) (by kernel_rfl) rfl (by simp[Value.oneCell']) ?_)
   refine hK.out _ _ (J _ (M5 bA (bB _ (by simp)) _)) fun O=>?_
   clear hK K
   try simp only[yU]
   refine yR 11 fun K hK=>?_
   (refine wp_store_row 55 (.tmp 10) (.tmp 46) rfl _ (QD ZU) rfl rfl 55 _ ((E _ (by simp)).rowOther (Blk.neTy (E _ (by simp)) (F _ (by simp)) (by decide)) _) (by kernel_rfl) rfl (by simp[QD,Value.oneCell']) ?_)
   refine hK.out _ _ (J _ (M5 (M5 bA (bB _ (by simp)) _) (Z _ (by simp)) _)) fun O=>?_
   clear hK K
   try simp only[yU]
   refine yT [12] ?_
   iterate 1 (refine yS ?_;simp only[yU])
   refine yD ?_
   go_wp2_with fail
   go_meet
   exact⟨_,rfl,rfl,((E _ (by simp)).rowOther (Blk.neTy (E _ (by simp)) (F _ (by simp)) (by decide)) _).row _,M5 (M5 bA (bB _ (by simp)) _) (Z _ (by simp)) _⟩
  go_simp
  (go_at_call 53;refine(ab p4 A3 c3 _ I (ac _ bA)).mono ?_;rintro e w5 ⟨⟨v,xs,an,he,aa,U⟩,Q⟩;obtain rfl:an=ZU:=aa;rw[Zy]at he;rw[QQ]at U;obtain⟨A5,n5,c5,rfl,-⟩:=U.sl Qy;subst he;(try replace F:=fun g D=>(F g D).bel Q);(try replace E:=fun g D=>(E g D).bel Q);replace bA:=bA.trans (Q.mono bA.size);clear Q I U)
  go_wp2_with fail
  refine hK.out _ _ (J _ bA) fun O=>?_
  clear hK K
  try simp only[yU]
  refine yT [4,5,6,7] ?_
  iterate 4 (refine yS ?_;simp only[yU])
  refine wpAnyH_ready (rs:=[8,9]) (by kernel_rfl) (by simp) ?_
  refine AllReadyH.cons (gA rfl) (fun K hK=>?_) ?m_11
  case m_11=>
   refine AllReadyH.cons (gA rfl) (fun K hK=>?_) AllReadyH.nil
   go_simp
   refine hK.out _ _ (J _ (bA.alloc bA.size (.cells #[.int .i64 0,.int .i64 0] 55))) fun O=>?_
   clear hK K
   try simp only[yU]
   (have E:=ZA bA #[.int .i64 0,.int .i64 0] 55;have Z:=Xi bA;(try replace F:=fun g D=>(F g D).bel (Qi _ (.cells #[.int .i64 0,.int .i64 0] 55)));(try replace I:=I.bel (Qi _ (.cells #[.int .i64 0,.int .i64 0] 55)));replace bA:=bA.alloc bA.size (.cells #[.int .i64 0,.int .i64 0] 55))
   refine wpAnyH_ready (rs:=[8]) (by kernel_rfl) (by simp) ?_
   refine AllReadyH.cons (gA rfl) (fun K hK=>?_) AllReadyH.nil
   go_simp
   refine hK.out _ _ (J _ (bA.alloc bA.size (.cells #[.slice none 0 0,.int .i64 0] 39))) fun O=>?_
   clear hK K
   try simp only[yU]
   (have F:=ZA bA #[.slice none 0 0,.int .i64 0] 39;have bB:=Xi bA;(try replace E:=fun g D=>(E g D).bel (Qi _ (.cells #[.slice none 0 0,.int .i64 0] 39)));(try replace I:=I.bel (Qi _ (.cells #[.slice none 0 0,.int .i64 0] 39)));replace bA:=bA.alloc bA.size (.cells #[.slice none 0 0,.int .i64 0] 39))
   refine yR 10 fun K hK=>?_
   (refine wp_store_row 39 (.tmp 9) (.tmp 45) rfl _ #[.slice A5 n5 c5,.int .i64 1] rfl rfl 39 _ (F _ (by simp)) (by kernel_rfl) rfl (by simp[Value.oneCell']) ?_)
   refine hK.out _ _ (J _ (M5 bA (bB _ (by simp)) _)) fun O=>?_
   clear hK K
   try simp only[yU]
   refine yR 11 fun K hK=>?_
   (refine wp_store_row 55 (.tmp 10) (.tmp 46) rfl _ (QD ZU) rfl rfl 55 _ ((E _ (by simp)).rowOther (Blk.neTy (E _ (by simp)) (F _ (by simp)) (by decide)) _) (by kernel_rfl) rfl (by simp[QD,Value.oneCell']) ?_)
   refine hK.out _ _ (J _ (M5 (M5 bA (bB _ (by simp)) _) (Z _ (by simp)) _)) fun O=>?_
   clear hK K
   try simp only[yU]
   refine yT [12] ?_
   iterate 1 (refine yS ?_;simp only[yU])
   refine yD ?_
   go_wp2_with fail
   go_meet
   exact⟨_,rfl,rfl,((E _ (by simp)).rowOther (Blk.neTy (E _ (by simp)) (F _ (by simp)) (by decide)) _).row _,M5 (M5 bA (bB _ (by simp)) _) (Z _ (by simp)) _⟩
  go_simp
  refine hK.out _ _ (J _ (bA.alloc bA.size (.cells #[.slice none 0 0,.int .i64 0] 39))) fun O=>?_
  clear hK K
  try simp only[yU]
  (have F:=ZA bA #[.slice none 0 0,.int .i64 0] 39;have bB:=Xi bA;(try replace E:=fun g D=>(E g D).bel (Qi _ (.cells #[.slice none 0 0,.int .i64 0] 39)));(try replace I:=I.bel (Qi _ (.cells #[.slice none 0 0,.int .i64 0] 39)));replace bA:=bA.alloc bA.size (.cells #[.slice none 0 0,.int .i64 0] 39))
  refine wpAnyH_ready (rs:=[9]) (by kernel_rfl) (by simp) ?_
  refine AllReadyH.cons (gA rfl) (fun K hK=>?_) AllReadyH.nil
  go_simp
  refine hK.out _ _ (J _ (bA.alloc bA.size (.cells #[.int .i64 0,.int .i64 0] 55))) fun O=>?_
  clear hK K
  try simp only[yU]
  (have E:=ZA bA #[.int .i64 0,.int .i64 0] 55;have Z:=Xi bA;(try replace F:=fun g D=>(F g D).bel (Qi _ (.cells #[.int .i64 0,.int .i64 0] 55)));(try replace I:=I.bel (Qi _ (.cells #[.int .i64 0,.int .i64 0] 55)));replace bA:=bA.alloc bA.size (.cells #[.int .i64 0,.int .i64 0] 55))
  refine yR 10 fun K hK=>?_
  (refine wp_store_row 39 (.tmp 9) (.tmp 45) rfl _ #[.slice A5 n5 c5,.int .i64 1] rfl rfl 39 _ (F _ (by simp)) (by kernel_rfl) rfl (by simp[Value.oneCell']) ?_)
  refine hK.out _ _ (J _ (M5 bA (bB _ (by simp)) _)) fun O=>?_
  clear hK K
  try simp only[yU]
  refine yR 11 fun K hK=>?_
  (refine wp_store_row 55 (.tmp 10) (.tmp 46) rfl _ (QD ZU) rfl rfl 55 _ ((E _ (by simp)).rowOther (Blk.neTy (E _ (by simp)) (F _ (by simp)) (by decide)) _) (by kernel_rfl) rfl (by simp[QD,Value.oneCell']) ?_)
  refine hK.out _ _ (J _ (M5 (M5 bA (bB _ (by simp)) _) (Z _ (by simp)) _)) fun O=>?_
  clear hK K
  try simp only[yU]
  refine yT [12] ?_
  iterate 1 (refine yS ?_;simp only[yU])
  refine yD ?_
  go_wp2_with fail
  go_meet
  exact⟨_,rfl,rfl,((E _ (by simp)).rowOther (Blk.neTy (E _ (by simp)) (F _ (by simp)) (by decide)) _).row _,M5 (M5 bA (bB _ (by simp)) _) (Z _ (by simp)) _⟩
 obtain⟨a4,rfl,rfl,ax,bC⟩:=hcut
 obtain⟨V4,rfl⟩:=yE wc
 have aH:=yh (fun X (Y:yw V4 X)=>ax.bel Y)
 have ah:=yh (fun X (Y:yw V4 X)=>bC.trans (Y.mono bC.size))
 clear ax bC ab
 go_upto_region 5 with(fail)
 go_cut [12,13] (fun q e wx=>e=.int .i64 0∧(∃s y p',yp q s∧Blk wx s (Qa y p') 32∧y=y1∧SaiR wx y p')∧yw V4 wx)
 case first=>
  clear aj ar aq ap af ad ay aH
  have bA:yw V4 V4.drew:=(J4 _ V4).drew
  refine yZ (S:=(fun w'=>yJ w' s3 0 A3 1 c3∧yI w' s3 1 1)) (J _ (ah _ bA)) fun O=>?_
  refine yT [1] ?_
  iterate 1 (refine yS ?_;simp only[yU])
  focus
   refine yr2 0 6 (fun K k0=>?_) (fun K k6=>?_)
   repeat first
    |
     revert k0
     intro hK
     go_simp
     (go_at_call 58;refine(Uk _).mono ?_;rintro e w4 ⟨p4,rfl,I,bC⟩;(try replace F:=fun g D=>(F g D).bel bC);replace bA:=bA.trans (bC.mono bA.size);clear bC)
     go_wp2_with fail
     refine hK.out _ _ (J _ (ah _ bA)) fun O=>?_
     clear hK K
     try simp only[yU]
     first
      | refine yt2 2 6 (fun K k2=>?_) (fun K k6=>?_)
      | refine yt1 2 (fun K k2=>?_)
    |
     revert k2
     intro hK
     go_simp
     (go_at_call 16;(try have bh:=fun g D=>Blk.lt (F g D));refine(bD p4 A3 c3 _ I (ac _ (ah _ bA))).mono ?_;rintro e w5 ⟨⟨y,p',rfl,hy,U⟩,Q⟩;have bi:y1=y:=hy.symm;subst bi;clear hy;(try replace F:=fun g D=>(F g D).bel Q);replace bA:=bA.trans (Q.mono bA.size);clear Q I)
     go_wp2_with fail
     refine hK.out _ _ (J _ (ah _ bA)) fun O=>?_
     clear hK K
     try simp only[yU]
     refine yT [3,4,5] ?_
     iterate 3 (refine yS ?_;simp only[yU])
     first
      | refine yt1 6 (fun K k6=>?_)
      | rotate_left
    |
     revert k6
     intro hK
     go_simp
     refine hK.out _ _ (J _ (ah _ (bA.alloc bA.size (.cells M9 32)))) fun O=>?_
     clear hK K
     try simp only[yU]
     (have F:=ZA bA M9 32;have bB:=Xi bA;(try replace I:=I.bel (Qi _ (.cells M9 32)));(try have bf:=Qi w5 (.cells M9 32));replace bA:=bA.alloc bA.size (.cells M9 32))
     first
      | refine yt1 0 (fun K k0=>?_)
      | refine yt1 2 (fun K k2=>?_)
      | rotate_left
   all_goals
    refine yR 7 fun K hK=>?_
    (refine wp_store_row 32 (.tmp 12) (.tmp 52) rfl _ (Qa y1 p') rfl rfl 32 _ (F _ (by simp)) (by kernel_rfl) rfl (by simp[Value.oneCell']) ?_)
    refine hK.out _ _ (J _ (ah _ (M5 bA (bB _ (by simp)) _))) fun O=>?_
    clear hK K
    try simp only[yU]
    refine yT [8] ?_
    iterate 1 (refine yS ?_;simp only[yU])
    refine yD ?_
    go_wp2_with fail
    go_meet
    refine⟨rfl,⟨_,y1,p',rfl,(F _ (by simp)).row _,rfl,?_⟩,M5 bA (bB _ (by simp)) _⟩
    first | exact U.sai.bel (M5 bf (J5 _) _) | exact(U.kept ((Kept.refl (fun k=>k=_) w5).setRow (.inl rfl) _) (fun k hk e=>by have:=bh _ rfl;have h2:V4.drew.heap.size=V4.heap.size:=rfl;omega)).sai
 obtain⟨rfl,⟨s5,y5,p5,rfl,bG,a6,a2⟩,Q⟩:=hcut
 obtain⟨V5,rfl⟩:=yE wc
 have bj:y1=y5:=a6.symm
 subst bj
 have aO:=yh (fun X (Y:yw V5 X)=>bG.bel Y)
 have aN:=yh (fun X (Y:yw V5 X)=>a2.bel Y)
 have aG:=yh (fun X (Y:yw V5 X)=>Q.trans (Y.mono Q.size))
 clear bG a2 Q a6 bD J
 go_upto_region 6 with(fail)
 go_cut [14,15] (fun q e wx=>e=.int .i64 0∧(∃s A c,yp q s∧Blk wx s #[.slice A 1 c,.int .i64 1] 39∧Sl Vv 13 wx All A 1 c [Yh])∧yw V5 wx)
 case first=>
  have am:=ah _ (aG _ (J4 _ _))
  have HC:=yh (aj A3 c3 V5 (ac _ am))
  have hz:=aK _ am
  clear ar aq ap af ad ay aH ac aj aK aO aN aG ah am
  go_wp2_with (refine yV (.tmp 6) hz underlying39 ?_)
  refine HC.mono ?_
  rintro e w8 ⟨⟨v,xs,he,U⟩,aE⟩
  rw[Zy]at he
  rw[QQ]at U
  obtain⟨A,n,c,rfl,hs⟩:=U.sl Qy
  obtain rfl:1=n:=hs.len
  have a8:=yh (hs.all Qy (by omega))
  have aI:=yh aE
  subst he
  clear U hs aE HC hz
  go_wp2_with (refine yX 39 (.tmp 14) (.tmp 57) w8.heap.size #[.slice A 1 c,.int .i64 1] (Blk.new w8 #[.slice none 0 0,.int .i64 0] 39) ?_)
  go_meet
  have ao:yw w8 ((w8.alloc (.cells #[.slice none 0 0,.int .i64 0] 39)).setRow w8.heap.size #[.slice A 1 c,.int .i64 1]):=M5 (Qi w8 _) (J5 _) _
  exact⟨rfl,⟨_,A,c,rfl,(Blk.new w8 _ _).row _,a8.bel ao⟩,aI.trans (ao.mono aI.size)⟩
 obtain⟨rfl,⟨s6,A6,c6,rfl,aL,a0⟩,aM⟩:=hcut
 obtain⟨V6,rfl⟩:=yE wc
 have aQ:=aG _ aM
 have am:=ah _ aQ
 have aF:=ad _ am
 have av:=ap _ aF
 have aw:=ay _ am
 have ax:=aH _ aQ
 have ak:=aK _ am
 have bo:yI V6 a1 0 0:=av.cell rfl
 have bp:yI V6 a1 1 800:=av.cell rfl
 have bq:yI V6 a3 0 0:=aw.cell rfl
 have br:yI V6 a3 1 800:=aw.cell rfl
 have bH:yI V6 a4 0 0:=ax.cell rfl
 have bt:yI V6 a4 1 800:=ax.cell rfl
 have bk:yJ V6 s3 0 A3 1 c3:=ak.cell rfl
 have bl:yI V6 s3 1 1:=ak.cell rfl
 have bm:yJ V6 s6 0 A6 1 c6:=aL.cell rfl
 have bn:yI V6 s6 1 1:=aL.cell rfl
 obtain⟨f0,f1,f2,f3,f4,f5,f6,f7,f8,f9,a9,ba,bb⟩:=YG (aO _ aM)
 obtain⟨g0,g1,g2,g3,g4,g5,g6,g7,g8,g9,bc,bd,be⟩:=YG (ar _ aF)
 have bg:∀W:World,(binOp .eql 55 (.agg #[.int .i64 0,.int .i64 800]) (.agg #[.int .i64 0,.int .i64 800])).run prog W=.ok (.bool true) W:=fun W=>(Vcb ZU ZU W).trans (by rw[J2 rfl])
 have aU:=yh (Yb y1 p5 p1 V6 (aN _ aM) (aq _ aF))
 have aV:=yh (fun V (hV:yw V6 V)=>XXa A6 A3 1 c6 1 c3 [Yh] [Yh] 1 1 V (a0.bel hV) ((ac _ am).bel hV))
 have aX:=yh ak
 have aY:=yh aL
 have aT:=yh (af.trans (aF.mono af.size))
 clear aQ am aF av aw ax ak aL a0 aM ap ay aH aK ar aO aN aq ac ah aG ad aj af
 go_wp2_with fail
 refine yM aU fun w7 au=>?_
 have aW:=yh (aV _ au)
 have bu:yJ w7 s3 0 A3 1 c3:=(aX.bel au).cell rfl
 have bv:yI w7 s3 1 1:=(aX.bel au).cell rfl
 have bw:yJ w7 s6 0 A6 1 c6:=(aY.bel au).cell rfl
 have bx:yI w7 s6 1 1:=(aY.bel au).cell rfl
 have aS:=yh (aT.trans (au.mono aT.size))
 clear au aU aV f0 f1 f2 f3 f4 f5 f6 f7 f8 f9 a9 ba bb g0 g1 g2 g3 g4 g5 g6 g7 g8 g9 bc bd be bo bp bq br bH bt bk bl bm bn bg
 go_wp2_with fail
 refine yM aW fun w8 aE=>?_
 have aI:=yh (aS.trans (aE.mono aS.size))
 have hd:decide ((1:Int)=1∧[Yh]=[Yh])=true:=J2 ⟨rfl,rfl⟩
 clear aE aW
 go_wp2_with fail
 go_ret
 exact⟨by first | rfl | simp[hd],aI⟩
end Go.Proofs.YtjdcokpmgionjaaGreat
