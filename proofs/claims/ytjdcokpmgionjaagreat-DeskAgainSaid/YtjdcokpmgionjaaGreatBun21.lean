/-
  Words, laws and contracts: StockV, StockK.
-/
import Derived.Test.YtjdcokpmgionjaaGreatBun20
import Derived.BigQuiet
set_option linter.unusedSimpArgs false
set_option linter.unusedVariables false
set_option maxRecDepth 100000
set_option maxHeartbeats 20000000
namespace Go.Proofs.YtjdcokpmgionjaaGreat
open Go.RowKit Go.Shelf
theorem Vmb:ofE QZ XO=0:=by decide
theorem XOa:ofE QZ UC=0:=by decide
theorem UFa:Z5 Qi=[9]:=by decide
theorem UEa:Zd Qi=[⟨0,0⟩,⟨0,2⟩]:=by decide
theorem QJb:Z9 1 [⟨0,0⟩,⟨0,2⟩]=true:=Xf ⟨[(0,0)],⟨by decide,by decide,by decide⟩,rfl⟩
theorem Uub:Zq Uk 3 3=0:=by decide
theorem XBa:QM Qi.bks 3=[2,5,5]:=by decide
theorem QKb:Qi.bks.any (UG Qi.closed)=false:=by decide
theorem URb:Ua Qi 0=0:=by unfold Ua;rw[show Qi.bks.getD 0 default=XO from rfl,show Qi.ship=QZ from rfl,Vmb];simp
theorem USb:Ua Qi 1=0:=by
 unfold Ua;rw[show Qi.bks.getD 1 default=UC from rfl,show Qi.ship=QZ from rfl,XOa,show Qi.bks.getD (1 - 1) default=XO from rfl]
 decide
theorem QLb:Vc Qi=0:=by
 unfold Vc;rw[if_neg (by decide),show Qi.bks.length=2 from rfl,show Qh (Ua Qi) 2=0 from Zu (Zu rfl URb) USb,if_neg (by simp),QKb]
 decide
theorem Yqa:YB Qi.bks 1=[⟨1,3⟩]:=by
 show YB [XO,UC] 1=_
 exact(UL (by decide)).2
theorem QOb (c:Nat)(A:c < 3):ZK Qi.bks (c:Int)=true:=by
 rcases c with _ | _ | _ | c
 ·exact(UL (show spF (spL Qi.bks 0)=some []by decide)).1
 ·exact(UL (show spF (spL Qi.bks 1)=some [⟨1,3⟩]by decide)).1
 ·exact(UL (show spF (spL Qi.bks 2)=some []by decide)).1
 ·omega
theorem Ypa:QQ Qi=0:=by
 unfold QQ
 rw[if_neg (by
  unfold ZV;simp only[List.any_eq_true,not_exists,not_and,List.mem_range];intro c A
  rw[QOb c A];simp),show Qi.ship.legs.toNat=3 from rfl,XBa,if_neg (by decide),UFa,UEa,show([9]:List Int).length=1 from rfl,QJb]
 rfl
theorem QAa:Qp Qi=0:=by
 unfold Qp;rw[show ZJ Qi.ship=0 from Vha,if_neg (by simp),show Zq Qi.fares Qi.ship.cats.length Qi.ship.legs=0 from Uub,if_neg (by simp),if_neg (by decide),QLb,if_neg (by simp),Ypa]
 rfl
theorem Yoa:V4a [⟨1,3⟩] 3=[⟨0,1⟩]:=by decide
theorem QNb {b:Bkg}(D:QZ.souls < mx (QM (XM Qi.bks b) 3)):(Qp (QN Qi b) == 0)=false:=by
 have h:Qp (QN Qi b)≠0:=by
  unfold Qp
  rw[show ZJ (QN Qi b).ship=0 from Vha,if_neg (by simp),show Zq (QN Qi b).fares (QN Qi b).ship.cats.length (QN Qi b).ship.legs=0 from Uub,if_neg (by simp),if_neg (by
   show ¬(Qc Qi.day 0 9999 && Qc Qi.leaves 0 9999)=false
   decide)]
  by_cases h1:Vc (QN Qi b)=0
  ·rw[h1,if_neg (by simp)]
   unfold QQ
   by_cases h2:ZV (QN Qi b)=true
   ·rw[if_pos h2];decide
   ·have A:(QN Qi b).ship.souls < mx (QM (QN Qi b).bks (QN Qi b).ship.legs.toNat):=D
    rw[if_neg h2,if_pos A];decide
  ·rw[if_pos h1];exact h1
 simpa using h
def Xp (g:Int):Bkg:=⟨10,2,1,g,false,-1,0,0,3,4,[]⟩
theorem Q3b {g:Int}(h:ofE QZ (Xp g)=0):Y5 Qi (Xp g)=0:=by
 unfold Y5
 rw[QAa,if_neg (by simp),show ofE Qi.ship (Xp g)=0 from h,if_neg (by simp),if_neg (by
  show ¬ZI [XO,UC] 10=true
  decide)]
theorem XSb {g:Int}(h:ofE QZ (Xp g)=0)(A:QZ.souls < mx (QM (XM Qi.bks (Xp g)) 3)):Zba Qi (Xp g)=false:=by
 unfold Zba;rw[Q3b h,if_neg (by simp),QNb A]
theorem Zdc:Y5 Qi (Xp 2)=0∧Zba Qi (Xp 2)=false:=⟨Q3b (by decide),XSb (by decide) (by decide)⟩
theorem Zec:Y5 Qi (Xp 4)=0∧Zba Qi (Xp 4)=false:=⟨Q3b (by decide),XSb (by decide) (by decide)⟩
theorem YJa {g:Int}(h:InI g):BkIn (Xp g):=⟨.of (by show _≤(10:Int);decide) (by show(10:Int)≤_;decide),.of (by show _≤(2:Int);decide) (by show(2:Int)≤_;decide),.of (by show _≤(1:Int);decide) (by show(1:Int)≤_;decide),h,.of (by show _≤(-1:Int);decide) (by show(-1:Int)≤_;decide),.of (by show _≤(0:Int);decide) (by show(0:Int)≤_;decide),.of (by show _≤(0:Int);decide) (by show(0:Int)≤_;decide),.of (by show _≤(3:Int);decide) (by show(3:Int)≤_;decide),.of (by show _≤(4:Int);decide) (by show(4:Int)≤_;decide)⟩
theorem Yna:YGa Qi 1=0:=by
 unfold YGa;rw[QAa,if_neg (by simp),if_neg (by decide)]
theorem Yx (w:World):Calls Tryz.prog 12 #[] w fun e w'=>e=.returned (.bool true)∧yw w w':=by
 have an:=fun p W h=>Xra Qi p W h
 have am:=fun p W h=>VDa Qi p 1 W h
 have aj:=fun p W h=>VJa Qi p (Xp 2) none 0 0 W h (Sl.nil _ _ _ _) (YJa (.of (by decide) (by decide)))
 have ak:=fun p W h=>VJa Qi p (Xp 4) none 0 0 W h (Sl.nil _ _ _ _) (YJa (.of (by decide) (by decide)))
 have al:=fun p W h=>Q8 Qi p W h
 simp only[QAa,QG,UFa,UEa]at an;simp only[Yna,QG,show YB Qi.bks 1=[⟨1,3⟩]from Yqa,show V4a [⟨1,3⟩] Qi.ship.legs=[⟨0,1⟩]from Yoa]at am;rw[Zdc.1,Zdc.2]at aj;rw[Zec.1,Zec.2]at ak;rw[QAa]at al;have ay:=yh an;clear an;have ax:=yh am;clear am;have au:=yh aj;clear aj;have av:=yh ak;clear ak;have aw:=yh al;clear al
 go_enter Tryz.func12,Tryz.ntmps12
 go_wp2_with fail
 refine(VB _).mono ?_;rintro e w1 ⟨p1,rfl,hS,D⟩
 go_wp2_with fail
 refine(ay.out p1 _ hS).mono ?_;rintro e w2 ⟨v1,v2,aK,aL,rfl,Q,U,A⟩;obtain⟨A1,n1,c1,rfl,_⟩:=Q.sl Qb;obtain⟨A2,n2,c2,rfl,_⟩:=U.sl Qx;replace D:=D.trans (A.mono D.size);clear A hS
 go_wp2_with fail
 refine(VB _).mono ?_;rintro e w3 ⟨p3,rfl,hS,A⟩;replace Q:=Q.bel A;replace U:=U.bel A;replace D:=D.trans (A.mono D.size);clear A
 go_wp2_with fail
 refine(ax.out p3 _ hS).mono ?_;rintro e w4 ⟨v3,aM,rfl,Z,A⟩;obtain⟨A3,n3,c3,rfl,_⟩:=Z.sl Ql;replace Q:=Q.bel A;replace U:=U.bel A;replace D:=D.trans (A.mono D.size);clear A hS
 go_wp2_with fail
 refine(YY _).mono ?_;rintro e w5 ⟨rfl,A⟩;replace Q:=Q.bel A;replace U:=U.bel A;replace Z:=Z.bel A;replace D:=D.trans (A.mono D.size);clear A
 go_upto_region 4 with(fail)
 go_cut [6] (fun p wx=>∃h,p=.pointer (some ⟨h,0,none⟩)∧w5.heap.size≤h∧Blk wx h #[.int .i64 10,.int .i64 2,.int .i64 1,.int .i64 2,.bool false,.int .i64 (-1),.int .i64 0,.int .i64 0,.int .i64 3,.int .i64 4,.slice none 0 0] 63∧yw w5 wx)
 case first=>as_aux_lemma=>
  go_wp2_with fail
  go_meet
  exact⟨_,rfl,Nat.le_refl _,Za _ _,Qf _ _⟩
 obtain⟨h,rfl,hh,J,A⟩:=hcut
 have ap:=fun k hk=>(Q.lt k hk).2
 have aq:=fun k hk=>(U.lt k hk).2
 have ar:=fun k hk=>(Z.lt k hk).2
 replace Q:=Q.bel A;replace U:=U.bel A;replace Z:=Z.bel A;have aG:=D.size;replace D:=D.trans (A.mono D.size);clear A;have HN:=yh (show(Value.slice A1 n1 c1).ownBlock≠some h∧(Value.slice A2 n2 c2).ownBlock≠some h∧(Value.slice A3 n3 c3).ownBlock≠some h from⟨fun e=>by have:=ap h e;omega,fun e=>by have:=aq h e;omega,fun e=>by have:=ar h e;omega⟩);clear ap aq ar;obtain⟨W6,az⟩:∃V,V=wc:=⟨_,rfl⟩;subst az;have aa:=yh (show ∀X,yw W6 X→(fun w'=>yI w' h 0 10∧yI w' h 1 2∧yI w' h 2 1∧yI w' h 3 2∧w'.cell? ⟨h,4,none⟩=some (.bool false)∧yI w' h 5 (-1)∧yI w' h 6 0∧yI w' h 7 0∧yI w' h 8 3∧yI w' h 9 4∧yJ w' h 10 none 0 0) X from fun X F=>⟨(J.bel F).cell rfl,(J.bel F).cell rfl,(J.bel F).cell rfl,(J.bel F).cell rfl,(J.bel F).cell rfl,(J.bel F).cell rfl,(J.bel F).cell rfl,(J.bel F).cell rfl,(J.bel F).cell rfl,(J.bel F).cell rfl,(J.bel F).cell rfl⟩);have ag:=yh Q;clear Q;have ah:=yh U;clear U;have ai:=yh Z;clear Z;have HB:=yh D;clear D;have HH:=yh J;clear J;have E:yw W6 W6.drew:=(Below.refl _ W6).drew
 go_upto_region 5 with(fail)
 refine wp_region_held_drew (S:=(fun w'=>yI w' h 0 10∧yI w' h 1 2∧yI w' h 2 1∧yI w' h 3 2∧w'.cell? ⟨h,4,none⟩=some (.bool false)∧yI w' h 5 (-1)∧yI w' h 6 0∧yI w' h 7 0∧yI w' h 8 3∧yI w' h 9 4∧yJ w' h 10 none 0 0)) (by kernel_rfl) (aa.out _ E) (fun ad=>?_);refine yT [1] (by kernel_rfl) (by assumption) ?_
 iterate 1 (refine yS (v:=?_) (gA rfl) (fun _ _ _ h=>h) rfl ?_ ?_;rotate_left;(focus (intro w ae;(try dsimp only at ae);go_simp<;>with_reducible rfl));simp only[yP,yA,yB,yC])
 refine yR 0 (by kernel_rfl) (gA rfl) fun K hK=>?_
 go_simp
 (go_at_call 62;refine(VB _).mono ?_;rintro e w7 ⟨p7,rfl,hS,A⟩;replace E:=E.trans (A.mono E.size);clear A)
 go_wp2_with fail
 refine hK.out _ _ (aa.out _ E) fun ad=>?_
 clear hK K
 try simp only[yP,yQ,yA,yB,yC]
 refine yR 2 (by kernel_rfl) (gA rfl) fun K hK=>?_
 go_simp
 (go_at_call 64;refine(au.out p7 _ hS).mono ?_;rintro e w8 ⟨rfl,A⟩;replace E:=E.trans (A.mono E.size);clear A hS)
 go_wp2_with fail
 refine hK.out _ _ (aa.out _ E) fun ad=>?_
 clear hK K
 try simp only[yP,yQ,yA,yB,yC]
 refine yT [3,4,5,6,7] (by kernel_rfl) (by assumption) ?_
 iterate 5 (refine yS (v:=?_) (gA rfl) (fun _ _ _ h=>h) rfl ?_ ?_;rotate_left;(focus (intro w ae;(try dsimp only at ae);go_simp<;>with_reducible rfl));simp only[yP,yA,yB,yC])
 refine wpAnyH_done (by kernel_rfl) ?_ _;have J:=HH.out.bel E;have Q:=ag.out.bel E;have U:=ah.out.bel E;have Z:=ai.out.bel E;have D:=HB.out.trans (E.mono HB.out.size);clear ag ah ai HB HH aa E ad;have f3:=J.free 3;have h3:yI w8 h 3 2:=J.cell rfl
 go_upto_region 6 with(fail)
 go_cut [6] (fun p wx=>p=.pointer (some ⟨h,0,none⟩)∧wx=w8.setCell ⟨h,3,none⟩ (.int .i64 4))
 case first=>as_aux_lemma=>
  go_wp2_with fail
  go_meet
  exact⟨rfl,rfl⟩
 obtain⟨rfl,rfl⟩:=hcut;have p1:=QY ZD Q (a:=⟨h,3,none⟩) HN.out.1 (.int .i64 4);have p2:=QY Xk U (a:=⟨h,3,none⟩) HN.out.2.1 (.int .i64 4);have p3:=QY XU Z (a:=⟨h,3,none⟩) HN.out.2.2 (.int .i64 4);have p4:Blk (w8.setCell ⟨h,3,none⟩ (.int .i64 4)) h #[.int .i64 10,.int .i64 2,.int .i64 1,.int .i64 4,.bool false,.int .i64 (-1),.int .i64 0,.int .i64 0,.int .i64 3,.int .i64 4,.slice none 0 0] 63:=J.set (j:=3) (.int .i64 4);have p5:=D.trans (((Kept.refl (fun k=>k=h) w8).setCell (p:=⟨h,3,none⟩) (.inl rfl) (.int .i64 4)).below (B:=w.heap.size) D.size (fun k hk e=>by omega));clear f3 h3 J Q U Z D;obtain⟨W9,ao⟩:∃V,V=w8.setCell ⟨h,3,none⟩ (.int .i64 4):=⟨_,rfl⟩;rw[←ao]at p1 p2 p3 p4 p5 ⊢;clear ao;have aa:=yh (show ∀X,yw W9 X→(fun w'=>yI w' h 0 10∧yI w' h 1 2∧yI w' h 2 1∧yI w' h 3 4∧w'.cell? ⟨h,4,none⟩=some (.bool false)∧yI w' h 5 (-1)∧yI w' h 6 0∧yI w' h 7 0∧yI w' h 8 3∧yI w' h 9 4∧yJ w' h 10 none 0 0) X from fun X F=>⟨(p4.bel F).cell rfl,(p4.bel F).cell rfl,(p4.bel F).cell rfl,(p4.bel F).cell rfl,(p4.bel F).cell rfl,(p4.bel F).cell rfl,(p4.bel F).cell rfl,(p4.bel F).cell rfl,(p4.bel F).cell rfl,(p4.bel F).cell rfl,(p4.bel F).cell rfl⟩);have ag:=yh p1;clear p1;have ah:=yh p2;clear p2;have ai:=yh p3;clear p3;have HB:=yh p5;clear p5;clear p4;have E:yw W9 W9.drew:=(Below.refl _ W9).drew
 go_upto_region 7 with(fail)
 refine wp_region_held_drew (S:=(fun w'=>yI w' h 0 10∧yI w' h 1 2∧yI w' h 2 1∧yI w' h 3 4∧w'.cell? ⟨h,4,none⟩=some (.bool false)∧yI w' h 5 (-1)∧yI w' h 6 0∧yI w' h 7 0∧yI w' h 8 3∧yI w' h 9 4∧yJ w' h 10 none 0 0)) (by kernel_rfl) (aa.out _ E) (fun ad=>?_);refine yT [1] (by kernel_rfl) (by assumption) ?_
 iterate 1 (refine yS (v:=?_) (gA rfl) (fun _ _ _ h=>h) rfl ?_ ?_;rotate_left;(focus (intro w ae;(try dsimp only at ae);go_simp<;>with_reducible rfl));simp only[yP,yA,yB,yC])
 refine yR 0 (by kernel_rfl) (gA rfl) fun K hK=>?_
 go_simp
 (go_at_call 62;refine(VB _).mono ?_;rintro e aH ⟨aA,rfl,hS,A⟩;replace E:=E.trans (A.mono E.size);clear A)
 go_wp2_with fail
 refine hK.out _ _ (aa.out _ E) fun ad=>?_
 clear hK K
 try simp only[yP,yQ,yA,yB,yC]
 refine yR 2 (by kernel_rfl) (gA rfl) fun K hK=>?_
 go_simp
 (go_at_call 64;refine(av.out aA _ hS).mono ?_;rintro e aI ⟨rfl,A⟩;replace E:=E.trans (A.mono E.size);clear A hS)
 go_wp2_with fail
 refine hK.out _ _ (aa.out _ E) fun ad=>?_
 clear hK K
 try simp only[yP,yQ,yA,yB,yC]
 refine yT [3,4,5,6,7] (by kernel_rfl) (by assumption) ?_
 iterate 5 (refine yS (v:=?_) (gA rfl) (fun _ _ _ h=>h) rfl ?_ ?_;rotate_left;(focus (intro w ae;(try dsimp only at ae);go_simp<;>with_reducible rfl));simp only[yP,yA,yB,yC])
 refine wpAnyH_done (by kernel_rfl) ?_ _;have Y:=ag.out.bel E;have O:=ah.out.bel E;have I:=ai.out.bel E;have D:=HB.out.trans (E.mono HB.out.size);clear ag ah ai HB aa E ad;obtain⟨_,_,_,hv,Y⟩:=Y.sl Qb;simp only[Value.slice.injEq]at hv;obtain⟨rfl,rfl,rfl⟩:=hv;obtain⟨_,_,_,hv,O⟩:=O.sl Qx;simp only[Value.slice.injEq]at hv;obtain⟨rfl,rfl,rfl⟩:=hv;obtain⟨_,_,_,hv,I⟩:=I.sl Ql;simp only[Value.slice.injEq]at hv;obtain⟨rfl,rfl,rfl⟩:=hv;replace Y:=Y.all Qb (by omega);replace O:=O.all Qx (by omega);replace I:=I.all Ql (by omega)
 go_wp2_with fail
 refine(VB _).mono ?_;rintro e aJ ⟨aB,rfl,hS,A⟩;replace Y:=Y.bel A;replace O:=O.bel A;replace I:=I.bel A;replace D:=D.trans (A.mono D.size);clear A
 go_wp2_with fail
 refine(aw.out aB _ hS).mono ?_;rintro e ab ⟨rfl,A⟩;replace Y:=Y.bel A;replace O:=O.bel A;replace I:=I.bel A;replace D:=D.trans (A.mono D.size);clear A hS
 go_wp2_with fail
 have q1:Sl QL 1 (ab.alloc (.cells #[.int .i64 9] 3)) All (some ⟨ab.heap.size,0,none⟩) 1 1 [9]:=Sl.ofInts [9] (Blk.new ab _ _) (by decide) trivial (by decide);replace Y:=Y.bel (Qf ab (.cells #[.int .i64 9] 3));replace O:=O.bel (Qf ab (.cells #[.int .i64 9] 3));replace I:=I.bel (Qf ab (.cells #[.int .i64 9] 3));replace D:=D.alloc D.size (.cells #[.int .i64 9] 3);refine(XA _ _ _ _ _ _ [9] [9] _ Y q1).mono ?_;rintro e ac ⟨rfl,k,hk⟩
 have A:Below (ab.alloc (.cells #[.int .i64 9] 3)).heap.size (ab.alloc (.cells #[.int .i64 9] 3)) ac:=by rw[hk];exact below_drewN (Below.refl _ _) _
 replace O:=O.bel A;replace I:=I.bel A;replace D:=D.trans (A.mono D.size);clear A q1 Y hk
 have aD:decide (([9]:List Int)=[9])=true:=by decide
 go_wp2_with fail
 have q1:Sl UM 2 (ac.alloc (.cells #[.int .i64 0,.int .i64 0,.int .i64 0,.int .i64 2] 94)) All (some ⟨ac.heap.size,0,none⟩) 2 2 [⟨0,0⟩,⟨0,2⟩]:=Sl.ofEdgs [⟨0,0⟩,⟨0,2⟩] (Blk.new ac _ _) (by decide) trivial rfl (fun x hx=>by simp only[List.mem_cons,List.not_mem_nil,or_false]at hx;rcases hx with rfl | rfl<;>exact⟨.of (by decide) (by decide),.of (by decide) (by decide)⟩);replace O:=O.bel (Qf ac (.cells #[.int .i64 0,.int .i64 0,.int .i64 0,.int .i64 2] 94));replace I:=I.bel (Qf ac (.cells #[.int .i64 0,.int .i64 0,.int .i64 0,.int .i64 2] 94));replace D:=D.alloc D.size (.cells #[.int .i64 0,.int .i64 0,.int .i64 0,.int .i64 2] 94);refine(Voa _ _ _ _ _ _ [⟨0,0⟩,⟨0,2⟩] [⟨0,0⟩,⟨0,2⟩] _ O q1).mono ?_;rintro e af ⟨rfl,k,hk⟩
 have A:Below (ac.alloc (.cells #[.int .i64 0,.int .i64 0,.int .i64 0,.int .i64 2] 94)).heap.size (ac.alloc (.cells #[.int .i64 0,.int .i64 0,.int .i64 0,.int .i64 2] 94)) af:=by rw[hk];exact below_drewN (Below.refl _ _) _
 replace I:=I.bel A;replace D:=D.trans (A.mono D.size);clear A q1 O hk
 have aE:decide (([⟨0,0⟩,⟨0,2⟩]:List Edg)=[⟨0,0⟩,⟨0,2⟩])=true:=by decide
 go_wp2_with fail
 have q1:Sl Ug 2 (af.alloc (.cells #[.int .i64 0,.int .i64 1] 51)) All (some ⟨af.heap.size,0,none⟩) 1 1 [⟨0,1⟩]:=Sl.ofSpans [⟨0,1⟩] (Blk.new af _ _) (by decide) trivial rfl (fun x hx=>by simp only[List.mem_singleton]at hx;subst hx;exact⟨.of (by decide) (by decide),.of (by decide) (by decide)⟩);replace I:=I.bel (Qf af (.cells #[.int .i64 0,.int .i64 1] 51));replace D:=D.alloc D.size (.cells #[.int .i64 0,.int .i64 1] 51);refine(Vqa _ _ _ _ _ _ [⟨0,1⟩] [⟨0,1⟩] _ I q1).mono ?_;rintro e aC ⟨rfl,k,hk⟩
 have A:Below (af.alloc (.cells #[.int .i64 0,.int .i64 1] 51)).heap.size (af.alloc (.cells #[.int .i64 0,.int .i64 1] 51)) aC:=by rw[hk];exact below_drewN (Below.refl _ _) _
 replace D:=D.trans (A.mono D.size);clear A q1 I hk
 have aF:decide (([⟨0,1⟩]:List Span)=[⟨0,1⟩])=true:=by decide
 go_wp2_with fail
 go_ret
 exact⟨rfl,D⟩
theorem UJa {f:Nat→Int}{k:Nat}(h:Qh f k≠0):∀{n:Nat},k≤n→Qh f n=Qh f k
 | 0,hn=>by(obtain rfl:k=0:=by omega);(rfl)
 | n+1,hn=>by
  by_cases e:k=n+1
  ·rw[e]
  ·have A:=UJa (f:=f) h (n:=n) (by omega)
   show(if Qh f n≠0 then Qh f n else f n)=_
   rw[A,if_pos h]
theorem VP {f:Nat→Int}{k:Nat}{b:Int}(A:Qh f k=0)(D:f k=b):Qh f (k+1)=b:=by
 unfold Qh;rw[if_neg (by simpa using A),D]
theorem Xc (x:Sai)(p:SaiV)(w:World)(h:SaiR w x p) :
  Calls Tryz.prog 13 #[.agg (Qa x p)] w fun e w'=>e=.returned (.int .i64 (Qp x))∧yw w w':=by
 have bm:=yh (fun W h (O:OkBs x)=>Qwb x p W h O.ship O.bk O.len);have HS:=yh h;obtain⟨A,n,cap,B,m,ah,D,nd,cd,E,ne,ce,C,I,cb⟩:=p;have hl:Sl Vb 11 w All C I cb x.bks:=h.bks;have hc:Sl Um 2 w All A n cap x.ship.cats:=h.cats;have hd:Sl ZW 4 w All B m ah x.ship.cabs:=h.cabs;have hf:FareR w D nd cd x.fares E ne ce:=h.fares;have b3:=hl.bd;have bK:=yh (fun b A3 n3 c3 W Z Y ho h3=>QYa x.ship A n cap B m ah b A3 n3 c3 W Z Y ho h3);obtain⟨r,V⟩:∃r,r=Qp x:=⟨_,rfl⟩;rw[←V]
 have a3:=fun W Z Y=>Vja x.ship A n cap B m ah W Z Y
 have aX:=fun W Z=>Z6a D nd cd x.fares E ne ce (n:Int) x.ship.legs W Z
 obtain⟨se,ax⟩:∃q,q=ZJ x.ship:=⟨_,rfl⟩;obtain⟨fe,aY⟩:∃q,q=Zq x.fares (n:Int) x.ship.legs:=⟨_,rfl⟩;obtain⟨fl,au⟩:∃q,q=Qh (Ua x) I:=⟨_,rfl⟩;obtain⟨an,aS⟩:∃q,q=x.bks.any (UG x.closed):=⟨_,rfl⟩;obtain⟨re,aZ⟩:∃q,q=QQ x:=⟨_,rfl⟩;obtain⟨d1,aV⟩:∃q,q=Qc x.day 0 9999:=⟨_,rfl⟩;obtain⟨d2,aW⟩:∃q,q=Qc x.leaves 0 9999:=⟨_,rfl⟩;obtain⟨be,ar⟩:∃q,q=Vc x:=⟨_,rfl⟩;have az:=yh (show be=if 16 < I then 2 else if fl≠0 then fl else if an=true then 4 else 0 by rw[ar,au,aS,←hl.len];rfl);have HR:=yh (show r=if se≠0 then se else if fe≠0 then fe else if (d1 && d2)=false then 3 else if be≠0 then be else if re=8 then 2 else re by rw[V,ax,aY,ar,aZ,aV,aW,←hc.len];rfl)
 have a7:=fun W=>Qk x.day 0 9999 W
 have a8:=fun W=>Qk x.leaves 0 9999 W
 rw[←aV]at a7;rw[←aW]at a8;rw[←ax]at a3;rw[←aY]at aX;rw[←aZ]at bm;have bo:=yh a3;clear a3;have bg:=yh aX;clear aX;have bs:=yh a7;clear a7;have bt:=yh a8;clear a8;have bp:=yh ax;clear ax;have bJ:=yh ar;clear ar;have aC:=yh au;clear au;have bb:=yh aS;clear aS;have HN:=yh hl.len;have HC:=yh hc;have HD:=yh hd;have HF:=yh hf;have HL:=yh hl;clear h hc hd hf V aY aZ aV aW hl
 go_enter Tryz.func13,Tryz.ntmps13
 go_upto_region 0 with(fail)
 go_cut [1,2] (fun q _ wx=>∃g,q=.pointer (some ⟨g,0,none⟩)∧Blk wx g (Qa x ⟨A,n,cap,B,m,ah,D,nd,cd,E,ne,ce,C,I,cb⟩) 32∧yw w wx)
 case first=>as_aux_lemma=>
  go_wp2_with fail
  go_meet
  exact⟨_,rfl,Za _ _,Qf _ _⟩
 obtain⟨g,rfl,hG,cc⟩:=hcut;have s0:yI wc g 0 x.ship.legs:=hG.cell rfl;have s1:yI wc g 1 x.ship.souls:=hG.cell rfl;have s2:yJ wc g 2 A n cap:=hG.cell rfl;have s3:yJ wc g 3 B m ah:=hG.cell rfl;have s4:yJ wc g 4 D nd cd:=hG.cell rfl;have s5:yI wc g 5 x.fares.alone:=hG.cell rfl;have s6:yI wc g 6 x.fares.third:=hG.cell rfl;have s7:yJ wc g 7 E ne ce:=hG.cell rfl;have s8:yI wc g 8 x.fares.down:=hG.cell rfl;have s9:yI wc g 9 x.day:=hG.cell rfl;have ay:yI wc g 10 x.leaves:=hG.cell rfl;have ac:yJ wc g 11 C I cb:=hG.cell rfl;have av:wc.cell? ⟨g,12,none⟩=some (.bool x.closed):=hG.cell rfl;have ai:=yh (bo.out wc (HC.out.bel cc) (HD.out.bel cc))
 go_wp2_with fail
 refine ai.out.mono ?_;rintro e w2 ⟨rfl,aU⟩;replace hG:=hG.bel aU;replace cc:=cc.trans (aU.mono cc.size);clear aU s0 s1 s2 s3 s4 s5 s6 s7 s8 s9 ay ac av ai bo
 obtain⟨e1,bx⟩:∃q,q=if se≠0 then se else fe:=⟨_,rfl⟩
 have aA:=yh bx;clear bx
 go_upto_if 11 with(fail)
 obtain⟨W2,aR⟩:∃W,W=w2:=⟨_,rfl⟩;subst aR
 go_cut [3] (fun q wx=>q=.int .i64 e1∧yw W2 wx)
 case first=>as_aux_lemma=>
  by_cases h0:se=0
  ·obtain rfl:e1=fe:=by rw[aA.out,if_neg (by rw[h0];simp)]
   subst h0;have s0:yI W2 g 0 x.ship.legs:=hG.cell rfl;have s1:yI W2 g 1 x.ship.souls:=hG.cell rfl;have s2:yJ W2 g 2 A n cap:=hG.cell rfl;have s3:yJ W2 g 3 B m ah:=hG.cell rfl;have s4:yJ W2 g 4 D nd cd:=hG.cell rfl;have s5:yI W2 g 5 x.fares.alone:=hG.cell rfl;have s6:yI W2 g 6 x.fares.third:=hG.cell rfl;have s7:yJ W2 g 7 E ne ce:=hG.cell rfl;have s8:yI W2 g 8 x.fares.down:=hG.cell rfl;have s9:yI W2 g 9 x.day:=hG.cell rfl;have ay:yI W2 g 10 x.leaves:=hG.cell rfl;have ac:yJ W2 g 11 C I cb:=hG.cell rfl;have av:W2.cell? ⟨g,12,none⟩=some (.bool x.closed):=hG.cell rfl;have ai:=yh (bg.out W2 (HF.out.below cc));clear hG cc
   go_wp2_with fail
   refine ai.out.mono ?_;rintro e w3 ⟨rfl,ap⟩
   go_wp2_with fail
   go_meet
   exact⟨rfl,ap⟩
  ·obtain rfl:e1=se:=by rw[aA.out,if_pos h0]
   have aK:(e1 == 0)=false:=by simpa using h0
   clear h0 hG cc
   go_wp2_with fail
   go_meet
   exact⟨rfl,Below.refl _ _⟩
 obtain⟨rfl,ap⟩:=hcut;replace hG:=hG.bel ap;replace cc:=cc.trans (ap.mono cc.size);clear ap bg
 obtain⟨e2,bz⟩:∃q,q=if e1≠0 then e1 else if (d1 && d2)=false then 3 else 0:=⟨_,rfl⟩
 have aG:=yh bz;clear bz;obtain⟨tv,a5⟩:∃q,q=(decide (e1=0) && !(d1 && d2)):=⟨_,rfl⟩
 have ch:=yh (show e2=if tv=true then 3 else e1 by
  rw[aG.out,a5]
  by_cases h0:e1=0
  ·rw[if_neg (by rw[h0];simp),decide_eq_true h0]
   cases hd:(d1 && d2)<;>simp[h0]
  ·rw[if_pos h0,decide_eq_false h0];simp)
 have bq:=yh a5;clear a5
 go_upto_region 4 with(fail)
 obtain⟨W3,bR⟩:∃W,W=wc:=⟨_,rfl⟩;subst bR
 go_cut [35] (fun q wx=>q=.bool tv∧W3=wx)
 case first=>as_aux_lemma=>
  by_cases h0:e1=0
  ·have ao:=yh (show tv = !(d1 && d2)by rw[bq.out,decide_eq_true h0];rfl)
   subst h0;have s9:yI W3 g 9 x.day:=hG.cell rfl;have ay:yI W3 g 10 x.leaves:=hG.cell rfl;clear hG cc
   go_wp2_with fail
   refine(bs.out _).mono ?_;rintro e w9 ⟨rfl,rfl⟩
   cases d1
   ·obtain rfl:tv=true:=ao.out
    go_wp2_with fail
    go_meet
    exact⟨rfl,rfl⟩
   go_wp2_with fail
   refine(bt.out _).mono ?_;rintro e w9 ⟨rfl,rfl⟩
   cases d2
   ·obtain rfl:tv=true:=ao.out
    go_wp2_with fail
    go_meet
    exact⟨rfl,rfl⟩
   ·obtain rfl:tv=false:=ao.out
    go_wp2_with fail
    go_meet
    exact⟨rfl,rfl⟩
  ·obtain rfl:tv=false:=by rw[bq.out,decide_eq_false h0];rfl
   have aK:(e1 == 0)=false:=by simpa using h0
   clear h0 hG cc
   go_wp2_with fail
   go_meet
   exact⟨rfl,rfl⟩
 obtain⟨rfl,a9⟩:=hcut;subst a9
 go_upto_if 35 with(fail)
 go_cut [3] (fun q wx=>q=.int .i64 e2∧W3=wx)
 case first=>as_aux_lemma=>
  cases tv
  ·obtain rfl:e2=e1:=ch.out
   clear hG cc
   go_wp2_with fail
   go_meet
   exact⟨rfl,rfl⟩
  ·obtain rfl:e2=3:=ch.out
   clear hG cc
   go_wp2_with fail
   go_meet
   exact⟨rfl,rfl⟩
 obtain⟨rfl,a9⟩:=hcut;subst a9;clear bs bt
 obtain⟨J,bA⟩:∃q,q=if e2≠0 then e2 else if 16 < I then 2 else 0:=⟨_,rfl⟩
 have ao:=yh bA;clear bA;obtain⟨tw,a6⟩:∃q,q=(decide (e2=0) && decide (16 < I)):=⟨_,rfl⟩
 have bf:=yh (show J=if tw=true then 2 else e2 by
  rw[ao.out,a6]
  by_cases h0:e2=0
  ·rw[if_neg (by rw[h0];simp),decide_eq_true h0]
   by_cases cf:16 < I
   ·rw[if_pos cf,decide_eq_true cf];rfl
   ·rw[if_neg cf,decide_eq_false cf];simp[h0]
  ·rw[if_pos h0,decide_eq_false h0];simp)
 have br:=yh a6;clear a6
 go_upto_region 6 with(fail)
 obtain⟨W4,bS⟩:∃W,W=W3:=⟨_,rfl⟩;subst bS
 go_cut [43] (fun q wx=>q=.bool tw∧W4=wx)
 case first=>as_aux_lemma=>
  by_cases h0:e2=0
  ·have aq:=yh (show tw=decide (16 < I)by rw[br.out,decide_eq_true h0];rfl)
   subst h0;have ac:yJ W4 g 11 C I cb:=hG.cell rfl;clear hG cc
   by_cases cf:16 < I
   ·obtain rfl:tw=true:=by rw[aq.out,decide_eq_true cf]
    have hd:decide (16 < (I:Int))=true:=decide_eq_true (by omega);clear cf
    go_wp2_with fail
    go_meet
    exact⟨rfl,rfl⟩
   ·obtain rfl:tw=false:=by rw[aq.out,decide_eq_false cf]
    have hd:decide (16 < (I:Int))=false:=decide_eq_false (by omega);clear cf
    go_wp2_with fail
    go_meet
    exact⟨rfl,rfl⟩
  ·obtain rfl:tw=false:=by rw[br.out,decide_eq_false h0];rfl
   have aK:(e2 == 0)=false:=by simpa using h0
   clear h0 hG cc
   go_wp2_with fail
   go_meet
   exact⟨rfl,rfl⟩
 obtain⟨rfl,ba⟩:=hcut;subst ba
 go_upto_if 43 with(fail)
 go_cut [3] (fun q wx=>q=.int .i64 J∧W4=wx)
 case first=>as_aux_lemma=>
  cases tw
  ·obtain rfl:J=e2:=bf.out
   clear hG cc
   go_wp2_with fail
   go_meet
   exact⟨rfl,rfl⟩
  ·obtain rfl:J=2:=bf.out
   clear hG cc
   go_wp2_with fail
   go_meet
   exact⟨rfl,rfl⟩
 obtain⟨rfl,ba⟩:=hcut;subst ba
 have HZ:=yh (show J=0→se=0∧¬16 < I∧r=if be≠0 then be else if re=8 then 2 else re from fun h=>by
  have h3:=ao.out;have Y:=aG.out;have Z:=aA.out;have V:=HR.out
  by_cases a2:e2=0
  rotate_left
  ·rw[if_pos a2]at h3;omega
  rw[if_neg (by rw[a2];simp)]at h3
  by_cases a1:e1=0
  rotate_left
  ·rw[if_pos a1]at Y;omega
  rw[if_neg (by rw[a1];simp)]at Y
  by_cases a0:se=0
  rotate_left
  ·rw[if_pos a0]at Z;omega
  rw[if_neg (by rw[a0];simp)]at Z V;rw[if_neg (by rw[←Z,a1];simp)]at V;refine⟨a0,fun hc=>by rw[if_pos hc]at h3;omega,?_⟩
  by_cases ad:(d1 && d2)=false
  ·rw[if_pos ad]at Y;omega
  ·rw[if_neg ad]at V;exact V)
 have bh:=yh (show J≠0→r=J from fun h=>by
  have h3:=ao.out;have Y:=aG.out;have Z:=aA.out;have V:=HR.out
  by_cases a0:se=0
  ·rw[if_neg (by rw[a0];simp)]at Z V
   by_cases a1:fe=0
   ·rw[if_neg (by rw[a1];simp)]at V
    rw[if_neg (by rw[Z,a1];simp)]at Y
    by_cases ad:(d1 && d2)=false
    ·rw[if_pos ad]at Y V
     rw[if_pos (by rw[Y];simp)]at h3;rw[V,h3,Y]
    ·rw[if_neg ad]at Y V
     rw[if_neg (by rw[Y];simp)]at h3
     by_cases a16:16 < I
     ·rw[if_pos a16]at h3
      have O:=az.out;rw[if_pos a16]at O;rw[if_pos (by rw[O];simp)]at V;rw[V,O,h3]
     ·rw[if_neg a16]at h3;exact absurd h3 h
   ·rw[if_pos a1]at V
    rw[if_pos (by rw[Z];exact a1)]at Y;rw[if_pos (by rw[Y,Z];exact a1)]at h3;rw[V,h3,Y,Z]
  ·rw[if_pos a0]at Z V
   rw[if_pos (by rw[Z];exact a0)]at Y;rw[if_pos (by rw[Y,Z];exact a0)]at h3;rw[V,h3,Y,Z])
 clear aA aG ao HR;obtain⟨W0,bP⟩:∃W,W=W4:=⟨_,rfl⟩;subst bP;have HG:=yh hG;clear hG;have aF:=yh cc;clear cc
 obtain⟨e4,bB⟩:∃q,q=if J≠0 then J else fl:=⟨_,rfl⟩
 have aq:=yh bB;clear bB;have aB:=yh (show J=0→e4=Qh (Ua x) I from fun h=>by rw[aq.out,if_neg (by rw[h];simp),aC.out]);have aH:=yh (show J≠0→e4=J from fun h=>by rw[aq.out,if_pos h])
 go_upto_block 0 with(fail)
 go_cut [3,4] (fun v _ wx=>v=.int .i64 e4∧yw W0 wx)
 case first=>as_aux_lemma=>
  go_wp2_with fail
  go_loopg [3,4] I (fun gk v i wr=>∃(k:Nat) (f:Int),k≤I∧I - k≤gk∧i=.int .i64 k∧v=.int .i64 f∧Aside (f=if J≠0 then J else Qh (Ua x) k)∧yw W0 wr)
  case atStart=>exact⟨0,J,Nat.zero_le _,by omega,rfl,rfl,(by show J=if J≠0 then J else 0;by_cases h:J=0<;>simp[h]),Below.refl _ _⟩
  case round=>
   obtain⟨k,f,hk,bV,rfl,rfl,HE,O⟩:=hrel;have Q:=aF.out.trans (O.mono aF.out.size);have hG:=HG.out.bel O
   by_cases hlt:k < I
   rotate_left
   ·obtain rfl:k=I:=by omega
    obtain rfl:f=e4:=by
     have hE:f=if J≠0 then J else Qh (Ua x) k:=HE
     rw[hE,aq.out,aC.out]
    have ac:yJ wr g 11 C k cb:=hG.cell rfl;clear hG
    go_wp2_with fail
    go_meet
    exact⟨rfl,O⟩
   by_cases hf0:f=0
   rotate_left
   ·obtain rfl:f=e4:=by
     have hE:f=if J≠0 then J else Qh (Ua x) k:=HE
     by_cases h3:J=0
     ·rw[if_neg (by rw[h3];simp)]at hE
      rw[aB.out h3,hE,UJa (by rw[←hE];exact hf0) hk]
     ·rw[if_pos h3]at hE
      rw[hE,aH.out h3]
    have ac:yJ wr g 11 C I cb:=hG.cell rfl
    have b4:(f == 0)=false:=by simpa using hf0
    clear hG hf0
    go_wp2_with fail
    go_meet
    exact⟨rfl,O⟩
   have aj:=yh (show J=0∧Qh (Ua x) k=0 from by
    have hE:f=if J≠0 then J else Qh (Ua x) k:=HE
    by_cases h3:J=0
    ·rw[if_neg (by rw[h3];simp)]at hE
     exact⟨h3,by rw[←hE];exact hf0⟩
    ·rw[if_pos h3]at hE
     exact absurd (by rw[←hE];exact hf0) h3)
   subst hf0;clear HE;obtain⟨ab,F,⟨id,ae,af,am,lev,aa,ak,al,upto,cg,aD⟩,A3,n3,c3,hA,hx,hF,hI,U⟩:=(HL.out.bel Q).bkg hlt;subst hA;simp only at hF;have y0:yI wr ab (F+k*11) id:=U 0 _ rfl;have y1:yI wr ab (F+k*11+1) ae:=U 1 _ rfl;have y2:yI wr ab (F+k*11+2) af:=U 2 _ rfl;have y3:yI wr ab (F+k*11+3) am:=U 3 _ rfl;have y4:wr.cell? ⟨ab,F+k*11+4,none⟩=some (.bool lev):=U 4 _ rfl;have y5:yI wr ab (F+k*11+5) aa:=U 5 _ rfl;have y6:yI wr ab (F+k*11+6) ak:=U 6 _ rfl;have y7:yI wr ab (F+k*11+7) al:=U 7 _ rfl;have y8:yI wr ab (F+k*11+8) upto:=U 8 _ rfl;have y9:yI wr ab (F+k*11+9) cg:=U 9 _ rfl;have aM:yJ wr ab (F+k*11+10) A3 n3 c3:=U 10 _ rfl;clear U;have s0:yI wr g 0 x.ship.legs:=hG.cell rfl;have s1:yI wr g 1 x.ship.souls:=hG.cell rfl;have s2:yJ wr g 2 A n cap:=hG.cell rfl;have s3:yJ wr g 3 B m ah:=hG.cell rfl;have s4:yJ wr g 4 D nd cd:=hG.cell rfl;have s5:yI wr g 5 x.fares.alone:=hG.cell rfl;have s6:yI wr g 6 x.fares.third:=hG.cell rfl;have s7:yJ wr g 7 E ne ce:=hG.cell rfl;have s8:yI wr g 8 x.fares.down:=hG.cell rfl;have s9:yI wr g 9 x.day:=hG.cell rfl;have ay:yI wr g 10 x.leaves:=hG.cell rfl;have ac:yJ wr g 11 (some ⟨ab,F,none⟩) I cb:=hG.cell rfl;have av:wr.cell? ⟨g,12,none⟩=some (.bool x.closed):=hG.cell rfl;have aP:=yh (show ∀X,yw wr X→(fun w'=>yI w' g 0 x.ship.legs∧yI w' g 1 x.ship.souls∧yJ w' g 2 A n cap∧yJ w' g 3 B m ah∧yJ w' g 11 (some ⟨ab,F,none⟩) I cb∧yI w' ab (F+k*11) id∧yI w' ab (F+k*11+1) ae∧yI w' ab (F+k*11+2) af∧yI w' ab (F+k*11+3) am∧w'.cell? ⟨ab,F+k*11+4,none⟩=some (.bool lev)∧yI w' ab (F+k*11+5) aa∧yI w' ab (F+k*11+6) ak∧yI w' ab (F+k*11+7) al∧yI w' ab (F+k*11+8) upto∧yI w' ab (F+k*11+9) cg∧yJ w' ab (F+k*11+10) A3 n3 c3) X from fun X hX=>⟨Qg hX s0,Qg hX s1,Qg hX s2,Qg hX s3,Qg hX ac,Qg hX y0,Qg hX y1,Qg hX y2,Qg hX y3,Qg hX y4,Qg hX y5,Qg hX y6,Qg hX y7,Qg hX y8,Qg hX y9,Qg hX aM⟩);clear s0 s1 s2 s3 s4 s5 s6 s7 s8 s9 ay y0 y1 y2 y3 y4 y5 y6 y7 y8 y9 aM;obtain⟨q,hq⟩:∃q,q=ofE x.ship ⟨id,ae,af,am,lev,aa,ak,al,upto,cg,aD⟩:=⟨_,rfl⟩;have bD:=U6a (bp.out.symm.trans (HZ.out aj.out.1).1);have ai:=yh (fun W (hW:yw wr W)=>bK.out ⟨id,ae,af,am,lev,aa,ak,al,upto,cg,aD⟩ A3 n3 c3 W (HC.out.bel (Q.trans (hW.mono Q.size))) (HD.out.bel (Q.trans (hW.mono Q.size))) bD (hF.bel hW));have aT:=XD hx;rw[←hq]at ai aT;have aN:=yh aT;clear aT;have HX:=yh hx;clear hx;have bY:=yh hG;clear hG;have bW:(0:Int)≤(k:Int):=Int.natCast_nonneg _
   have bX:(k:Int) < (I:Int):=by omega
   clear hF hI bD
   go_upto_region 11 with(fail)
   go_cut [3] (fun t wx=>t=.int .i64 q∧yw wr wx)
   case first=>as_aux_lemma=>
    have ag:yw wr wr.drew:=(Below.refl _ wr).drew;clear O Q ac hq;refine wp_region_held_drew (S:=(fun w'=>yI w' g 0 x.ship.legs∧yI w' g 1 x.ship.souls∧yJ w' g 2 A n cap∧yJ w' g 3 B m ah∧yJ w' g 11 (some ⟨ab,F,none⟩) I cb∧yI w' ab (F+k*11) id∧yI w' ab (F+k*11+1) ae∧yI w' ab (F+k*11+2) af∧yI w' ab (F+k*11+3) am∧w'.cell? ⟨ab,F+k*11+4,none⟩=some (.bool lev)∧yI w' ab (F+k*11+5) aa∧yI w' ab (F+k*11+6) ak∧yI w' ab (F+k*11+7) al∧yI w' ab (F+k*11+8) upto∧yI w' ab (F+k*11+9) cg∧yJ w' ab (F+k*11+10) A3 n3 c3)) (by kernel_rfl) (aP.out _ ag) (fun bO=>?_);refine yT [0,1,2,3,4,5,6] (by kernel_rfl) (by assumption) ?_
    iterate 7 (refine yS (v:=?_) (gA rfl) (fun _ _ _ h=>h) rfl ?_ ?_;rotate_left;(focus (intro w aQ;(try dsimp only at aQ);go_simp<;>with_reducible rfl));simp only[yP,yA,yB,yC])
    refine yR 7 (by kernel_rfl) (gA rfl) fun K hK=>?_
    go_simp
    (go_at_call 71;refine(ai.out _ ag).mono ?_;rintro e w3 ⟨rfl,ap⟩;replace ag:=ag.trans (ap.mono ag.size);clear ap)
    go_wp2_with fail
    refine hK.out _ _ (aP.out _ ag) fun bO=>?_
    clear hK K
    try simp only[yP,yQ,yA,yB,yC]
    refine yT [8] (by kernel_rfl) (by assumption) ?_
    iterate 1 (refine yS (v:=?_) (gA rfl) (fun _ _ _ h=>h) rfl ?_ ?_;rotate_left;(focus (intro w aQ;(try dsimp only at aQ);go_simp<;>with_reducible rfl));simp only[yP,yA,yB,yC])
    refine wpAnyH_done (by kernel_rfl) ?_ _
    go_wp2_with fail
    go_meet
    exact⟨rfl,ag⟩
   obtain⟨rfl,aw⟩:=hcut;have ag:=O.trans (aw.mono O.size);clear hq ac
   by_cases hq0:q=0
   rotate_left
   ·have aK:(q == 0)=false:=by simpa using hq0
    have HV:=yh (show q=if J≠0 then J else Qh (Ua x) (k+1)by
     rw[if_neg (by rw[aj.out.1];simp),VP aj.out.2 (by rw[aN.out,if_pos hq0])])
    have HB:=yh ag;clear ag;clear hq0 O aw Q
    go_wp2_with fail
    go_quiet (fail)
    go_wp2_with fail
    go_roundg (I - (k+1))
    case measure=>omega
    case rel=>exact⟨k+1,q,by omega,by omega,by go_num,rfl,HV.out,by first | exact HB.out | exact below_drewN HB.out _ | exact HB.out.drew⟩
   subst hq0;have aE:=yh (aN.out.trans (if_neg (by simp)));obtain⟨-,-,-,-,ac,y0,-⟩:=aP.out _ aw;have HB:=yh ag;clear ag;clear aN
   rcases k with _ | j
   ·have HV:=yh (show(0:Int)=if J≠0 then J else Qh (Ua x) (0+1)by
     rw[if_neg (by rw[aj.out.1];simp),VP aj.out.2 (by rw[aE.out,if_neg (fun h=>absurd h.1 (Nat.lt_irrefl 0))])])
    clear aE O aw Q
    go_wp2_with fail
    go_quiet (fail)
    go_wp2_with fail
    go_roundg (I - 1)
    case measure=>omega
    case rel=>exact⟨1,0,by omega,by omega,by first | rfl | go_num,rfl,HV.out,by first | exact HB.out | exact below_drewN HB.out _ | exact HB.out.drew⟩
   ·obtain⟨bZ,ca,y,A4,n4,c4,bu,hy,_,_,bv⟩:=((HL.out.bel Q).bel aw).bkg (k:=j) (by omega)
    simp only[Option.some.injEq,Addr.mk.injEq,and_true]at bu;obtain⟨rfl,rfl⟩:=bu;have u0:yI wc ab (F+j*11) y.id:=bv 0 _ rfl
    have bC:(x.bks.getD (j+1 - 1) default).id=y.id:=by rw[Nat.add_sub_cancel,List.getD_eq_getElem?_getD,hy];rfl
    have aO:=yh (aE.out);rw[bC]at aO;have hw:IntKind.i64.wrap (j:Int)=j:=IntWalk.i64_in _ (by omega);have b5:(0:Int)≤(j:Int):=Int.natCast_nonneg _
    have b6:(j:Int) < (I:Int):=by omega
    have b7:(0:Int) < (j:Int)+1:=by omega
    have b8:decide ((0:Int) < ((j+1:Nat):Int))=true:=by simp
    clear bv hy bC aE Q O aw
    by_cases hle:id≤y.id
    ·have HV:=yh (show(4:Int)=if J≠0 then J else Qh (Ua x) (j+1+1)by
      rw[if_neg (by rw[aj.out.1];simp),VP aj.out.2 (by rw[aO.out,if_pos ⟨Nat.succ_pos _,hle⟩])])
     go_wp2_with fail
     go_quiet (fail)
     go_wp2_with fail
     go_roundg (I - (j+1+1))
     case measure=>omega
     case rel=>exact⟨j+1+1,4,by omega,by omega,by go_num,rfl,HV.out,by first | exact HB.out | exact below_drewN HB.out _ | exact HB.out.drew⟩
    ·have HV:=yh (show(0:Int)=if J≠0 then J else Qh (Ua x) (j+1+1)by
      rw[if_neg (by rw[aj.out.1];simp),VP aj.out.2 (by rw[aO.out,if_neg (fun h=>hle h.2)])])
     have b9:y.id < id:=by omega
     clear hle
     go_wp2_with fail
     go_quiet (fail)
     go_wp2_with fail
     go_roundg (I - (j+1+1))
     case measure=>omega
     case rel=>exact⟨j+1+1,0,by omega,by omega,by go_num,rfl,HV.out,by first | exact HB.out | exact below_drewN HB.out _ | exact HB.out.drew⟩
 obtain⟨rfl,O⟩:=hcut;have Q:=aF.out.trans (O.mono aF.out.size)
 have bn:=yh (show e4=0→J=0∧r=if an=true then 4 else if re=8 then 2 else re from fun h=>by
  have h3:J=0:=by
   by_cases h3:J=0
   ·exact h3
   ·rw[aH.out h3]at h;exact absurd h h3
  obtain⟨_,cf,V⟩:=HZ.out h3;refine⟨h3,?_⟩;have O:=az.out;rw[if_neg cf,if_neg (by rw[aC.out,←aB.out h3,h];simp)]at O;rw[V,O]
  cases an<;>simp)
 by_cases h4:e4=0
 rotate_left
 ·obtain rfl:r=e4:=by
   by_cases h3:J=0
   ·obtain⟨_,cf,V⟩:=HZ.out h3
    have O:=az.out
    have au:fl=e4:=by rw[aC.out,←aB.out h3]
    rw[if_neg cf,if_pos (by rw[au];exact h4)]at O;rw[V,O,if_pos (by rw[au];exact h4),au]
   ·rw[aH.out h3];exact bh.out h3
  have b1:(r != 0)=true:=by simpa using h4
  clear h4 O
  go_wp2_with fail
  go_ret
  exact⟨rfl,Q⟩
 obtain⟨h3,bE⟩:=bn.out h4
 have ar:an=false→OkBs x:=fun ha=>by
  obtain⟨ax,cf,_⟩:=HZ.out h3;refine QAb (U6a (bp.out.symm.trans ax)) ?_;have O:=az.out;rw[if_neg cf,if_neg (by rw[aC.out,←aB.out h3,h4];simp),if_neg (by rw[ha];simp)]at O;rw[←bJ.out,O]
 have bj:=yh bE;clear bE;have bI:=yh ar;clear ar;subst h4;clear h3 bn aB aH aq bh HZ az;obtain⟨W1,bQ⟩:∃W,W=wc:=⟨_,rfl⟩;subst bQ;have bF:=yh O;clear O;have bc:=yh Q;clear Q;have bL:=yh (HG.out.bel bF.out);clear HG
 go_wp2_with fail
 go_loopg [5] I (fun gk i wr=>∃k:Nat,k≤I∧I - k≤gk∧i=.int .i64 k∧Aside ((x.bks.take k).any (UG x.closed)=false)∧yw W1 wr)
 case atStart=>exact⟨0,Nat.zero_le _,by omega,rfl,rfl,Below.refl _ _⟩
 case round=>
  obtain⟨k,hk,bV,rfl,HA,O⟩:=hrel;have Q:=bc.out.trans (O.mono bc.out.size);have hG:=bL.out.bel O
  by_cases hlt:k < I
  ·have bM:=yh (HL.out.bel Q)
   obtain⟨ab,F,⟨id,ae,af,am,lev,aa,ak,al,upto,cg,aD⟩,A3,n3,c3,hA,hx,hF,hI,U⟩:=(bM.out).bkg hlt;subst hA;simp only at hF;have y0:yI wr ab (F+k*11) id:=U 0 _ rfl;have y1:yI wr ab (F+k*11+1) ae:=U 1 _ rfl;have y2:yI wr ab (F+k*11+2) af:=U 2 _ rfl;have y3:yI wr ab (F+k*11+3) am:=U 3 _ rfl;have y4:wr.cell? ⟨ab,F+k*11+4,none⟩=some (.bool lev):=U 4 _ rfl;have y5:yI wr ab (F+k*11+5) aa:=U 5 _ rfl;have y6:yI wr ab (F+k*11+6) ak:=U 6 _ rfl;have y7:yI wr ab (F+k*11+7) al:=U 7 _ rfl;have y8:yI wr ab (F+k*11+8) upto:=U 8 _ rfl;have y9:yI wr ab (F+k*11+9) cg:=U 9 _ rfl;have aM:yJ wr ab (F+k*11+10) A3 n3 c3:=U 10 _ rfl;clear U;have ac:yJ wr g 11 (some ⟨ab,F,none⟩) I cb:=hG.cell rfl;have bW:(0:Int)≤(k:Int):=Int.natCast_nonneg _
   have bX:(k:Int) < (I:Int):=by omega
   go_upto_region 19 with(fail)
   go_cut [6] (fun p1 wx=>∃z,p1=.pointer (some ⟨z,0,none⟩)∧Blk wx z (Qz ⟨id,ae,af,am,lev,aa,ak,al,upto,cg,aD⟩ (.slice A3 n3 c3)) 63∧yw wr wx)
   case first=>as_aux_lemma=>
    go_wp2_with fail
    go_meet
    exact⟨_,rfl,Za _ _,Qf _ _⟩
   obtain⟨z,rfl,hZ,aL⟩:=hcut;replace hG:=hG.bel aL;replace O:=O.trans (aL.mono O.size);replace Q:=Q.trans (aL.mono Q.size);clear y0 y1 y2 y3 y4 y5 y6 y7 y8 y9 aM hF hI aL ac;obtain⟨q,hq⟩:∃q,q=UG x.closed ⟨id,ae,af,am,lev,aa,ak,al,upto,cg,aD⟩:=⟨_,rfl⟩;have a4:=QF (p:=UG x.closed) hx;rw[←hq]at a4;have HM:=yh (List.mem_of_getElem? hx);have bi:=yh (show q=(decide (ae=2) && (!decide (af=3) && (decide (aa < 0) == x.closed)))by rw[hq];rfl);have bN:=yh a4;clear a4;have HQ:=yh hq;clear hq;clear hx;have z1:yI wc z 1 ae:=hZ.cell rfl;have z2:yI wc z 2 af:=hZ.cell rfl;have z5:yI wc z 5 aa:=hZ.cell rfl;have av:wc.cell? ⟨g,12,none⟩=some (.bool x.closed):=hG.cell rfl;obtain⟨cl,bw⟩:∃c,c=x.closed:=⟨_,rfl⟩;have aI:=yh (bi.out);rw[←bw]at aI av;obtain⟨W2,aR⟩:∃W,W=wc:=⟨_,rfl⟩;subst aR;have bG:=yh O;clear O;have bH:=yh Q;clear Q;clear hG hZ bw bi
   go_upto_region 20 with(fail)
   go_cut [126] (fun t wx=>t=.bool q∧wx=W2)
   case first=>as_aux_lemma=>
    by_cases hkd:ae=2
    rotate_left
    ·obtain rfl:q=false:=by rw[aI.out,decide_eq_false hkd];rfl
     have aK:(ae == 2)=false:=by simpa using hkd
     clear hkd
     go_wp2_with fail
     go_meet
     exact⟨rfl,rfl⟩
    by_cases h3:af=3
    ·obtain rfl:q=false:=by rw[aI.out,decide_eq_true h3];simp
     subst h3 hkd
     go_wp2_with fail
     go_meet
     exact⟨rfl,rfl⟩
    have b0:(af != 3)=true:=by simpa using h3
    have aJ:=yh (show q=(decide (aa < 0) == cl)by rw[aI.out,decide_eq_true hkd,decide_eq_false h3];rfl);subst hkd;clear h3
    by_cases hcb:aa < 0
    ·have bU:¬0≤aa:=by omega
     cases cl
     ·obtain rfl:q=false:=by rw[aJ.out,decide_eq_true hcb];rfl
      go_wp2_with fail
      go_meet
      exact⟨rfl,rfl⟩
     ·obtain rfl:q=true:=by rw[aJ.out,decide_eq_true hcb];rfl
      go_wp2_with fail
      go_meet
      exact⟨rfl,rfl⟩
    ·have bU:0≤aa:=by omega
     cases cl
     ·obtain rfl:q=true:=by rw[aJ.out,decide_eq_false hcb];rfl
      go_wp2_with fail
      go_meet
      exact⟨rfl,rfl⟩
     ·obtain rfl:q=false:=by rw[aJ.out,decide_eq_false hcb];rfl
      go_wp2_with fail
      go_meet
      exact⟨rfl,rfl⟩
   obtain⟨rfl,rfl⟩:=hcut;clear z1 z2 z5 av
   cases q
   ·have HV:=yh (show(x.bks.take (k+1)).any (UG x.closed)=false by rw[bN.out,HA];rfl)
    go_wp2_with fail
    go_roundg (I - (k+1))
    case measure=>omega
    case rel=>exact⟨k+1,by omega,by omega,by go_num,HV.out,bG.out⟩
   ·have ha:an=true:=by rw[bb.out];exact List.any_eq_true.2 ⟨_,HM.out,HQ.out.symm⟩
    obtain rfl:r=4:=by rw[bj.out,if_pos ha]
    clear ha
    go_wp2_with fail
    go_ret
    exact⟨rfl,bH.out⟩
  ·obtain rfl:I=k:=by omega
   have ac:yJ wr g 11 C I cb:=hG.cell rfl
   have ha:an=false:=by
    rw[bb.out];have hA:(x.bks.take I).any (UG x.closed)=false:=HA
    rwa [List.take_of_length_le (Nat.le_of_eq HN.out)]at hA
   have bl:=yh (show r=if re=8 then 2 else re by rw[bj.out,if_neg (by rw[ha];simp)]);have ai:=yh (bm.out wr (HS.out.bel Q) (bI.out ha));have s0:yI wr g 0 x.ship.legs:=hG.cell rfl;have s1:yI wr g 1 x.ship.souls:=hG.cell rfl;have s2:yJ wr g 2 A n cap:=hG.cell rfl;have s3:yJ wr g 3 B m ah:=hG.cell rfl;have s4:yJ wr g 4 D nd cd:=hG.cell rfl;have s5:yI wr g 5 x.fares.alone:=hG.cell rfl;have s6:yI wr g 6 x.fares.third:=hG.cell rfl;have s7:yJ wr g 7 E ne ce:=hG.cell rfl;have s8:yI wr g 8 x.fares.down:=hG.cell rfl;have s9:yI wr g 9 x.day:=hG.cell rfl;have ay:yI wr g 10 x.leaves:=hG.cell rfl;have ac:yJ wr g 11 C I cb:=hG.cell rfl;have av:wr.cell? ⟨g,12,none⟩=some (.bool x.closed):=hG.cell rfl;clear hG ha HA
   go_wp2_with fail
   refine ai.out.mono ?_;rintro e w5 ⟨rfl,bT⟩;replace Q:=Q.trans (bT.mono Q.size)
   by_cases h8:re=8
   ·obtain rfl:r=2:=by rw[bl.out,if_pos h8]
    subst h8
    go_wp2_with fail
    go_ret
    exact⟨rfl,Q⟩
   ·obtain rfl:r=re:=by rw[bl.out,if_neg h8]
    have b2:(r == 8)=false:=by simpa using h8
    clear h8
    go_wp2_with fail
    go_ret
    exact⟨rfl,Q⟩
end Go.Proofs.YtjdcokpmgionjaaGreat
