/-
  The law DeskRight returns true, whatever it is handed, and changes nothing that was there.
-/
import Derived.Test.YtjdcokpmgionjaaGreatBun21
import Derived.Test.YtjdcokpmgionjaaGreatBun31
import Derived.Test.YtjdcokpmgionjaaGreatBun35
import Derived.Test.YtjdcokpmgionjaaGreatBun40
import Derived.BigQuiet
set_option linter.unusedSimpArgs false
set_option linter.unusedVariables false
set_option maxRecDepth 100000
set_option maxHeartbeats 20000000
namespace Go.Proofs.YtjdcokpmgionjaaGreat
open Go.ChangeShapes Go.WideShapes Go.ChangeAt Go.RowKit Go.Shelf
theorem DeskRight_walk (W:World)(aE:Array Value)(x:Sai)(aL:Y9a W All x aE.toList)(al:Array Value)(a:Ask)(aY:Xua W All a al.toList) :
  Calls Tryz.prog 4 #[.agg aE,.agg al] W fun e w'=>e=.returned (.bool true)∧yw W w':=by
 obtain⟨p,rfl,hS,_,_,_,_⟩:=Znb aL;obtain⟨aZ,hI⟩:=aY
 obtain rfl:al=Q1 a:=by cases al;simp_all
 have Z:=yh (fun X hX=>VYb QNa Xv x p a X hX (fun h h2=>VX h hI h2) hI.2.2.1);have ad:=yh (fun p1 X hX=>Q8 (doX mkA x a) p1 X hX);obtain⟨R,hR⟩:∃r,r=V1a x a:=⟨_,rfl⟩
 have ae:=yh (show R=0→Qp (doX mkA x a)=0∧(doX mkA x a).ship=x.ship∧(doX mkA x a).fares=x.fares from fun q=>by
  rw[hR]at q;unfold V1a at q
  by_cases h0:Qp x≠0
  ·rw[if_pos h0]at q;exact absurd q h0
  ·rw[if_neg h0]at q
   exact Xub (by omega) (VX (by omega) hI q))
 have Y:=yh (fun q=>Zrc (x:=x) (a:=a) q);obtain⟨N,hN⟩:∃r,r=doA mkA x a:=⟨_,rfl⟩;obtain⟨X,hX⟩:∃r,r=doX mkA x a:=⟨_,rfl⟩;rw[←hN]at Z Y;rw[←hX]at Z ad ae Y;rw[←hR]at Z;have HS:=yh hS;clear hR hN hX hS aL aZ hI;obtain⟨A,n,cap,B,m,ar,D,nd,cd,E,ne,ce,C,nb,cb⟩:=p
 go_enter Tryz.func4,Tryz.ntmps4
 go_upto_region 0 with(fail)
 go_cut [2,3,4] (fun p q _ wx=>∃g c,p=.pointer (some ⟨g,0,none⟩)∧q=.pointer (some ⟨c,0,none⟩)∧Blk wx g (Qa x ⟨A,n,cap,B,m,ar,D,nd,cd,E,ne,ce,C,nb,cb⟩) 32∧Blk wx c (Q1 a) 53∧yw W wx)
 case first=>as_aux_lemma=>
  go_wp2_with fail
  go_meet
  exact⟨_,_,rfl,rfl,QA _ _ _,QB _ _ _,Zh _ _ _⟩
 obtain⟨g,c,rfl,rfl,hG,hC,au⟩:=hcut;obtain⟨W0,aV⟩:∃V,V=wc:=⟨_,rfl⟩;subst aV;have HT:=yh (fun X (hX:yw W0 X)=>au.trans (hX.mono au.size));have HG:=yh (fun X (hX:yw W0 X)=>hG.bel hX);have HC:=yh (fun X (hX:yw W0 X)=>hC.bel hX);have af:=yh (fun X (hX:yw W0 X)=>HS.out.bel (HT.out X hX));clear hG hC au
 go_wp2_with fail
 refine(V7 _).mono ?_;rintro e v1 ⟨rfl,O⟩
 go_wp2_with fail
 refine(Yx _).mono ?_;rintro e v2 ⟨rfl,aF⟩;replace O:=O.trans (aF.mono O.size);clear aF;obtain⟨V2,aU⟩:∃V,V=v2:=⟨_,rfl⟩;subst aU
 go_upto_region 3 with(fail)
 go_cut [5,6,7] (fun q q2 e wx=>e=.int .i64 R∧(∃z s y p' U,q=.pointer (some ⟨z,0,none⟩)∧q2=.pointer (some ⟨s,0,none⟩)∧Blk wx z (Qa y p') 32∧Blk wx s (QK U) 55∧y=okS R X∧U=okA R N∧SaiR wx y p')∧yw W0 wx)
 case first=>
  have HD:=yh (Z.out _ (af.out _ O));have hg:=HG.out _ O;have hc:=HC.out _ O;have HB:=yh O;clear Z ad ae Y HT HG HC af O
  go_wp2_with (first | (refine wpList_load_row rfl 32 (.tmp 2) rfl g rfl 32 _ (0,0) _ hg Tryz.underlying32 rfl (by kernel_rfl) ?_) | (refine wpList_load_row rfl 53 (.tmp 3) rfl c rfl 53 _ (0,0) _ hc Tryz.underlying53 rfl (by kernel_rfl) ?_))
  refine HD.out.mono ?_;rintro e F ⟨⟨y,p',U,rfl,hy,aa,hO⟩,Q⟩;have HO:=yh hO.sai;have HY:=yh hy;have HA:=yh aa;have av:=yh (HB.out.trans (Q.mono HB.out.size));clear hy aa hO Q HD hg hc;have aC:=yh (show ∀g,g=F.heap.size→Blk ((F.alloc (.cells #[.int .i64 0,.int .i64 0,.slice none 0 0,.slice none 0 0,.slice none 0 0,.int .i64 0,.int .i64 0,.slice none 0 0,.int .i64 0,.int .i64 0,.int .i64 0,.slice none 0 0,.bool false] 32)).alloc (.cells #[.int .i64 0,.int .i64 0] 55)) g #[.int .i64 0,.int .i64 0,.slice none 0 0,.slice none 0 0,.slice none 0 0,.int .i64 0,.int .i64 0,.slice none 0 0,.int .i64 0,.int .i64 0,.int .i64 0,.slice none 0 0,.bool false] 32 from fun g hg=>by subst hg;exact(Blk.new F _ _).old _);have aB:=yh (show ∀g,g=F.heap.size+1→Blk (((F.alloc (.cells #[.int .i64 0,.int .i64 0,.slice none 0 0,.slice none 0 0,.slice none 0 0,.int .i64 0,.int .i64 0,.slice none 0 0,.int .i64 0,.int .i64 0,.int .i64 0,.slice none 0 0,.bool false] 32)).alloc (.cells #[.int .i64 0,.int .i64 0] 55)).setRow F.heap.size (Qa y p')) g #[.int .i64 0,.int .i64 0] 55 from fun g hg=>by subst hg;exact(Blk.new1 F _ _ _).rowOther (by omega) _)
  go_wp2_with (first | (refine wpList_store_row rfl 32 (.tmp 5) (.tmp 18) rfl F.heap.size (Qa y p') rfl rfl 32 _ (aC.out _ rfl) (by kernel_rfl) rfl (by simp[Value.oneCell']) ?_) | (refine wpList_store_row rfl 55 (.tmp 6) (.tmp 19) rfl (F.heap.size+1) (QK U) rfl rfl 55 _ (aB.out _ rfl) (by kernel_rfl) rfl (by simp[Value.oneCell']) ?_))
  go_meet
  have aH:yw F ((((F.alloc (.cells #[.int .i64 0,.int .i64 0,.slice none 0 0,.slice none 0 0,.slice none 0 0,.int .i64 0,.int .i64 0,.slice none 0 0,.int .i64 0,.int .i64 0,.int .i64 0,.slice none 0 0,.bool false] 32)).alloc (.cells #[.int .i64 0,.int .i64 0] 55)).setRow F.heap.size (Qa y p')).setRow (F.heap.size+1) (QK U)):=below_setRow (below_setRow (Zh F _ _) (Nat.le_refl _) _) (by omega) _;exact⟨rfl,⟨_,_,y,p',U,rfl,rfl,((aC.out _ rfl).row _).rowOther (by omega) _,(aB.out _ rfl).row _,HY.out,HA.out,HO.out.bel aH⟩,av.out.trans (aH.mono av.out.size)⟩
 obtain⟨rfl,⟨z,s,y,p',U,rfl,rfl,hZ,hN,hy,aa,ag⟩,Q⟩:=hcut;obtain⟨J,aW⟩:∃V,V=wc:=⟨_,rfl⟩;subst aW;have HE:=yh (HT.out _ Q)
 by_cases h0:R=0
 rotate_left
 ·have h1:(R != 0)=true:=by simpa using h0
  rw[Qca h0]at hy;rw[Q8b h0]at aa;subst hy aa
  have be:J.cell? ⟨z,11,none⟩=some (.slice p'.C 0 p'.cb):=by
   have h2:0=p'.nb:=ag.bks.len;have h3:yJ J z 11 p'.C p'.nb p'.cb:=hZ.cell rfl;rw[←h2]at h3;exact h3
  have bc:yI J s 0 0:=hN.cell rfl;have bd:yI J s 1 0:=hN.cell rfl
  have bb:∀W:World,(binOp .eql 55 (.agg #[.int .i64 0,.int .i64 0]) (.agg #[.int .i64 0,.int .i64 0])).run Tryz.prog W=.ok (.bool true) W:=fun W=>(Xab ⟨0,0⟩ ⟨0,0⟩ W).trans (by rw[decide_eq_true rfl])
  clear hZ hN ag h0 Q Z ad ae Y HT HG HC af O
  go_wp2_with fail
  go_ret
  exact⟨rfl,HE.out⟩
 subst h0;obtain⟨aK,ai,am⟩:=ae.out rfl;rw[UJ]at hy;rw[QPa]at aa;obtain rfl:X=y:=hy.symm;obtain rfl:N=U:=aa.symm;obtain⟨sx,ba⟩:∃r,r=Qp X:=⟨_,rfl⟩;have ap:=yh (ad.out p' J ag);rw[aK]at ap;have aI:=HG.out _ Q;have aj:=yh (fun V (hV:yw J V)=>ag.bel hV);have ak:=yh (fun V (hV:yw J V)=>af.out _ (Q.trans (hV.mono Q.size)));have az:=yh (fun V (hV:yw J V)=>HE.out.trans (hV.mono HE.out.size));have aD:=yh (fun V hV=>Qra x.ship p'.A p'.n p'.cap p'.B p'.m p'.cap2 A n cap B m ar V (by have:=(aj.out V hV).cats;rw[ai]at this;exact this) (by have:=(aj.out V hV).cabs;rw[ai]at this;exact this) (ak.out V hV).cats (ak.out V hV).cabs);have aA:=yh (fun V hV=>YR x.fares p'.D p'.nd p'.cd p'.E p'.ne p'.ce D nd cd E ne ce V (by have:=(aj.out V hV).fares;rw[am]at this;exact this) (ak.out V hV).fares);clear Z ad ae af HT aK ba ag O hy HE;have aM:=hZ;have HZ:=yh (fun V (hV:yw J V)=>hZ.bel hV);have HN:=yh (fun V (hV:yw J V)=>hN.bel hV);have aq:=yh (fun V (hV:yw J V)=>aI.bel hV);clear hZ hN aI Q
 go_wp2_with (refine wpList_load_row rfl 32 (.tmp 5) rfl z rfl 32 _ (0,0) _ aM Tryz.underlying32 rfl (by kernel_rfl) ?_)
 refine ap.out.mono ?_;rintro e w4 ⟨rfl,ah⟩;obtain⟨a0,a1,a2,a3,-⟩:=Z7 (HZ.out _ ah);obtain⟨f0,f1,f2,f3,-⟩:=Z7 (aq.out _ ah);rw[ai]at a0 a1;have aw:=yh (aD.out _ ah);have an:=yh ah;clear ah;clear aM ap aD
 go_wp2_with fail
 refine aw.out.mono ?_;rintro e w5 ⟨rfl,ab⟩;replace ab:=an.out.trans (ab.mono an.out.size);clear a0 a1 a2 a3 f0 f1 f2 f3;obtain⟨-,-,-,-,a4,a5,a6,a7,a8,-⟩:=Z7 (HZ.out _ ab);obtain⟨-,-,-,-,f4,f5,f6,f7,f8,-⟩:=Z7 (aq.out _ ab);rw[am]at a5 a6 a8;have ax:=yh (aA.out _ ab);have ao:=yh ab;clear ab;clear an aw aA
 go_wp2_with fail
 refine ax.out.mono ?_;rintro e w6 ⟨rfl,I⟩;replace I:=ao.out.trans (I.mono ao.out.size);clear a4 a5 a6 a7 a8 f4 f5 f6 f7 f8 ao ax;have n0:yI w6 s 0 N.errno:=(HN.out _ I).cell rfl;have n1:yI w6 s 1 N.owed:=(HN.out _ I).cell rfl
 by_cases q:N.errno=0
 ·have q1:(N.errno == 0)=true:=by simpa using q
  have ac:=yh (az.out _ I);clear q I Y ai am
  go_wp2_with fail
  go_ret
  exact⟨rfl,ac.out⟩
 obtain⟨aJ,aX⟩:=Y.out q;subst aX
 have q1:(N.errno == 0)=false:=by simpa using q
 have q2:(N.owed == 0)=true:=by simpa using aJ
 obtain⟨a0,a1,a2,a3,a4,a5,a6,a7,a8,a9,aO,aP,aQ⟩:=Z7 (HZ.out _ I);obtain⟨f0,f1,f2,f3,f4,f5,f6,f7,f8,f9,aR,aS,aT⟩:=Z7 (aq.out _ I);have ay:=yh (U9 X p' ⟨A,n,cap,B,m,ar,D,nd,cd,E,ne,ce,C,nb,cb⟩ w6 (aj.out _ I) (ak.out _ I));have ac:=yh I;clear I;clear q aJ Y ai am
 go_wp2_with fail
 refine ay.out.mono ?_;rintro e w7 ⟨rfl,aG⟩;have aN:=yh (az.out _ (ac.out.trans (aG.mono ac.out.size)));clear a0 a1 a2 a3 a4 a5 a6 a7 a8 a9 aO aP aQ f0 f1 f2 f3 f4 f5 f6 f7 f8 f9 aR aS aT n0 n1 aG ac ay
 go_wp2_with fail
 go_ret
 exact⟨rfl,aN.out⟩
theorem Q3a (U:Os)(ae:U.Started)(H:Type)(enc:TypeId×Value→H) :
  ReturnsInHanded {} Tryz.checked U 4 .any (Rows.deskRightSpec.pre6 enc Tryz.prog Tryz.f4 Rows.deskRightRow.domain false) (Rows.deskRightSpec.post enc Tryz.prog Tryz.f4 false true false false):=by
 refine returnsInHanded_of_change (C:=Tryz.checked) own ae (by kernel_rfl) Tryz.func4
  (ChangeSpec.witness6 (enc:=enc) (C:=Tryz.checked) false ⟨#[],#[.agg #[.int .i64 0,.int .i64 0,.slice none 0 0,.slice none 0 0,.slice none 0 0,.int .i64 0,.int .i64 0,.slice none 0 0,.int .i64 0,.int .i64 0,.int .i64 0,.slice none 0 0,.bool false],.agg #[.int .i64 0,.int .i64 0,.int .i64 0,.int .i64 0,.bool false,.int .i64 0,.int .i64 0,.int .i64 0,.int .i64 0,.int .i64 0,.int .i64 0]],[]⟩ 8 (by kernel_rfl) (by kernel_rfl) (by kernel_rfl) (by kernel_rfl)) ?_
 intro W base A ds gs af Q O aj _;have F:∀(j:Nat) t v,Tryz.f4.params[j]? = some t→A[j]? = some v→Value.okWide Tryz.prog W .any base t v:=Q;have ab:=O;obtain⟨p,q,J,hV,rfl,ak,al⟩:=O;have I:DataW.TrodAll enc Tryz.prog W 0 (fun _=>true) true Tryz.f4.params.toList A.toList ds p:=J;rw[Tryz.params4]at I F;obtain⟨V,am,d0,ag,p0,q0,ai,rfl,rfl,D,r0⟩:=trodAll_cons I;obtain⟨v1,an,d1,ah,p1,q1,rfl,rfl,rfl,E,r1⟩:=trodAll_cons r0;obtain⟨rfl,rfl,rfl⟩:=trodAll_nil r1
 obtain rfl:A=#[V,v1]:=by cases A;simp_all
 obtain⟨rfl,rfl⟩:=trodVars_none hV;have ac:=Y1 D;have k0:=D;obtain⟨Z,X,rfl,w0⟩:=ZVa (c:=Y9a) Tryz.underlying32 Qfa (F 0 32 V rfl rfl) D;have ad:=Y1 E;have k1:=E;obtain⟨aa,Y,rfl,w1⟩:=ZVa (c:=Xua) Tryz.underlying53 Qea (F 1 53 v1 rfl rfl) E;clear J Q
 refine(DeskRight_walk W Z X w0 aa Y w1).mono fun e W' ⟨he,bel⟩=>?_
 subst he;exact⟨_,rfl,_,_,_,[],_,[],ab,trodAll_mk1 (shut_bool Tryz.underlying4 _),(trodAll_cons_mk (Below.trod XN (by kernel_rfl) (of_decide_eq_true (by kernel_rfl)) k0 bel ac) (trodAll_cons_mk (Below.trod XN (by kernel_rfl) (of_decide_eq_true (by kernel_rfl)) k1 bel ad) trodAll_mk0)),rfl,bel.frame _,fun h=>by cases h⟩
theorem Uja:(Rows.deskRightRow.wf (OpenSpec.ofChange Rows.deskRightSpec) && Tryz.f4.params.all (Tryz.prog.readableRec ·) && namedTie Tryz.prog Rows.deskRightRow.named Rows.deskRightSpec.vars && (Rows.deskRightRow.stops == []) && (Tryz.prog.stops == []) && (Rows.deskRightRow.knobs == []) && (Tryz.prog.stopKnobs == []))=true:=by kernel_rfl
theorem Uka:((Rows.deskRightRow.inPlace == Tryz.prog.inPlace 4) && (Rows.deskRightRow.unfollowed == Tryz.prog.unfollowed 4) && (Rows.deskRightRow.recurses == Tryz.prog.recurses 4) && (Rows.deskRightRow.named == Tryz.prog.varsNamed 4))=true:=by kernel_rfl
theorem Ula:((Rows.deskRightRow.maps == (Tryz.f4.params.toList++Rows.deskRightSpec.plain.varTypes Tryz.prog).any (Tryz.prog.mapsRec ·)) && (Rows.deskRightRow.ifaces == (Tryz.f4.params.toList++Rows.deskRightSpec.plain.varTypes Tryz.prog).any (Tryz.prog.ifacesRec ·)) && (Rows.deskRightRow.mapsOut == Tryz.prog.mapsAmong Tryz.f4.resultTypes.toList) && (Rows.deskRightRow.loops == (Tryz.f4.params.toList++Rows.deskRightSpec.plain.varTypes Tryz.prog).any (Tryz.prog.loopsFrom ·)) && (Rows.deskRightRow.wideKeys == (Tryz.f4.params.toList++Rows.deskRightSpec.plain.varTypes Tryz.prog++Tryz.f4.resultTypes.toList).any (Tryz.prog.wideKeysFrom ·)) &&
  Rows.deskRightSpec.vars.all (Tryz.prog.varReadable ·) && Tryz.f4.resultTypes.all (fun t=>Tryz.prog.readableRec t && decide (t < Tryz.prog.types.size)) && (Rows.deskRightRow.ifacesOut == Tryz.f4.resultTypes.toList.any (Tryz.prog.ifacesRec ·)) && (Rows.deskRightRow.loopsOut == Tryz.f4.resultTypes.toList.any (Tryz.prog.loopsFrom ·)) && (Rows.deskRightRow.plainKeys == Tryz.prog.plainKeys) && Rows.deskRightRow.shortTexts.isNone)=true:=by kernel_rfl
theorem Uma:((Rows.deskRightRow.lifted == Tryz.prog.liftsFinal) && (Tryz.prog.make == some Rows.deskRightRow.make))=true:=by kernel_rfl
theorem Una:((Rows.deskRightRow.kinds == (if Rows.deskRightRow.domain.isEmpty then []else Tryz.f4.params.toList.map fun t=>match Tryz.prog.underlying t with | some (.int k)=>some k | _=>none)) && (Rows.deskRightRow.pinned == Rows.deskRightRow.pinnedBy) && (Rows.deskRightRow.veiled == (Tryz.f4.params.toList++Rows.deskRightSpec.plain.varTypes Tryz.prog++Tryz.f4.resultTypes.toList).any (Tryz.prog.veiledRec ·)) && Rows.deskRightRow.veiledFits Tryz.prog Tryz.f4.params.toList (Tryz.f4.params.toList++Rows.deskRightSpec.plain.varTypes Tryz.prog++Tryz.f4.resultTypes.toList))=true:=by kernel_rfl
theorem deskRight_holds:Rows.DeskRightSaid:=
 OpenClaim.holds_of_wide 4 Tryz.f4 rfl rfl rfl rfl rfl rfl rfl ⟨rfl,rfl,rfl,rfl,rfl⟩ rfl rfl rfl rfl rfl (by kernel_rfl) Tryz.func4
  (Zla Uja UKa ULa Uka Ula Zga Zfa Uma Una)
  (of_decide_eq_true (by kernel_rfl)) (by unfold Func.isWrapper;rw[if_neg (of_decide_eq_false (by kernel_rfl))];exact⟨rfl,rfl⟩)
  (fun A D H enc _=>Q3a A D H enc)
#print axioms deskRight_holds
end Go.Proofs.YtjdcokpmgionjaaGreat
