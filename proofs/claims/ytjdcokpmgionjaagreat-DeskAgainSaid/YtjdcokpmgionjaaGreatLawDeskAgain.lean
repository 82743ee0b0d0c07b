/-
  The law DeskAgain returns true, whatever it is handed, and changes nothing that was there.
-/
import Derived.Test.YtjdcokpmgionjaaGreatBun21
import Derived.Test.YtjdcokpmgionjaaGreatBun31
import Derived.Test.YtjdcokpmgionjaaGreatBun36
import Derived.Test.YtjdcokpmgionjaaGreatBun40
import Derived.BigQuiet
set_option linter.unusedSimpArgs false
set_option linter.unusedVariables false
set_option maxRecDepth 100000
set_option maxHeartbeats 20000000
namespace Go.Proofs.YtjdcokpmgionjaaGreat
open Go.ChangeShapes Go.WideShapes Go.ChangeAt Go.RowKit Go.Shelf
theorem DeskAgain_walk (W:World)(aT:Array Value)(x:Sai)(aZ:Y9a W All x aT.toList)(Al:Option Addr)(nl aD:Nat)(l:List Ask)(hl:Sl Xua 11 W All Al nl aD l) :
  Calls Tryz.prog 8 #[.agg aT,.slice Al nl aD] W fun e w'=>e=.returned (.bool true)∧yw W w':=by
 obtain⟨p,rfl,hS,_,_,_,_⟩:=Znb aZ;have az:=yh (ZWa hl);have aA:=yh (show l.length=nl from hl.len);have ah:=yh (fun X hX h1 h2=>Xna x p Al nl aD l X hX h1 h2);have aw:=yh (fun X hX=>Xc x p X hX);obtain⟨r,hr⟩:∃r,r=Qp x:=⟨_,rfl⟩;rw[←hr]at aw ah;obtain⟨O,aE⟩:∃q,q=tkD x l (min nl 20):=⟨_,rfl⟩;rw[←aE]at ah
 have aB:=yh (show r=0→Qp x=0∧LogOk x O∧O.length≤20 from fun h=>by
  have hx:Qp x=0:=hr.symm.trans h;have:=X0a hx az.out (min nl 20) (by have:=aA.out;omega);rw[aE];exact⟨hx,this.1,by omega⟩)
 have HS:=yh hS;have HL:=yh hl;clear hr aE hS hl aZ;obtain⟨A,n,cap,B,m,aC,D,nd,cd,E,ne,ce,C,nb,cb⟩:=p
 go_enter Tryz.func8,Tryz.ntmps8
 go_upto_region 0 with(fail)
 go_cut [2,4] (fun p _ U=>∃g,p=.pointer (some ⟨g,0,none⟩)∧Blk U g (Qa x ⟨A,n,cap,B,m,aC,D,nd,cd,E,ne,ce,C,nb,cb⟩) 32∧yw W U)
 case first=>as_aux_lemma=>
  go_wp2_with fail
  go_meet
  exact⟨_,rfl,Za _ _,Qf _ _⟩
 obtain⟨g,rfl,hG,aJ⟩:=hcut;obtain⟨W0,a7⟩:∃V,V=wc:=⟨_,rfl⟩;subst a7;have HT:=yh (fun X (hX:yw W0 X)=>aJ.trans (hX.mono aJ.size));have HG:=yh (fun X (hX:yw W0 X)=>hG.bel hX);have aa:=yh (fun X (hX:yw W0 X)=>HS.out.bel (HT.out X hX));clear hG aJ
 go_wp2_with fail
 refine(V7 _).mono ?_;rintro e v1 ⟨rfl,hb⟩
 go_wp2_with fail
 refine(YT _).mono ?_;rintro e v2 ⟨rfl,aj⟩;replace hb:=hb.trans (aj.mono hb.size);clear aj;have hg:=HG.out _ hb;have aN:=yh (aw.out _ (aa.out _ hb))
 go_wp2_with (refine wpList_load_row rfl 32 (.tmp 2) rfl g rfl 32 _ (0,0) _ hg Tryz.underlying32 rfl (by kernel_rfl) ?_)
 refine aN.out.mono ?_;rintro e v3 ⟨rfl,aj⟩;replace hb:=hb.trans (aj.mono hb.size);clear aj hg aN aw;have am:=yh (HT.out _ hb)
 by_cases q0:r=0
 rotate_left
 ·have q1:(r != 0)=true:=by simpa using q0
  clear q0 hb
  go_wp2_with fail
  go_ret
  exact⟨rfl,am.out⟩
 subst q0;obtain⟨hx,ad,aV⟩:=aB.out rfl;obtain⟨V3,a6⟩:∃V,V=v3:=⟨_,rfl⟩;subst a6
 go_upto_region 5 with(fail)
 go_cut [5,6,7] (fun q v e U=>e=.bool true∧(∃u,v=u)∧(∃s A1 n1 Q,q=.pointer (some ⟨s,0,none⟩)∧Blk U s #[.slice A1 n1 Q,.int .i64 (n1:Int)] 39∧Sl ZL 13 U All A1 n1 Q O)∧yw W0 U)
 case first=>
  have HQ:=yh (ah.out _ (aa.out _ hb) (HL.out.bel am.out) (by trivial));have hg:=HG.out _ hb;have HB:=yh hb;clear ah aB az aA HT HG aa HS HL am hx ad aV hb
  go_wp2_with (refine wpList_load_row rfl 32 (.tmp 2) rfl g rfl 32 _ (0,0) _ hg Tryz.underlying32 rfl (by kernel_rfl) ?_)
  refine HQ.out.mono ?_;rintro e F ⟨⟨A1,n1,Q,v,rfl,hD⟩,ak⟩;have ax:=yh hD;have Z:=yh ak;clear hD ak HQ hg
  go_wp2_with (refine wpList_store_row rfl 39 (.tmp 5) (.tmp 27) rfl F.heap.size #[.slice A1 n1 Q,.int .i64 (n1:Int)] rfl rfl 39 _ (Blk.new F #[.slice none 0 0,.int .i64 0] 39) (by kernel_rfl) rfl (by simp[Value.oneCell']) ?_)
  go_meet
  have al:yw F ((F.alloc (.cells #[.slice none 0 0,.int .i64 0] 39)).setRow F.heap.size #[.slice A1 n1 Q,.int .i64 (n1:Int)]):=below_setRow (Qf F _) (Nat.le_refl _) _;exact⟨rfl,⟨_,rfl⟩,⟨_,A1,n1,Q,rfl,(Blk.new F _ _).row _,ax.out.bel al⟩,HB.out.trans ((Z.out.trans (al.mono Z.out.size)).mono HB.out.size)⟩
 obtain⟨rfl,⟨u6,rfl⟩,⟨s,A1,n1,Q,rfl,hZ,hD⟩,aK⟩:=hcut;obtain⟨W5,a8⟩:∃V,V=wc:=⟨_,rfl⟩;subst a8;have ac:=yh (fun X (hX:yw W5 X)=>aK.trans (hX.mono aK.size));have HZ:=yh (fun X (hX:yw W5 X)=>hZ.bel hX);have HD:=yh (fun X (hX:yw W5 X)=>hD.bel hX);have aY:O.length=n1:=hD.len;have af:=yh aY
 have bg:n1≤20:=by omega
 have ap:=yh (fun X (hX:yw W5 X) (k:Nat) (d:Don) (Y:O[k]? = some d)=>show Calls Tryz.prog 53 #[.agg (Qa x ⟨A,n,cap,B,m,aC,D,nd,cd,E,ne,ce,C,nb,cb⟩),.agg #[.slice A1 n1 Q,.int .i64 (n1:Int)],.string ⟨(VM d.ask).toArray⟩] X fun e w'=>(∃I J,e=.returned (.tuple #[.agg #[.slice I n1 J,.int .i64 (n1:Int)],.agg (QK d.ans),.int .i64 0])∧Sl ZL 13 w' All I n1 J O)∧yw X w' from by
  have h4:=Vda hx ad (by omega) Y;have aL:=QBa h4.1;have aF:=(ad.mem d (List.mem_of_getElem? Y)).1.1;have:=Qsa QNa Xv x ⟨A,n,cap,B,m,aC,D,nd,cd,E,ne,ce,C,nb,cb⟩ A1 n1 Q O (n1:Int) (VM d.ask) X (aa.out _ (ac.out _ hX)) (HD.out _ hX) (fun y hy d Y hc=>VX hy (ad.mem d Y).1.1 hc) (by rw[aL];exact fun y hy _=>VX hy aF h4.1) (by rw[aL];exact fun _=>aF) (by rw[aL];exact fun y hy _=>ZUa hy (VX hy aF h4.1));have aU:=h4.2;rw[af.out]at aU;rw[aU]at this;refine this.mono ?_;rintro e w' ⟨⟨v,xs,an,rfl,bc,hO⟩,hb⟩;obtain rfl:an=d.ans:=bc;obtain⟨I,n2,J,rfl,hs⟩:=hO.sl Qm;obtain rfl:n1=n2:=af.out.symm.trans hs.len;exact⟨⟨I,J,rfl,hs.all Qm (by omega)⟩,hb⟩)
 have bi:=yh (fun k (d:Don) (Y:O[k]? = some d)=>(Vda hx ad (by omega) Y).1);have ag:=yh (fun I J X (h1:Sl ZL 13 X All I n1 J O) (hX:yw W5 X)=>X8 I A1 n1 J n1 Q O O (n1:Int) (n1:Int) X h1 (HD.out _ hX));rw[decide_eq_true (show(n1:Int)=(n1:Int)∧O=O from⟨rfl,rfl⟩)]at ag;have hb:=Below.refl W5.heap.size W5;clear hx ad aV hZ hD aY ah aB az aA HS HL am aK
 go_wp2_with fail
 go_loopg [8] n1 (fun gk i wr=>∃k:Nat,k≤n1∧n1 - k≤gk∧i=.int .i64 (k:Int)∧yw W5 wr)
 case atStart=>exact⟨0,Nat.zero_le _,by omega,rfl,hb⟩
 case round=>
  obtain⟨k,hk,aM,rfl,hb⟩:=hrel;obtain⟨W6,a9⟩:∃W,W=wr:=⟨_,rfl⟩;subst a9;have s0:yJ W6 s 0 A1 n1 Q:=(HZ.out _ hb).cell rfl
  by_cases hlt:k < n1
  rotate_left
  ·have a1:=yh (ac.out _ hb)
   clear aM ac HZ HD af ap bi ag HG aa hk
   go_wp2_with fail
   go_ret
   exact⟨rfl,HT.out _ a1.out⟩
  obtain⟨ba,ae,d,rfl,Y,bd,ar⟩:=(HD.out _ hb).don hlt;have d1:decide ((k:Int) < (n1:Int))=true:=decide_eq_true (by omega);have d3:decide (0≤(k:Int))=true:=decide_eq_true (by omega);have d4:decide ((k:Int) < 0)=false:=decide_eq_false (by omega);obtain⟨b0,b1,b2,b3,b4,b5,b6,b7,b8,b9,a2,a3,a4⟩:=Yta ar;have au:=Xz d.ask W6;rw[bi.out k d Y,QG]at au
  dsimp only[Q1]at au
  have aP:=yh au;have ao:=yh Y;have aO:=yh (fun X (hX:yw W6 X)=>(HD.out _ (hb.trans (hX.mono hb.size))));have ay:=yh aM;clear au Y bd ar aM
  go_wp2_with fail
  refine aP.out.mono ?_;rintro e w7 ⟨rfl,aW⟩;replace hb:=hb.trans (aW.mono hb.size);clear aW aP b0 b1 b2 b3 b4 b5 b6 b7 b8 b9 a2 a3 a4 s0;obtain⟨W7,bj⟩:∃V,V=w7:=⟨_,rfl⟩;subst bj;have av:=yh hb
  go_upto_region 12 with(fail)
  go_cut [11,12,13] (fun q r f U=>f=.int .i64 0∧(∃q1 q2 I J,q=.pointer (some ⟨q1,0,none⟩)∧r=.pointer (some ⟨q2,0,none⟩)∧Blk U q1 #[.slice I n1 J,.int .i64 (n1:Int)] 39∧Blk U q2 (QK d.ans) 55∧Sl ZL 13 U All I n1 J O)∧yw W5 U)
  case first=>
   have HQ:=yh (ap.out _ hb k d ao.out);have hg:=HG.out _ (ac.out _ hb);have hs:=HZ.out _ hb;clear HT ac HZ HD af ap bi ag HG aa ao aO ay hb hk d1 d3 d4 hlt
   go_wp2_with (first | (refine wpList_load_row rfl 32 (.tmp 2) rfl g rfl 32 _ (0,0) _ hg Tryz.underlying32 rfl (by kernel_rfl) ?_) | (refine wpList_load_row rfl 39 (.tmp 5) rfl s rfl 39 _ (0,0) _ hs Tryz.underlying39 rfl (by kernel_rfl) ?_))
   refine HQ.out.mono ?_;rintro e F ⟨⟨I,J,rfl,ai⟩,ak⟩;have ax:=yh ai;have Z:=yh ak;clear ai ak HQ hg hs;have aR:=yh (show ∀g,g=F.heap.size→Blk ((F.alloc (.cells #[.slice none 0 0,.int .i64 0] 39)).alloc (.cells #[.int .i64 0,.int .i64 0] 55)) g #[.slice none 0 0,.int .i64 0] 39 from fun g hg=>by subst hg;exact(Blk.new F _ _).old _);have aQ:=yh (show ∀g,g=F.heap.size+1→Blk (((F.alloc (.cells #[.slice none 0 0,.int .i64 0] 39)).alloc (.cells #[.int .i64 0,.int .i64 0] 55)).setRow F.heap.size #[.slice I n1 J,.int .i64 (n1:Int)]) g #[.int .i64 0,.int .i64 0] 55 from fun g hg=>by subst hg;exact(Blk.new1 F _ _ _).rowOther (by omega) _)
   go_wp2_with (first | (refine wpList_store_row rfl 39 (.tmp 11) (.tmp 54) rfl F.heap.size #[.slice I n1 J,.int .i64 (n1:Int)] rfl rfl 39 _ (aR.out _ rfl) (by kernel_rfl) rfl (by simp[Value.oneCell']) ?_) | (refine wpList_store_row rfl 55 (.tmp 12) (.tmp 55) rfl (F.heap.size+1) (QK d.ans) rfl rfl 55 _ (aQ.out _ rfl) (by kernel_rfl) rfl (by simp[Value.oneCell']) ?_))
   go_meet
   have al:yw F ((((F.alloc (.cells #[.slice none 0 0,.int .i64 0] 39)).alloc (.cells #[.int .i64 0,.int .i64 0] 55)).setRow F.heap.size #[.slice I n1 J,.int .i64 (n1:Int)]).setRow (F.heap.size+1) (QK d.ans)):=below_setRow (below_setRow (Zh F _ _) (Nat.le_refl _) _) (by omega) _;exact⟨rfl,⟨_,_,I,J,rfl,rfl,((aR.out _ rfl).row _).rowOther (by omega) _,(aQ.out _ rfl).row _,ax.out.bel al⟩,av.out.trans ((Z.out.trans (al.mono Z.out.size)).mono av.out.size)⟩
  obtain⟨rfl,⟨q1,q2,I,J,rfl,rfl,aG,aH,ai⟩,hb⟩:=hcut;obtain⟨W8,bb⟩:∃V,V=wc:=⟨_,rfl⟩;subst bb
  have aS:=yh (fun X (hX:yw W8 X)=>show(fun w'=>(yJ w' s 0 (some ⟨ba,ae,none⟩) n1 Q∧yI w' s 1 (n1:Int))∧(yJ w' q1 0 I n1 J∧yI w' q1 1 (n1:Int))∧(yI w' q2 0 d.ans.errno∧yI w' q2 1 d.ans.owed)∧yI w' ba (ae+k*13+11) d.ans.errno∧yI w' ba (ae+k*13+12) d.ans.owed) X from by
   have h0:=hb.trans (hX.mono hb.size);obtain⟨_,_,d',he,aq,-,ar⟩:=(HD.out _ h0).don hlt
   injection he with he
   injection he with e1 e2 e3
   subst e1 e2;rw[ao.out]at aq
   injection aq with aq
   subst aq;obtain⟨-,-,-,-,-,-,-,-,-,-,-,be,bf⟩:=Yta ar;exact⟨⟨(HZ.out _ h0).cell rfl,(HZ.out _ h0).cell rfl⟩,⟨(aG.bel hX).cell rfl,(aG.bel hX).cell rfl⟩,⟨(aH.bel hX).cell rfl,(aH.bel hX).cell rfl⟩,be,bf⟩)
  have a0:=yh (fun X (hX:yw W8 X)=>ag.out I J X (ai.bel hX) (hb.trans (hX.mono hb.size)));have Z:=yh hb;clear aG aH ai ap bi ag aO ao av
  go_upto_region 13 with(fail)
  go_cut [78] (fun q U=>q=.bool false∧yw W5 U)
  case first=>
   have bh:∀W:World,(binOp .neq 55 (.agg #[.int .i64 d.ans.errno,.int .i64 d.ans.owed]) (.agg #[.int .i64 d.ans.errno,.int .i64 d.ans.owed])).run Tryz.prog W=.ok (.bool false) W:=fun W=>(Xbb d.ans d.ans W).trans (by rw[decide_eq_false (by simp)])
   have ab:yw W8 W8.drew:=(Below.refl _ W8).drew;clear HT ac HZ HD af HG aa ay hb hk;refine wp_region_held_drew (S:=(fun w'=>(yJ w' s 0 (some ⟨ba,ae,none⟩) n1 Q∧yI w' s 1 (n1:Int))∧(yJ w' q1 0 I n1 J∧yI w' q1 1 (n1:Int))∧(yI w' q2 0 d.ans.errno∧yI w' q2 1 d.ans.owed)∧yI w' ba (ae+k*13+11) d.ans.errno∧yI w' ba (ae+k*13+12) d.ans.owed)) (by kernel_rfl) (aS.out _ ab) (fun a5=>?_);refine yT [0,1,2,3,4,5,6,7,8,9,10,11,12,13,14,15,16,17,18] (by kernel_rfl) (by assumption) ?_
   iterate 19 (refine yS (v:=?_) (gA rfl) (fun _ _ _ h=>h) rfl ?_ ?_;rotate_left;(focus (intro w aI;(try dsimp only at aI);go_simp<;>with_reducible rfl));simp only[yP,yA,yB,yC])
   refine yR 19 (by kernel_rfl) (gA rfl) fun K hK=>?_
   go_simp
   (go_at_call 17;refine(a0.out _ ab).mono ?_;rintro e w9 ⟨rfl,aX⟩;replace ab:=ab.trans (aX.mono ab.size);clear aX)
   go_wp2_with fail
   refine hK.out _ _ (aS.out _ ab) fun a5=>?_
   clear hK K
   try simp only[yP,yQ,yA,yB,yC]
   refine yT [20,21] (by kernel_rfl) (by assumption) ?_
   iterate 2 (refine yS (v:=?_) (gA rfl) (fun _ _ _ h=>h) rfl ?_ ?_;rotate_left;(focus (intro w aI;(try dsimp only at aI);go_simp<;>with_reducible rfl));simp only[yP,yA,yB,yC])
   refine wpAnyH_done (by kernel_rfl) ?_ _
   go_wp2_with fail
   go_meet
   exact⟨rfl,Z.out.trans (ab.mono Z.out.size)⟩
  obtain⟨rfl,hb⟩:=hcut
  go_wp2_with fail
  go_roundg (n1 - (k+1))
  case measure=>have:=ay.out;omega
  case rel=>exact⟨k+1,by omega,by omega,by go_num,hb⟩
theorem Q1a (U:Os)(ae:U.Started)(H:Type)(enc:TypeId×Value→H) :
  ReturnsInHanded {} Tryz.checked U 8 .any (Rows.deskAgainSpec.pre6 enc Tryz.prog Tryz.f8 Rows.deskAgainRow.domain false) (Rows.deskAgainSpec.post enc Tryz.prog Tryz.f8 false true false false):=by
 refine returnsInHanded_of_change (C:=Tryz.checked) own ae (by kernel_rfl) Tryz.func8
  (ChangeSpec.witness6 (enc:=enc) (C:=Tryz.checked) false ⟨#[],#[.agg #[.int .i64 0,.int .i64 0,.slice none 0 0,.slice none 0 0,.slice none 0 0,.int .i64 0,.int .i64 0,.slice none 0 0,.int .i64 0,.int .i64 0,.int .i64 0,.slice none 0 0,.bool false],.slice none 0 0],[]⟩ 8 (by kernel_rfl) (by kernel_rfl) (by kernel_rfl) (by kernel_rfl)) ?_
 intro W base A ds gs af Q O aj _;have F:∀(j:Nat) t v,Tryz.f8.params[j]? = some t→A[j]? = some v→Value.okWide Tryz.prog W .any base t v:=Q;have ab:=O;obtain⟨p,q,J,hV,rfl,ak,al⟩:=O;have I:DataW.TrodAll enc Tryz.prog W 0 (fun _=>true) true Tryz.f8.params.toList A.toList ds p:=J;rw[Tryz.params8]at I F;obtain⟨V,am,d0,ag,p0,q0,ai,rfl,rfl,D,r0⟩:=trodAll_cons I;obtain⟨v1,an,d1,ah,p1,q1,rfl,rfl,rfl,E,r1⟩:=trodAll_cons r0;obtain⟨rfl,rfl,rfl⟩:=trodAll_nil r1
 obtain rfl:A=#[V,v1]:=by cases A;simp_all
 obtain⟨rfl,rfl⟩:=trodVars_none hV;have ac:=Y1 D;have k0:=D;obtain⟨aa,Y,rfl,w0⟩:=ZVa (c:=Y9a) Tryz.underlying32 Qfa (F 0 32 V rfl rfl) D;have ad:=Y1 E;have k1:=E;obtain⟨X,n1,c1,Z,rfl,w1⟩:=Xcb (size:=11) Tryz.underlying33 (by kernel_rfl) (by omega) Qea (F 1 33 v1 rfl rfl) E;clear J Q
 refine(DeskAgain_walk W aa Y w0 X n1 c1 Z w1).mono fun e W' ⟨he,bel⟩=>?_
 subst he;exact⟨_,rfl,_,_,_,[],_,[],ab,trodAll_mk1 (shut_bool Tryz.underlying4 _),(trodAll_cons_mk (Below.trod XN (by kernel_rfl) (of_decide_eq_true (by kernel_rfl)) k0 bel ac) (trodAll_cons_mk (Below.trod XN (by kernel_rfl) (of_decide_eq_true (by kernel_rfl)) k1 bel ad) trodAll_mk0)),rfl,bel.frame _,fun h=>by cases h⟩
theorem Z9a:(Rows.deskAgainRow.wf (OpenSpec.ofChange Rows.deskAgainSpec) && Tryz.f8.params.all (Tryz.prog.readableRec ·) && namedTie Tryz.prog Rows.deskAgainRow.named Rows.deskAgainSpec.vars && (Rows.deskAgainRow.stops == []) && (Tryz.prog.stops == []) && (Rows.deskAgainRow.knobs == []) && (Tryz.prog.stopKnobs == []))=true:=by kernel_rfl
theorem Uaa:((Rows.deskAgainRow.inPlace == Tryz.prog.inPlace 8) && (Rows.deskAgainRow.unfollowed == Tryz.prog.unfollowed 8) && (Rows.deskAgainRow.recurses == Tryz.prog.recurses 8) && (Rows.deskAgainRow.named == Tryz.prog.varsNamed 8))=true:=by kernel_rfl
theorem Uba:((Rows.deskAgainRow.maps == (Tryz.f8.params.toList++Rows.deskAgainSpec.plain.varTypes Tryz.prog).any (Tryz.prog.mapsRec ·)) && (Rows.deskAgainRow.ifaces == (Tryz.f8.params.toList++Rows.deskAgainSpec.plain.varTypes Tryz.prog).any (Tryz.prog.ifacesRec ·)) && (Rows.deskAgainRow.mapsOut == Tryz.prog.mapsAmong Tryz.f8.resultTypes.toList) && (Rows.deskAgainRow.loops == (Tryz.f8.params.toList++Rows.deskAgainSpec.plain.varTypes Tryz.prog).any (Tryz.prog.loopsFrom ·)) && (Rows.deskAgainRow.wideKeys == (Tryz.f8.params.toList++Rows.deskAgainSpec.plain.varTypes Tryz.prog++Tryz.f8.resultTypes.toList).any (Tryz.prog.wideKeysFrom ·)) &&
  Rows.deskAgainSpec.vars.all (Tryz.prog.varReadable ·) && Tryz.f8.resultTypes.all (fun t=>Tryz.prog.readableRec t && decide (t < Tryz.prog.types.size)) && (Rows.deskAgainRow.ifacesOut == Tryz.f8.resultTypes.toList.any (Tryz.prog.ifacesRec ·)) && (Rows.deskAgainRow.loopsOut == Tryz.f8.resultTypes.toList.any (Tryz.prog.loopsFrom ·)) && (Rows.deskAgainRow.plainKeys == Tryz.prog.plainKeys) && Rows.deskAgainRow.shortTexts.isNone)=true:=by kernel_rfl
theorem Uca:((Rows.deskAgainRow.lifted == Tryz.prog.liftsFinal) && (Tryz.prog.make == some Rows.deskAgainRow.make))=true:=by kernel_rfl
theorem Uda:((Rows.deskAgainRow.kinds == (if Rows.deskAgainRow.domain.isEmpty then []else Tryz.f8.params.toList.map fun t=>match Tryz.prog.underlying t with | some (.int k)=>some k | _=>none)) && (Rows.deskAgainRow.pinned == Rows.deskAgainRow.pinnedBy) && (Rows.deskAgainRow.veiled == (Tryz.f8.params.toList++Rows.deskAgainSpec.plain.varTypes Tryz.prog++Tryz.f8.resultTypes.toList).any (Tryz.prog.veiledRec ·)) && Rows.deskAgainRow.veiledFits Tryz.prog Tryz.f8.params.toList (Tryz.f8.params.toList++Rows.deskAgainSpec.plain.varTypes Tryz.prog++Tryz.f8.resultTypes.toList))=true:=by kernel_rfl
theorem deskAgain_holds:Rows.DeskAgainSaid:=
 OpenClaim.holds_of_wide 8 Tryz.f8 rfl rfl rfl rfl rfl rfl rfl ⟨rfl,rfl,rfl,rfl,rfl⟩ rfl rfl rfl rfl rfl (by kernel_rfl) Tryz.func8
  (Zla Z9a UKa ULa Uaa Uba Zga Zfa Uca Uda)
  (of_decide_eq_true (by kernel_rfl)) (by unfold Func.isWrapper;rw[if_neg (of_decide_eq_false (by kernel_rfl))];exact⟨rfl,rfl⟩)
  (fun A D H enc _=>Q1a A D H enc)
#print axioms deskAgain_holds
end Go.Proofs.YtjdcokpmgionjaaGreat
