/-
  The law DeskCrash returns true, whatever it is handed, and changes nothing that was there.
-/
import Derived.Test.YtjdcokpmgionjaaGreatBun21
import Derived.Test.YtjdcokpmgionjaaGreatBun31
import Derived.Test.YtjdcokpmgionjaaGreatBun36
import Derived.Test.YtjdcokpmgionjaaGreatBun40
import Derived.BigQuiet
set_option linter.unusedSimpArgs false
set_option linter.unusedVariables false
set_option maxRecDepth 100000
set_option maxHeartbeats 20000000
namespace Go.Proofs.YtjdcokpmgionjaaGreat
open Go.ChangeShapes Go.WideShapes Go.ChangeAt Go.RowKit Go.Shelf
theorem UQb {c:Nat}{A:Int}(h:¬A < 0):crE (c:Int) c A=0∧crN (c:Int) c A=(c:Int):=by
 constructor
 ·unfold crE
  rw[if_neg];rintro(q | q)
  ·unfold wrB at q
   rw[decide_eq_true (show(0:Int)≤(c:Int)by omega),decide_eq_true (Int.le_refl _)]at q
   cases q
  ·omega
 ·unfold crN;omega
theorem DeskCrash_walk (W:World)(bC:Array Value)(x:Sai)(bg:Y9a W All x bC.toList)(Al:Option Addr)(nl aS:Nat)(l:List Ask)(hl:Sl Xua 11 W All Al nl aS l)(ac:Int)(ik:InI ac) :
  Calls Tryz.prog 3 #[.agg bC,.slice Al nl aS,.int .i64 ac] W fun e w'=>e=.returned (.bool true)∧yw W w':=by
 obtain⟨p,rfl,hS,_,_,_,_⟩:=Znb bg;have aI:=yh (ZWa hl);have aJ:=yh (show l.length=nl from hl.len);have an:=yh (fun X hX h1 h2=>Xna x p Al nl aS l X hX h1 h2);have aG:=yh (fun X hX=>Xc x p X hX);obtain⟨r,hr⟩:∃r,r=Qp x:=⟨_,rfl⟩;rw[←hr]at aG an;obtain⟨U,aT⟩:∃q,q=tkD x l (min nl 20):=⟨_,rfl⟩;rw[←aT]at an
 have aN:=yh (show r=0→Qp x=0∧LogOk x U∧U.length≤20 from fun h=>by
  have hx:Qp x=0:=hr.symm.trans h;have:=X0a hx aI.out (min nl 20) (by have:=aJ.out;omega);rw[aT];exact⟨hx,this.1,by omega⟩)
 have HS:=yh hS;have HL:=yh hl;clear hr aT hS hl bg;obtain⟨A,n,cap,B,m,aR,D,nd,cd,E,ne,ce,C,nb,cb⟩:=p
 go_enter Tryz.func3,Tryz.ntmps3
 go_upto_region 0 with(fail)
 go_cut [3,6] (fun p _ J=>∃g,p=.pointer (some ⟨g,0,none⟩)∧Blk J g (Qa x ⟨A,n,cap,B,m,aR,D,nd,cd,E,ne,ce,C,nb,cb⟩) 32∧yw W J)
 case first=>as_aux_lemma=>
  go_wp2_with fail
  go_meet
  exact⟨_,rfl,Za _ _,Qf _ _⟩
 obtain⟨g,rfl,hG,aW⟩:=hcut;obtain⟨W0,bm⟩:∃V,V=wc:=⟨_,rfl⟩;subst bm;have HT:=yh (fun X (hX:yw W0 X)=>aW.trans (hX.mono aW.size));have HG:=yh (fun X (hX:yw W0 X)=>hG.bel hX);have ag:=yh (fun X (hX:yw W0 X)=>HS.out.bel (HT.out X hX));clear hG aW
 go_wp2_with fail
 refine(V7 _).mono ?_;rintro e v1 ⟨rfl,hb⟩
 go_wp2_with fail
 refine(YT _).mono ?_;rintro e v2 ⟨rfl,af⟩;replace hb:=hb.trans (af.mono hb.size);clear af
 go_wp2_with fail
 refine(Yx _).mono ?_;rintro e v4 ⟨rfl,af⟩;replace hb:=hb.trans (af.mono hb.size);clear af;have hg:=HG.out _ hb;have bz:=yh (aG.out _ (ag.out _ hb))
 go_wp2_with (refine wpList_load_row rfl 32 (.tmp 3) rfl g rfl 32 _ (0,0) _ hg Tryz.underlying32 rfl (by kernel_rfl) ?_)
 refine bz.out.mono ?_;rintro e v3 ⟨rfl,af⟩;replace hb:=hb.trans (af.mono hb.size);clear af hg bz aG;have ar:=yh (HT.out _ hb)
 by_cases q0:r=0
 rotate_left
 ·have q1:(r != 0)=true:=by simpa using q0
  clear q0 hb
  go_wp2_with fail
  go_ret
  exact⟨rfl,ar.out⟩
 subst q0;obtain⟨hx,aq,bD⟩:=aN.out rfl;obtain⟨V3,bl⟩:∃V,V=v3:=⟨_,rfl⟩;subst bl
 go_upto_region 5 with(fail)
 go_cut [7,8,9] (fun q v e J=>e=.bool true∧(∃u,v=u)∧(∃s A1 n1 Y,q=.pointer (some ⟨s,0,none⟩)∧Blk J s #[.slice A1 n1 Y,.int .i64 (n1:Int)] 39∧Sl ZL 13 J All A1 n1 Y U)∧yw W0 J)
 case first=>
  have HQ:=yh (an.out _ (ag.out _ hb) (HL.out.bel ar.out) (by trivial));have hg:=HG.out _ hb;have HB:=yh hb;clear an aN aI aJ HT HG ag HS HL ar hx aq bD hb
  go_wp2_with (refine wpList_load_row rfl 32 (.tmp 3) rfl g rfl 32 _ (0,0) _ hg Tryz.underlying32 rfl (by kernel_rfl) ?_)
  refine HQ.out.mono ?_;rintro e F ⟨⟨A1,n1,Y,v,rfl,hD⟩,Z⟩;have aH:=yh hD;have I:=yh Z;clear hD Z HQ hg
  go_wp2_with (refine wpList_store_row rfl 39 (.tmp 7) (.tmp 33) rfl F.heap.size #[.slice A1 n1 Y,.int .i64 (n1:Int)] rfl rfl 39 _ (Blk.new F #[.slice none 0 0,.int .i64 0] 39) (by kernel_rfl) rfl (by simp[Value.oneCell']) ?_)
  go_meet
  have aa:yw F ((F.alloc (.cells #[.slice none 0 0,.int .i64 0] 39)).setRow F.heap.size #[.slice A1 n1 Y,.int .i64 (n1:Int)]):=below_setRow (Qf F _) (Nat.le_refl _) _;exact⟨rfl,⟨_,rfl⟩,⟨_,A1,n1,Y,rfl,(Blk.new F _ _).row _,aH.out.bel aa⟩,HB.out.trans ((I.out.trans (aa.mono I.out.size)).mono HB.out.size)⟩
 obtain⟨rfl,⟨u6,rfl⟩,⟨s,A1,n1,Y,rfl,hZ,hD⟩,aX⟩:=hcut;obtain⟨W5,bn⟩:∃V,V=wc:=⟨_,rfl⟩;subst bn;have ab:=yh (fun X (hX:yw W5 X)=>aX.trans (hX.mono aX.size));have HZ:=yh (fun X (hX:yw W5 X)=>hZ.bel hX);have HD:=yh (fun X (hX:yw W5 X)=>hD.bel hX);have be:U.length=n1:=hD.len;have ae:=yh be
 have aZ:n1≤20:=by omega
 have aD:n1*104≤140737488355328:=by omega
 obtain⟨E1,aA⟩:∃r,r=crE (n1:Int) n1 ac:=⟨_,rfl⟩;obtain⟨N1,aU⟩:∃r,r=crN (n1:Int) n1 ac:=⟨_,rfl⟩;have aj:=yh (fun X (hX:yw W5 X)=>VKa A1 n1 Y U (n1:Int) ac X (HD.out _ hX) aD ik);rw[←aA,←aU]at aj;have au:=yh (show ¬ac < 0→E1=0∧N1=(n1:Int)from fun h=>by rw[aA,aU];exact UQb h);have av:=yh (show ac < 0→E1=3 from fun h=>by rw[aA];unfold crE;rw[if_pos (.inr h)]);have bu:=XKa hx aq (by omega);rw[ae.out]at bu;obtain⟨X1,aV⟩:∃r,r=U4 mkA x U:=⟨_,rfl⟩;have ah:=yh (show Qp X1=0 from by rw[aV];exact aq.right)
 have al:=yh (fun O Q X (h1:Sl ZL 13 X All O n1 Q U) (hX:yw W5 X)=>show Calls Tryz.prog 16 #[.agg (Qa x ⟨A,n,cap,B,m,aR,D,nd,cd,E,ne,ce,C,nb,cb⟩),.agg #[.slice O n1 Q,.int .i64 (n1:Int)]] X fun e w'=>(∃p',e=.returned (.tuple #[.agg (Qa X1 p'),.int .i64 0])∧SaiR w' X1 p')∧yw X w' from by
  have:=VNa QNa Xv x ⟨A,n,cap,B,m,aR,D,nd,cd,E,ne,ce,C,nb,cb⟩ O n1 Q U (n1:Int) X (ag.out _ (ab.out _ hX)) h1 (fun y hy d hd hc=>VX hy (aq.mem d hd).1.1 hc);rw[bu,←aV]at this;refine this.mono ?_;rintro e w' ⟨⟨y,p',rfl,hy,hO⟩,hb⟩;rw[UJ]at hy;subst hy;exact⟨⟨p',rfl,hO.sai⟩,hb⟩)
 have am:=yh (fun O Q X (h1:Sl ZL 13 X All O n1 Q U) (hX:yw W5 X)=>X8 O A1 n1 Q n1 Y U U (n1:Int) (n1:Int) X h1 (HD.out _ hX));rw[decide_eq_true (show(n1:Int)=(n1:Int)∧U=U from⟨rfl,rfl⟩)]at am;have hb:=Below.refl W5.heap.size W5;clear hx aq bD hZ hD be an aN aI aJ HS HL ar aX bu aV aA aU
 go_upto_region 6 with(fail)
 go_cut [10,11] (fun q e J=>e=.int .i64 E1∧(∃s2 O n2 Q,q=.pointer (some ⟨s2,0,none⟩)∧Blk J s2 #[.slice O n2 Q,.int .i64 (okI E1 N1)] 39∧Sl ZL 13 J All O n2 Q (okL E1 (U.take N1.toNat)))∧yw W5 J)
 case first=>
  have HC:=yh (aj.out _ hb);have hs:=HZ.out _ hb;clear HT ab HZ HD ae am HG ag aj au av ah al hb aD aZ
  go_wp2_with (refine wpList_load_row rfl 39 (.tmp 7) rfl s rfl 39 _ (0,0) _ hs Tryz.underlying39 rfl (by kernel_rfl) ?_)
  refine HC.out.mono ?_;rintro e F ⟨⟨v,xs,rfl,hO⟩,Z⟩;obtain⟨O,n2,Q,rfl,bf⟩:=hO.sl Qm;have aH:=yh (bf.all Qm (by omega));have I:=yh Z;clear hO bf Z HC hs
  go_wp2_with (refine wpList_store_row rfl 39 (.tmp 10) (.tmp 40) rfl F.heap.size #[.slice O n2 Q,.int .i64 (okI E1 N1)] rfl rfl 39 _ (Blk.new F #[.slice none 0 0,.int .i64 0] 39) (by kernel_rfl) rfl (by simp[Value.oneCell']) ?_)
  go_meet
  have aa:yw F ((F.alloc (.cells #[.slice none 0 0,.int .i64 0] 39)).setRow F.heap.size #[.slice O n2 Q,.int .i64 (okI E1 N1)]):=below_setRow (Qf F _) (Nat.le_refl _) _;exact⟨rfl,⟨_,O,n2,Q,rfl,(Blk.new F _ _).row _,aH.out.bel aa⟩,I.out.trans (aa.mono I.out.size)⟩
 obtain⟨rfl,⟨s2,O,n2,Q,rfl,aB,ap⟩,hb⟩:=hcut;obtain⟨W6,bo⟩:∃V,V=wc:=⟨_,rfl⟩;subst bo
 by_cases qk:ac < 0
 ·have q1:decide (ac < 0)=true:=decide_eq_true qk
  obtain rfl:3=E1:=(av.out qk).symm;have HB:=yh (HT.out _ (ab.out _ hb));clear HT ab HZ HD ae am HG ag aj au av ah al hb aD aZ aB ap qk ik
  go_wp2_with fail
  go_ret
  exact⟨rfl,HB.out⟩
 have q1:decide (ac < 0)=false:=decide_eq_false qk;obtain⟨he,hn⟩:=au.out qk;obtain rfl:0=E1:=he.symm;rw[Zn,hn]at aB;rw[QG,hn,Int.toNat_natCast,List.take_of_length_le (by have:=ae.out;omega)]at ap;obtain rfl:n1=n2:=ae.out.symm.trans ap.len;have ao:=yh (fun X (hX:yw W6 X)=>aB.bel hX);have ak:=yh (fun X (hX:yw W6 X)=>ap.bel hX);have bt:=yh (fun X (hX:yw W6 X)=>hb.trans (hX.mono hb.size));have ax:=yh (fun X (hX:yw W6 X)=>am.out O Q X (ak.out _ hX) (bt.out _ hX));have aK:=yh (fun X (hX:yw W6 X)=>al.out A1 Y X (HD.out _ (bt.out _ hX)) (bt.out _ hX));have aL:=yh (fun X (hX:yw W6 X)=>al.out O Q X (ak.out _ hX) (bt.out _ hX));have hb:=Below.refl W6.heap.size W6;clear he hn aB ap aj au av al am qk ik aD aZ ag
 go_upto_region 9 with(fail)
 go_cut [12,13] (fun q e J=>e=.int .i64 0∧(∃z1 p1,q=.pointer (some ⟨z1,0,none⟩)∧Blk J z1 (Qa X1 p1) 32∧SaiR J X1 p1)∧yw W6 J)
 case first=>
  have HC:=yh (aK.out _ hb);have hg:=HG.out _ (ab.out _ (bt.out _ hb));have hs:=HZ.out _ (bt.out _ hb);clear HT ab HZ HD ae HG ah ao ak bt ax aK aL hb
  go_wp2_with (first | (refine wpList_load_row rfl 32 (.tmp 3) rfl g rfl 32 _ (0,0) _ hg Tryz.underlying32 rfl (by kernel_rfl) ?_) | (refine wpList_load_row rfl 39 (.tmp 7) rfl s rfl 39 _ (0,0) _ hs Tryz.underlying39 rfl (by kernel_rfl) ?_))
  refine HC.out.mono ?_;rintro e F ⟨⟨p1,rfl,hO⟩,Z⟩;have aM:=yh hO;have I:=yh Z;clear hO Z HC hg hs
  go_wp2_with (refine wpList_store_row rfl 32 (.tmp 12) (.tmp 57) rfl F.heap.size (Qa X1 p1) rfl rfl 32 _ (Blk.new F #[.int .i64 0,.int .i64 0,.slice none 0 0,.slice none 0 0,.slice none 0 0,.int .i64 0,.int .i64 0,.slice none 0 0,.int .i64 0,.int .i64 0,.int .i64 0,.slice none 0 0,.bool false] 32) (by kernel_rfl) rfl (by simp[Value.oneCell']) ?_)
  go_meet
  have aa:yw F ((F.alloc (.cells #[.int .i64 0,.int .i64 0,.slice none 0 0,.slice none 0 0,.slice none 0 0,.int .i64 0,.int .i64 0,.slice none 0 0,.int .i64 0,.int .i64 0,.int .i64 0,.slice none 0 0,.bool false] 32)).setRow F.heap.size (Qa X1 p1)):=below_setRow (Qf F _) (Nat.le_refl _) _;exact⟨rfl,⟨_,p1,rfl,(Blk.new F _ _).row _,aM.out.bel aa⟩,I.out.trans (aa.mono I.out.size)⟩
 obtain⟨rfl,⟨z1,p1,rfl,bb,bE⟩,hb⟩:=hcut;obtain⟨W7,bp⟩:∃V,V=wc:=⟨_,rfl⟩;subst bp;have ay:=yh (fun X (hX:yw W7 X)=>bb.bel hX);have aw:=yh (fun X (hX:yw W7 X)=>bE.bel hX);have ad:=yh (fun X (hX:yw W7 X)=>hb.trans (hX.mono hb.size));have hb:=Below.refl W7.heap.size W7;clear bb bE aK
 go_upto_region 10 with(fail)
 go_cut [14,15] (fun q e J=>e=.int .i64 0∧(∃z2 p2,q=.pointer (some ⟨z2,0,none⟩)∧Blk J z2 (Qa X1 p2) 32∧SaiR J X1 p2)∧yw W7 J)
 case first=>
  have HC:=yh (aL.out _ (ad.out _ hb));have hg:=HG.out _ (ab.out _ (bt.out _ (ad.out _ hb)));have hs:=ao.out _ (ad.out _ hb);clear HT ab HZ HD ae HG ah ao ak bt ax aL ay aw ad hb
  go_wp2_with (first | (refine wpList_load_row rfl 32 (.tmp 3) rfl g rfl 32 _ (0,0) _ hg Tryz.underlying32 rfl (by kernel_rfl) ?_) | (refine wpList_load_row rfl 39 (.tmp 10) rfl s2 rfl 39 _ (0,0) _ hs Tryz.underlying39 rfl (by kernel_rfl) ?_))
  refine HC.out.mono ?_;rintro e F ⟨⟨p2,rfl,hO⟩,Z⟩;have aM:=yh hO;have I:=yh Z;clear hO Z HC hg hs
  go_wp2_with (refine wpList_store_row rfl 32 (.tmp 14) (.tmp 63) rfl F.heap.size (Qa X1 p2) rfl rfl 32 _ (Blk.new F #[.int .i64 0,.int .i64 0,.slice none 0 0,.slice none 0 0,.slice none 0 0,.int .i64 0,.int .i64 0,.slice none 0 0,.int .i64 0,.int .i64 0,.int .i64 0,.slice none 0 0,.bool false] 32) (by kernel_rfl) rfl (by simp[Value.oneCell']) ?_)
  go_meet
  have aa:yw F ((F.alloc (.cells #[.int .i64 0,.int .i64 0,.slice none 0 0,.slice none 0 0,.slice none 0 0,.int .i64 0,.int .i64 0,.slice none 0 0,.int .i64 0,.int .i64 0,.int .i64 0,.slice none 0 0,.bool false] 32)).setRow F.heap.size (Qa X1 p2)):=below_setRow (Qf F _) (Nat.le_refl _) _;exact⟨rfl,⟨_,p2,rfl,(Blk.new F _ _).row _,aM.out.bel aa⟩,I.out.trans (aa.mono I.out.size)⟩
 obtain⟨rfl,⟨z2,p2,rfl,bc,ba⟩,hb⟩:=hcut;obtain⟨W8,bq⟩:∃V,V=wc:=⟨_,rfl⟩;subst bq;have bB:=yh (fun X (hX:yw W8 X)=>bc.bel hX);have bA:=yh (fun X (hX:yw W8 X)=>ba.bel hX);have I:=yh hb;have hL:=ao.out _ (ad.out _ hb);have hM:=HZ.out _ (bt.out _ (ad.out _ hb));have l0:yJ W8 s2 0 O n1 Q:=hL.cell rfl;have l1:yI W8 s2 1 (n1:Int):=hL.cell rfl;have m0:yJ W8 s 0 A1 n1 Y:=hM.cell rfl;have m1:yI W8 s 1 (n1:Int):=hM.cell rfl;have bv:=yh (ax.out _ (ad.out _ hb));clear bc ba hL hM hb ax HZ ao HD ak ae HG
 go_wp2_with fail
 refine bv.out.mono ?_;rintro e w9 ⟨rfl,ai⟩;have bw:=yh (U9 X1 p1 p2 w9 (aw.out _ (I.out.trans (ai.mono I.out.size))) (bA.out _ ai));obtain⟨a0,a1,a2,a3,a4,a5,a6,a7,a8,a9,aO,aP,aQ⟩:=Z7 (ay.out _ (I.out.trans (ai.mono I.out.size)));obtain⟨f0,f1,f2,f3,f4,f5,f6,f7,f8,f9,bi,bj,bk⟩:=Z7 (bB.out _ ai);have aF:=yh ai;clear l0 l1 m0 m1 ai bv
 go_wp2_with fail
 refine bw.out.mono ?_;rintro e br ⟨rfl,aC⟩;replace aC:=aF.out.trans (aC.mono aF.out.size);clear a0 a1 a2 a3 a4 a5 a6 a7 a8 a9 aO aP aQ f0 f1 f2 f3 f4 f5 f6 f7 f8 f9 bi bj bk bw aF;have az:=I.out.trans (aC.mono I.out.size);have aY:=Q8 X1 p1 br (aw.out _ az);rw[ah.out]at aY;have bx:=yh aY;obtain⟨a0,a1,a2,a3,a4,a5,a6,a7,a8,a9,aO,aP,aQ⟩:=Z7 (ay.out _ az);have aE:=yh az;clear aY aC az
 go_wp2_with fail
 refine bx.out.mono ?_;rintro e bs ⟨rfl,bd⟩;have bh:=yh (HT.out _ (ab.out _ (bt.out _ (ad.out _ (aE.out.trans (bd.mono aE.out.size))))));clear a0 a1 a2 a3 a4 a5 a6 a7 a8 a9 aO aP aQ bd aE bx ah aw bA ay bB ad bt ab HT
 go_wp2_with fail
 go_ret
 exact⟨rfl,bh.out⟩
theorem Q2a (V:Os)(af:V.Started)(H:Type)(enc:TypeId×Value→H) :
  ReturnsInHanded {} Tryz.checked V 3 .any (Rows.deskCrashSpec.pre6 enc Tryz.prog Tryz.f3 Rows.deskCrashRow.domain false) (Rows.deskCrashSpec.post enc Tryz.prog Tryz.f3 false true false false):=by
 refine returnsInHanded_of_change (C:=Tryz.checked) own af (by kernel_rfl) Tryz.func3
  (ChangeSpec.witness6 (enc:=enc) (C:=Tryz.checked) false ⟨#[],#[.agg #[.int .i64 0,.int .i64 0,.slice none 0 0,.slice none 0 0,.slice none 0 0,.int .i64 0,.int .i64 0,.slice none 0 0,.int .i64 0,.int .i64 0,.int .i64 0,.slice none 0 0,.bool false],.slice none 0 0,.int .i64 0],[]⟩ 8 (by kernel_rfl) (by kernel_rfl) (by kernel_rfl) (by kernel_rfl)) ?_
 intro W base A ds gs ag U Q al _;have D:∀(j:Nat) t v,Tryz.f3.params[j]? = some t→A[j]? = some v→Value.okWide Tryz.prog W .any base t v:=U;have ab:=Q;obtain⟨p,q,O,hV,rfl,am,an⟩:=Q;have J:DataW.TrodAll enc Tryz.prog W 0 (fun _=>true) true Tryz.f3.params.toList A.toList ds p:=O;rw[Tryz.params3]at J D;obtain⟨v0,ao,d0,ah,p0,q0,ak,rfl,rfl,E,r0⟩:=trodAll_cons J;obtain⟨X,ap,d1,ai,p1,q1,rfl,rfl,rfl,F,r1⟩:=trodAll_cons r0;obtain⟨Y,aq,d2,aj,p2,q2,rfl,rfl,rfl,I,r2⟩:=trodAll_cons r1;obtain⟨rfl,rfl,rfl⟩:=trodAll_nil r2
 obtain rfl:A=#[v0,X,Y]:=by cases A;simp_all
 obtain⟨rfl,rfl⟩:=trodVars_none hV;have ac:=Y1 E;have k0:=E;obtain⟨aa,a0,rfl,w0⟩:=ZVa (c:=Y9a) Tryz.underlying32 Qfa (D 0 32 v0 rfl rfl) E;have ad:=Y1 F;have k1:=F;obtain⟨Z,n1,c1,a1,rfl,w1⟩:=Xcb (size:=11) Tryz.underlying33 (by kernel_rfl) (by omega) Qea (D 1 33 X rfl rfl) F;have ae:=Y1 I;have k2:=I;obtain⟨a2,rfl,w2⟩:=Y9b Tryz.underlying3 (D 2 3 Y rfl rfl) I;clear O U
 refine(DeskCrash_walk W aa a0 w0 Z n1 c1 a1 w1 a2 w2).mono fun e W' ⟨he,bel⟩=>?_
 subst he;exact⟨_,rfl,_,_,_,[],_,[],ab,trodAll_mk1 (shut_bool Tryz.underlying4 _),(trodAll_cons_mk (Below.trod XN (by kernel_rfl) (of_decide_eq_true (by kernel_rfl)) k0 bel ac) (trodAll_cons_mk (Below.trod XN (by kernel_rfl) (of_decide_eq_true (by kernel_rfl)) k1 bel ad) (trodAll_cons_mk (Below.trod XN (by kernel_rfl) (of_decide_eq_true (by kernel_rfl)) k2 bel ae) trodAll_mk0))),rfl,bel.frame _,fun h=>by cases h⟩
theorem Uea:(Rows.deskCrashRow.wf (OpenSpec.ofChange Rows.deskCrashSpec) && Tryz.f3.params.all (Tryz.prog.readableRec ·) && namedTie Tryz.prog Rows.deskCrashRow.named Rows.deskCrashSpec.vars && (Rows.deskCrashRow.stops == []) && (Tryz.prog.stops == []) && (Rows.deskCrashRow.knobs == []) && (Tryz.prog.stopKnobs == []))=true:=by kernel_rfl
theorem Ufa:((Rows.deskCrashRow.inPlace == Tryz.prog.inPlace 3) && (Rows.deskCrashRow.unfollowed == Tryz.prog.unfollowed 3) && (Rows.deskCrashRow.recurses == Tryz.prog.recurses 3) && (Rows.deskCrashRow.named == Tryz.prog.varsNamed 3))=true:=by kernel_rfl
theorem Uga:((Rows.deskCrashRow.maps == (Tryz.f3.params.toList++Rows.deskCrashSpec.plain.varTypes Tryz.prog).any (Tryz.prog.mapsRec ·)) && (Rows.deskCrashRow.ifaces == (Tryz.f3.params.toList++Rows.deskCrashSpec.plain.varTypes Tryz.prog).any (Tryz.prog.ifacesRec ·)) && (Rows.deskCrashRow.mapsOut == Tryz.prog.mapsAmong Tryz.f3.resultTypes.toList) && (Rows.deskCrashRow.loops == (Tryz.f3.params.toList++Rows.deskCrashSpec.plain.varTypes Tryz.prog).any (Tryz.prog.loopsFrom ·)) && (Rows.deskCrashRow.wideKeys == (Tryz.f3.params.toList++Rows.deskCrashSpec.plain.varTypes Tryz.prog++Tryz.f3.resultTypes.toList).any (Tryz.prog.wideKeysFrom ·)) &&
  Rows.deskCrashSpec.vars.all (Tryz.prog.varReadable ·) && Tryz.f3.resultTypes.all (fun t=>Tryz.prog.readableRec t && decide (t < Tryz.prog.types.size)) && (Rows.deskCrashRow.ifacesOut == Tryz.f3.resultTypes.toList.any (Tryz.prog.ifacesRec ·)) && (Rows.deskCrashRow.loopsOut == Tryz.f3.resultTypes.toList.any (Tryz.prog.loopsFrom ·)) && (Rows.deskCrashRow.plainKeys == Tryz.prog.plainKeys) && Rows.deskCrashRow.shortTexts.isNone)=true:=by kernel_rfl
theorem Uha:((Rows.deskCrashRow.lifted == Tryz.prog.liftsFinal) && (Tryz.prog.make == some Rows.deskCrashRow.make))=true:=by kernel_rfl
theorem Uia:((Rows.deskCrashRow.kinds == (if Rows.deskCrashRow.domain.isEmpty then []else Tryz.f3.params.toList.map fun t=>match Tryz.prog.underlying t with | some (.int k)=>some k | _=>none)) && (Rows.deskCrashRow.pinned == Rows.deskCrashRow.pinnedBy) && (Rows.deskCrashRow.veiled == (Tryz.f3.params.toList++Rows.deskCrashSpec.plain.varTypes Tryz.prog++Tryz.f3.resultTypes.toList).any (Tryz.prog.veiledRec ·)) && Rows.deskCrashRow.veiledFits Tryz.prog Tryz.f3.params.toList (Tryz.f3.params.toList++Rows.deskCrashSpec.plain.varTypes Tryz.prog++Tryz.f3.resultTypes.toList))=true:=by kernel_rfl
theorem deskCrash_holds:Rows.DeskCrashSaid:=
 OpenClaim.holds_of_wide 3 Tryz.f3 rfl rfl rfl rfl rfl rfl rfl ⟨rfl,rfl,rfl,rfl,rfl⟩ rfl rfl rfl rfl rfl (by kernel_rfl) Tryz.func3
  (Zla Uea UKa ULa Ufa Uga Zga Zfa Uha Uia)
  (of_decide_eq_true (by kernel_rfl)) (by unfold Func.isWrapper;rw[if_neg (of_decide_eq_false (by kernel_rfl))];exact⟨rfl,rfl⟩)
  (fun A D H enc _=>Q2a A D H enc)
#print axioms deskCrash_holds
end Go.Proofs.YtjdcokpmgionjaaGreat
