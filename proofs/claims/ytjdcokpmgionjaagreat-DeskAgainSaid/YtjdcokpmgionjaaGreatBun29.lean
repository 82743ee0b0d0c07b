/-
  Words, laws and contracts: DeskK, DeskL.
-/
import Derived.Test.YtjdcokpmgionjaaGreatBun24
import Derived.Test.YtjdcokpmgionjaaGreatBun28
import Derived.BigQuiet
import Derived.KernelRfl
set_option linter.unusedSimpArgs false
set_option linter.unusedVariables false
set_option maxRecDepth 100000
set_option maxHeartbeats 20000000
namespace Go.Proofs.YtjdcokpmgionjaaGreat
open Go.RowKit Go.Shelf
def StR (w':World) (base:Nat) (E:Int) (L:List Don) (wr:Int) (N:Ans) (e:Ending):Prop:=∃v xs an,e=.returned (.tuple #[.agg #[v,.int .i64 (okI E wr)],.agg (QK an),.int .i64 E])∧an=okA E N∧Own ZL 13 106 w' base v (okL E L) xs
noncomputable def ZJa (mk:Mk) (X:Sai) (l:List Don) (wr:Int) (q:Ask×Int):List Don×Int×Ans×Int:=
 if q.2≠0 then (l,wr,⟨q.2,0⟩,0)else if l.any (QW q.1)=true then
  (if (l.getD (Uq (QW q.1) l).toNat default).ask=q.1 then (l,wr,(l.getD (Uq (QW q.1) l).toNat default).ans,0)else (l,wr,⟨6,0⟩,0))
 else if l.length=30 then ([],0,⟨0,0⟩,2)else (l++[⟨q.1,doA mk X q.1⟩],(l.length:Int)+1,doA mk X q.1,0)
noncomputable def Xy (mk:Mk) (x:Sai) (l:List Don) (wr:Int) (s:List UInt8):List Don×Int×Ans×Int:=
 if VT mk x l wr≠0 then ([],0,⟨0,0⟩,VT mk x l wr)else ZJa mk (U4 mk x l) l wr (Yh s)
theorem ZLc (w:World)(S:Nat→Prop)(d:Don)(t:TypeId)(h:X5a d)(A:S w.heap.size):Sl ZL 13 (w.alloc (.cells (VC d) t)) S (some ⟨w.heap.size,0,none⟩) 1 1 [d]:=
 Sl.lit1 w S t d (VC d).toList ⟨rfl,h⟩ A
theorem Qsa {P:Sai→Ask→Prop}{mk:Mk}(HM:MadeC P mk)(HR:X7 P mk)(x:Sai)(p:SaiV)(A:Option Addr)(n cap:Nat)(l:List Don)(wr:Int)(s:List UInt8)(w:World)(hS:SaiR w x p)(hl:Sl ZL 13 w All A n cap l)
  (hP:∀y,Qp y=0→∀d∈l,QU d.ask=0→P y d.ask) (bs:∀y,Qp y=0→(Yh s).2=0→P y (Yh s).1) (bu:(Yh s).2=0→Xb (Yh s).1) (ha:∀y,Qp y=0→(Yh s).2=0→InI (doA mk y (Yh s).1).errno∧InI (doA mk y (Yh s).1).owed) :
  Calls Tryz.prog 53 #[.agg (Qa x p),.agg #[.slice A n cap,.int .i64 wr],.string ⟨s.toArray⟩] w fun e w'=>StR w' w.heap.size (Xy mk x l wr s).2.2.2 (Xy mk x l wr s).1 (Xy mk x l wr s).2.1 (Xy mk x l wr s).2.2.1 e∧yw w w':=by
 have a1:=yh (fun X h1 h2=>QDa HM HR x p A n cap l wr X h1 h2 hP);have au:=yh (fun X=>Z8a s X);obtain⟨R,hR⟩:∃r,r=VT mk x l wr:=⟨_,rfl⟩;obtain⟨X,hX⟩:∃r,r=U4 mk x l:=⟨_,rfl⟩;obtain⟨V,hV⟩:∃r,r=Xy mk x l wr s:=⟨_,rfl⟩;obtain⟨Q,hQ⟩:∃r,r=Yh s:=⟨_,rfl⟩;have HV:=yh (show V=if R≠0 then ([],0,⟨0,0⟩,R)else ZJa mk X l wr Q by rw[hV,hR,hX,hQ];rfl)
 have bb:=yh (show R=0→n≤30 from fun h=>by
  rw[hR]at h;unfold VT at h;rw[←hl.len]
  by_cases h1:Qp x≠0
  ·rw[if_pos h1]at h;exact absurd h h1
  rw[if_neg h1]at h
  by_cases h2:30 < l.length
  ·rw[if_pos h2]at h;omega
  ·omega)
 rw[←hR,←hX]at a1;rw[←hQ]at au bs bu ha;rw[←hV];have HS:=yh hS;have HL:=yh hl;clear hR hX hV hQ hS hl;obtain⟨AA,nn,cn,B,m,cm,D,nd,cd,E,ne,ce,C,nb,cb⟩:=p
 go_enter Tryz.func53,Tryz.ntmps53
 go_upto_region 0 with(fail)
 go_cut [3,4,6,7,8] (fun p p2 p3 p4 p5 I=>∃g h z q,p=.pointer (some ⟨g,0,none⟩)∧p2=.pointer (some ⟨h,0,none⟩)∧p3=.pointer (some ⟨z,0,none⟩)∧p4=.pointer (some ⟨q,0,none⟩)∧p5=.int .i64 0∧w.heap.size≤z∧w.heap.size≤q∧z≠q∧
  Blk I g (Qa x ⟨AA,nn,cn,B,m,cm,D,nd,cd,E,ne,ce,C,nb,cb⟩) 32∧Blk I h #[.slice A n cap,.int .i64 wr] 39∧Blk I z #[.slice none 0 0,.int .i64 0] 39∧Blk I q #[.int .i64 0,.int .i64 0] 55∧yw w I)
 case first=>
  clear a1 au HV HS HL bb
  go_wp2_with fail
  go_meet
  exact⟨_,_,_,_,rfl,rfl,rfl,rfl,rfl,by omega,by omega,by omega,((Blk.new w _ _).old _).old _ |>.old _,((Blk.new1 w _ _ _).old _).old _,(Blk.new2 w _ _ _ _).old _,Blk.new3 w _ _ _ _ _,(Q8a _ _ _ _).alloc (by simp;omega) _⟩
 obtain⟨g,h,z,q,rfl,rfl,rfl,rfl,rfl,hz,hq,ag,hG,hH,hZ,hQ,aO⟩:=hcut;obtain⟨W1,cq⟩:∃V,V=wc:=⟨_,rfl⟩;subst cq;have HT:=yh (fun X (hX:yw W1 X)=>aO.trans (hX.mono aO.size));have HG:=yh (fun X (hX:yw W1 X)=>hG.bel hX);have HH:=yh (fun X (hX:yw W1 X)=>hH.bel hX);have HZ:=yh (fun X (hX:yw W1 X)=>hZ.bel hX);have HQ:=yh (fun X (hX:yw W1 X)=>hQ.bel hX);have ai:=yh (fun X (hX:yw W1 X)=>HL.out.bel (HT.out X hX));have c5:=hZ.lt;have cU:=hQ.lt;have cW:=aO.size
 have ah:=yh (show ∀V u u2,yw W1 V→yw w ((V.setRow z u).setRow q u2)from fun V u u2 hX=>
  ((HT.out V hX).trans ((((Kept.refl (fun k=>k=z∨k=q) V).setRow (.inl (.inl rfl)) u).setRow (.inl (.inr rfl)) u2).below (B:=w.heap.size) (HT.out V hX).size (fun k hk e=>by omega))))
 have an:=yh (show ∀(E':Int) V L cf N,¬E'=0→yw W1 V→StR ((V.setRow z #[.slice none 0 0,.int .i64 0]).setRow q #[.int .i64 0,.int .i64 0]) w.heap.size E' L cf N (.returned (.tuple #[.agg #[.slice none 0 0,.int .i64 0],.agg #[.int .i64 0,.int .i64 0],.int .i64 E']))∧yw w ((V.setRow z #[.slice none 0 0,.int .i64 0]).setRow q #[.int .i64 0,.int .i64 0])from fun E' V L cf N h0 hX=>
  ⟨⟨.slice none 0 0,[],⟨0,0⟩,by rw[Q9b h0],(Q8b h0 _).symm,by rw[Yq h0];exact Own.nil _ _ _ _ _⟩,ah.out V _ _ hX⟩)
 have HC:=yh (a1.out _ (HS.out.bel aO) (HL.out.bel aO));have hb:yw W1 W1:=Below.refl _ _;clear hG hH hZ hQ aO a1 HS
 go_wp2_with (first | (refine wpList_load_row rfl 32 (.tmp 3) rfl g rfl 32 _ (0,0) _ (HG.out _ hb) Tryz.underlying32 rfl (by kernel_rfl) ?_) | (refine wpList_load_row rfl 39 (.tmp 4) rfl h rfl 39 _ (0,0) _ (HH.out _ hb) Tryz.underlying39 rfl (by kernel_rfl) ?_))
 refine HC.out.mono ?_;rintro e w2 ⟨cC,bv⟩;replace hb:=hb.trans (bv.mono hb.size);have cY:=bv.size;clear HC bv
 rcases cC with⟨ck,p5,rfl,rfl,cM,bk,bT,b7⟩ | ⟨h0,rfl⟩
 rotate_left
 ·have cK:(R != 0)=true:=by simpa using h0
  have bU:=HV.out.trans (if_pos h0);have aG:=yh bU;have H0:=yh h0;clear h0 bU;have aa:=HZ.out _ hb;have ak:=HQ.out _ hb;have Z:=UP ak (Ne.symm ag) #[.slice none 0 0,.int .i64 0];have al:=UP (aa.row #[.slice none 0 0,.int .i64 0]) ag #[.int .i64 0,.int .i64 0]
  go_wp2_with (first | (refine wpList_store_row rfl 39 (.tmp 6) (.tmp 23) rfl z #[.slice none 0 0,.int .i64 0] rfl rfl 39 _ aa (by kernel_rfl) rfl (by simp[Value.oneCell']) ?_) | (refine wpList_store_row rfl 55 (.tmp 7) (.tmp 24) rfl q #[.int .i64 0,.int .i64 0] rfl rfl 55 _ Z (by kernel_rfl) rfl (by simp[Value.oneCell']) ?_))
  refine bodyPost_ret (v:=.tuple #[.agg #[.slice none 0 0,.int .i64 0],.agg #[.int .i64 0,.int .i64 0],.int .i64 R]) (Blk.ret22 (k:=6) (l:=7) (u:=8) (by kernel_rfl) al (Z.row #[.int .i64 0,.int .i64 0]) rfl rfl rfl Tryz.underlying39 (by kernel_rfl) (by kernel_rfl) Tryz.underlying55 (by kernel_rfl) (by kernel_rfl)) rfl ?_;rw[aG.out];exact an.out _ _ _ _ _ H0.out hb
 have aG:=yh (HV.out.trans (if_neg (by simp)));have HN:=yh (bb.out rfl);clear HV bb;have cN:=bk.lt;have ae:=yh bk;clear bk;have af:=yh bT;clear bT;have ao:=yh b7;clear b7;have aA:=yh hb;clear hb
 go_upto_region 4 with(fail)
 go_cut [11] (fun p I=>∃o v xs,p=.pointer (some ⟨o,0,none⟩)∧w2.heap.size≤o∧Blk I o #[v,.int .i64 wr] 39∧Own ZL 13 106 I w2.heap.size v l xs∧some o≠v.ownBlock∧yw w2 I)
 case first=>
  have ab:yw w2 w2.drew:=(Below.refl _ w2).drew
  have a3:=yh (show ∀X,yw w2 X→(fun w'=>yJ w' h 0 A n cap∧yI w' h 1 wr) X from fun X hX=>by
   have hh:=(HH.out _ (aA.out.trans (hX.mono aA.out.size)));exact⟨hh.cell rfl,hh.cell rfl⟩)
  have ci:=yh (fun X (hX:yw w2 X)=>VHa A n cap l X (ai.out _ (aA.out.trans (hX.mono aA.out.size))) (by have:=HN.out;omega));clear HT HG HH HZ HQ ai ah an aG HN ae af ao aA;refine wp_region_held_drew (S:=(fun w'=>yJ w' h 0 A n cap∧yI w' h 1 wr)) (by kernel_rfl) (a3.out _ ab) (fun ax=>?_);refine yT [0,1,3,4] (by kernel_rfl) (by assumption) ?_
  iterate 4 (refine yS (v:=?_) (gA rfl) (fun _ _ _ h=>h) rfl ?_ ?_;rotate_left;(focus (intro w aj;(try dsimp only at aj);go_simp<;>with_reducible rfl));simp only[yP,yA,yB,yC])
  focus
   refine Qja 2 6 (by kernel_rfl) (gA rfl) (gA rfl) (fun K k2=>?_) (fun K k6=>?_)
   repeat first
    |
     revert k2
     intro hK;go_simp
     (go_at_call 74;refine(ci.out _ ab).mono ?_;rintro e w6 ⟨v,xs,rfl,hO,ad⟩;obtain⟨J,n5,F,rfl,-⟩:=hO.sl Qm;(try replace hL:=fun g hg=>(hL g hg).bel ad);have cF:=ab.size;replace ab:=ab.trans (ad.mono ab.size);clear ad)
     go_wp2_with fail
     refine hK.out _ _ (a3.out _ ab) fun ax=>?_
     clear hK K
     try simp only[yP,yQ,yA,yB,yC]
     refine yT [5] (by kernel_rfl) (by assumption) ?_
     iterate 1 (refine yS (v:=?_) (gA rfl) (fun _ _ _ h=>h) rfl ?_ ?_;rotate_left;(focus (intro w aj;(try dsimp only at aj);go_simp<;>with_reducible rfl));simp only[yP,yA,yB,yC])
     first
      | refine UF 6 (by(fail_if_success (fail_if_success decide +kernel));kernel_rfl) (gA rfl) (fun K k6=>?_)
      | rotate_left
    |
     revert k6
     intro hK;go_simp
     refine hK.out _ _ (a3.out _ (ab.alloc ab.size (.cells #[.slice none 0 0,.int .i64 0] 39))) fun ax=>?_
     clear hK K
     try simp only[yP,yQ,yA,yB,yC]
     (have hL:=ZF ab #[.slice none 0 0,.int .i64 0] 39;have bz:=V9 ab;replace ab:=ab.alloc ab.size (.cells #[.slice none 0 0,.int .i64 0] 39))
     first
      | refine UF 2 (by(fail_if_success (fail_if_success decide +kernel));kernel_rfl) (gA rfl) (fun K k2=>?_)
      | rotate_left
   all_goals
    refine yR 7 (by kernel_rfl) (gA rfl) fun K hK=>?_
    (refine wp_store_row 39 (.tmp 11) (.tmp 31) rfl _ #[.slice J n5 F,.int .i64 wr] rfl rfl 39 _ (hL _ (by simp)) (by kernel_rfl) rfl (by simp[Value.oneCell']) ?_)
    refine hK.out _ _ (a3.out _ (below_setRow ab (bz _ (by simp)) _)) fun ax=>?_
    clear hK K
    try simp only[yP,yQ,yA,yB,yC]
    refine wpAnyH_done (by kernel_rfl) ?_ _
    go_wp2_with fail
    go_meet
    refine⟨_,_,xs,rfl,bz _ (by simp),(hL _ (by simp)).row _,?_,?_,below_setRow ab (bz _ (by simp)) _⟩
    ·first
      | exact(hO.keepB ZC (fun j hj=>((Kept.refl (fun k=>k=w2.heap.size) w6).setRow (.inl rfl) _).block j (hO.lt j hj).2 (by have:=(hO.lt j hj).1;simp at this;omega))).mono Qm (by simp)
      | exact(hO.keepB ZC (fun j hj=>(((Kept.refl (fun k=>k=w6.heap.size) w6).alloc _).setRow (.inl rfl) _).block j (hO.lt j hj).2 (by have:=(hO.lt j hj).2;omega))).mono Qm (by simp)
    ·intro hj
     have:=hO.lt _ hj.symm
     simp at this
     try omega
 obtain⟨o,v,xs,rfl,ho,bn,bq,cT,aX⟩:=hcut;obtain⟨J,n5,F,rfl,-⟩:=bq.sl Qm;obtain⟨W3,cs⟩:∃V,V=wc:=⟨_,rfl⟩;subst cs;have cZ:=aX.size;have aZ:=yh (aA.out.trans (aX.mono aA.out.size));have db:=yh (fun X (hX:yw W3 X)=>bn.bel hX);have bd:=yh (fun X (hX:yw W3 X)=>bq.bel hX);have ae:=yh (ae.out.bel aX);have af:=yh (af.out.bel aX);have cQ:=bn.lt;clear aA aX bn bq
 go_upto_region 5 with(fail)
 go_cut [12,10] (fun p r I=>r=.int .i64 Q.2∧∃c,p=.pointer (some ⟨c,0,none⟩)∧W3.heap.size≤c∧Blk I c (Q1 Q.1) 53∧yw W3 I)
 case first=>
  clear HT HG HH HZ HQ ai ah an aG HN ae af ao aZ db bd
  go_wp2_with fail
  refine(au.out _).mono ?_;rintro e w4 ⟨rfl,ac⟩;have c9:=yh ac;have b9:=ac.size;clear ac
  go_wp2_with (refine wpList_store_row rfl 53 (.tmp 12) (.tmp 35) rfl w4.heap.size (Q1 Q.1) rfl rfl 53 _ (Blk.new w4 #[.int .i64 0,.int .i64 0,.int .i64 0,.int .i64 0,.bool false,.int .i64 0,.int .i64 0,.int .i64 0,.int .i64 0,.int .i64 0,.int .i64 0] 53) (by kernel_rfl) rfl (by simp[Q1,Value.oneCell']) ?_)
  go_meet
  exact⟨rfl,_,rfl,b9,(Blk.new w4 _ _).row _,c9.out.trans ((below_setRow (Qf w4 _) (Nat.le_refl _) _).mono c9.out.size)⟩
 obtain⟨rfl,c,rfl,hc,hC,ac⟩:=hcut;obtain⟨W4,ct⟩:∃V,V=wc:=⟨_,rfl⟩;subst ct;have b9:=ac.size;have av:=yh (fun X (hX:yw W4 X)=>db.out X (ac.trans (hX.mono ac.size)));have ap:=yh (fun X (hX:yw W4 X)=>bd.out X (ac.trans (hX.mono ac.size)));have am:=yh (fun X (hX:yw W4 X)=>hC.bel hX);have c9:=yh (fun X (hX:yw W4 X)=>aZ.out.trans ((ac.trans (hX.mono ac.size)).mono aZ.out.size));have ae:=yh (ae.out.bel ac);have af:=yh (af.out.bel ac);have bw:=hC.lt;clear db bd hC aZ ac;have cX:W1.heap.size≤W4.heap.size:=(c9.out _ (Below.refl _ _)).size
 have aw:=yh (show ∀U (N:Ans),yw W4 U→StR ((U.setRow z #[.slice J n5 F,.int .i64 wr]).setRow q (QK N)) w.heap.size 0 l wr N (.returned (.tuple #[.agg #[.slice J n5 F,.int .i64 wr],.agg (QK N),.int .i64 0]))∧yw w ((U.setRow z #[.slice J n5 F,.int .i64 wr]).setRow q (QK N))from fun U N hU=>by
  have hb:=c9.out U hU;have hO:=ap.out U hU;have hK:=(((Kept.refl (fun k=>k=z∨k=q) U).setRow (.inl (.inl rfl)) #[.slice J n5 F,.int .i64 wr]).setRow (.inl (.inr rfl)) (QK N));have cL:=hU.size;have dl:=c9.out _ (Below.refl _ _);exact⟨⟨.slice J n5 F,xs,N,by rw[Zn],(QPa _).symm,by rw[QG];exact(hO.keepB ZC (fun j hj=>hK.block j (hO.lt j hj).2 (by have:=(hO.lt j hj).1;omega))).mono Qm (by omega)⟩,ah.out U _ _ hb⟩)
 by_cases e0:Q.2=0
 rotate_left
 ·have e1:(Q.2 != 0)=true:=by simpa using e0
  have bV:V=(l,wr,⟨Q.2,0⟩,0):=by rw[aG.out];unfold ZJa;rw[if_pos e0]
  have aH:=yh bV;clear bV e0;have hb:=c9.out _ (Below.refl _ _);have aY:=av.out _ (Below.refl _ _);have aa:=HZ.out _ hb;have ak:=HQ.out _ hb;have Z:=UP ak (Ne.symm ag) #[.slice J n5 F,.int .i64 wr];have al:=UP (aa.row #[.slice J n5 F,.int .i64 wr]) ag #[.int .i64 Q.2,.int .i64 0]
  go_wp2_with (first | (refine wpList_load_row rfl 39 (.tmp 11) rfl o rfl 39 _ (0,0) _ aY Tryz.underlying39 rfl (by kernel_rfl) ?_) | (refine wpList_store_row rfl 39 (.tmp 6) (.tmp 39) rfl z #[.slice J n5 F,.int .i64 wr] rfl rfl 39 _ aa (by kernel_rfl) rfl (by simp[Value.oneCell']) ?_) | (refine wpList_store_row rfl 55 (.tmp 7) (.tmp 41) rfl q #[.int .i64 Q.2,.int .i64 0] rfl rfl 55 _ Z (by kernel_rfl) rfl (by simp[Value.oneCell']) ?_))
  refine bodyPost_ret (v:=.tuple #[.agg #[.slice J n5 F,.int .i64 wr],.agg #[.int .i64 Q.2,.int .i64 0],.int .i64 0]) (Blk.ret22 (k:=6) (l:=7) (u:=8) (by kernel_rfl) al (Z.row #[.int .i64 Q.2,.int .i64 0]) rfl rfl rfl Tryz.underlying39 (by kernel_rfl) (by kernel_rfl) Tryz.underlying55 (by kernel_rfl) (by kernel_rfl)) rfl ?_;rw[aH.out];exact aw.out _ ⟨Q.2,0⟩ (Below.refl _ _)
 have aH:=yh (show V=if l.any (QW Q.1)=true then (if (l.getD (Uq (QW Q.1) l).toNat default).ask=Q.1 then (l,wr,(l.getD (Uq (QW Q.1) l).toNat default).ans,0)else (l,wr,⟨6,0⟩,0))else if l.length=30 then ([],0,⟨0,0⟩,2)else (l++[⟨Q.1,doA mk X Q.1⟩],(l.length:Int)+1,doA mk X Q.1,0)by rw[aG.out];unfold ZJa;rw[if_neg (fun c=>c e0)]);have aF:=yh (bs X ao.out e0);have az:=yh (bu e0);have aE:=yh (ha X ao.out e0);have aL:=yh e0;have h0:yJ W4 h 0 A n cap:=(HH.out _ (c9.out _ (Below.refl _ _))).cell rfl;have bl:=(YQ A n cap l 135 #[.pointer (some ⟨c,0,none⟩)] (QW Q.1) W4 (ai.out _ (c9.out _ (Below.refl _ _))) (enters_of Tryz.func135 (by kernel_rfl) rfl) (fun x2 w8 _ da=>VNb x2 Q.1.number c w8 ((am.out _ da).cell rfl)))
 have q1:(Q.2 != 0)=false:=by simpa using e0
 have bB:=VD (p:=QW Q.1) (l:=l);obtain⟨ix,bC⟩:∃i,i=Uq (QW Q.1) l:=⟨_,rfl⟩;rw[←bC]at bB aH bl;have bK:=yh bl;have a8:=yh bB;have aR:=yh bC;clear aG bs bu ha e0 bl bB bC
 go_wp2_with fail
 refine bK.out.mono ?_;rintro e w6 ⟨rfl,ad⟩;clear bK h0 q1;have cF:=ad.size;have h0:yJ w6 h 0 A n cap:=(HH.out _ (c9.out _ ad)).cell rfl
 by_cases hf:l.any (QW Q.1)=true
 ·have dc:0≤ix:=by have:=a8.out;rw[hf]at this;exact of_decide_eq_true this
  have bX:=XL (p:=QW Q.1) (l:=l) (by have:=HN.out;have:=HL.out.len;omega);rw[←aR.out]at bX;obtain⟨k,rfl⟩:=Int.eq_ofNat_of_zero_le dc
  have b3:k < n:=by
   have h1:=HL.out.len;have h2:=aR.out;unfold Uq at h2;rw[hf]at h2;have h3:l.findIdx (QW Q.1) < l.length:=List.findIdx_lt_length.2 (List.any_eq_true.1 hf)
   simp at h2
   omega
  obtain⟨ba,aP,d,rfl,hx,hi,bw⟩:=(ai.out _ (c9.out _ ad)).don b3;obtain⟨d0,d1,d2,d3,d4,d5,d6,d7,d8,d9,co,aS,aT⟩:=Yta bw;obtain⟨c0,c1,c2,c3,c4,F,c6,c7,c8,O,cl⟩:=AskAt.all (show AskAt w6 c Q.1 from am.out _ ad)
  have b1:l.getD (k:Int).toNat default=d:=by rw[Int.toNat_natCast,List.getD_eq_getElem?_getD,hx];rfl
  have aq:=yh (aH.out.trans (if_pos hf));rw[b1]at aq
  have bE:=fun W=>Xva d.ask Q.1 W
  simp only[Q1]at bE;obtain⟨tv,bF⟩:∃t,t=UFb d.ask Q.1:=⟨_,rfl⟩;rw[←bF]at bE;have bf:=yh bF;clear bF;have cz:decide (0≤(k:Int))=true:=decide_eq_true (by omega);have cO:decide ((k:Int) < 0)=false:=decide_eq_false (by omega);have cP:decide ((k:Int) < (n:Int))=true:=decide_eq_true (by omega);clear dc bX hx hi bw b1 a8 aR aH hf
  go_upto_region 9 with(fail)
  go_cut [46] (fun p I=>p=.bool tv∧yw w6 I)
  case first=>
   clear HT HG HH HZ HQ ai ah an HN ae af ao aw av ap am c9 aq aF az aE aL au
   go_quiet (fail)
   go_wp2_with fail
   go_meet
   exact⟨rfl,below_drewN (Below.refl _ w6) _⟩
  obtain⟨rfl,aK⟩:=hcut;obtain⟨W7,bt⟩:∃V,V=wc:=⟨_,rfl⟩;subst bt;have da:=ad.trans (aK.mono ad.size);replace aS:=Qg aK aS;replace aT:=Qg aK aT;have hb:=c9.out _ da;have aY:=av.out _ da;clear ad aK h0 d0 d1 d2 d3 d4 d5 d6 d7 d8 d9 co c0 c1 c2 c3 c4 F c6 c7 c8 O cl bE
  cases tv
  ·have aW:V=(l,wr,⟨6,0⟩,0):=aq.out.trans (if_neg (of_decide_eq_false bf.out.symm))
   have ar:=yh aW;clear aW aS aT;have aa:=HZ.out _ hb;have ak:=HQ.out _ hb;have Z:=UP ak (Ne.symm ag) #[.slice J n5 F,.int .i64 wr];have al:=UP (aa.row #[.slice J n5 F,.int .i64 wr]) ag #[.int .i64 6,.int .i64 0]
   go_wp2_with (first | (refine wpList_load_row rfl 39 (.tmp 11) rfl o rfl 39 _ (0,0) _ aY Tryz.underlying39 rfl (by kernel_rfl) ?_) | (refine wpList_store_row rfl 39 (.tmp 6) (.tmp 69) rfl z #[.slice J n5 F,.int .i64 wr] rfl rfl 39 _ aa (by kernel_rfl) rfl (by simp[Value.oneCell']) ?_) | (refine wpList_store_row rfl 55 (.tmp 7) (.tmp 70) rfl q #[.int .i64 6,.int .i64 0] rfl rfl 55 _ Z (by kernel_rfl) rfl (by simp[Value.oneCell']) ?_))
   refine bodyPost_ret (v:=.tuple #[.agg #[.slice J n5 F,.int .i64 wr],.agg #[.int .i64 6,.int .i64 0],.int .i64 0]) (Blk.ret22 (k:=6) (l:=7) (u:=8) (by kernel_rfl) al (Z.row #[.int .i64 6,.int .i64 0]) rfl rfl rfl Tryz.underlying39 (by kernel_rfl) (by kernel_rfl) Tryz.underlying55 (by kernel_rfl) (by kernel_rfl)) rfl ?_;rw[ar.out];exact aw.out _ ⟨6,0⟩ da
  have aW:V=(l,wr,d.ans,0):=aq.out.trans (if_pos (of_decide_eq_true bf.out.symm));have ar:=yh aW;have aD:=HH.out _ hb;have bA:h≠z∧h≠q:=⟨fun e=>by subst e;have h1:=HZ.out _ hb;rw[show Blk W7 h _ _=(W7.heap[h]? = _)from rfl]at h1 aD;rw[h1]at aD;simp at aD,fun e=>by subst e;have h1:=HQ.out _ hb;rw[show Blk W7 h _ _=(W7.heap[h]? = _)from rfl]at h1 aD;rw[h1]at aD;simp at aD⟩
  have cx:ba < w.heap.size:=by
   obtain⟨b2,o2,x2,cp,-,-,cy⟩:=HL.out.don b3;have h1:=Ub (Yta cy).1
   injection cp with hA3
   injection hA3 with hA4
   omega
  have HK:=yh (show ∀X,Kept (fun j=>j=z∨j=q) W7 X→(fun w'=>yJ w' o 0 J n5 F∧yI w' o 1 wr∧yJ w' h 0 (some ⟨ba,aP,none⟩) n cap∧yI w' ba (aP+k*13+11) d.ans.errno∧yI w' ba (aP+k*13+12) d.ans.owed) X from fun X hX=>by
   have hg:=aY.kept hX (by omega);have hn:=aD.kept hX (by rintro(e | e);exact bA.1 e;exact bA.2 e);exact⟨hg.cell rfl,hg.cell rfl,hn.cell rfl,ZLb hX (show ¬(ba=z∨ba=q)by omega) aS,ZLb hX (show ¬(ba=z∨ba=q)by omega) aT⟩)
  have aC:=hb.drew;have aa:=HZ.out _ aC;have ak:=HQ.out _ aC;have Z:=UP ak (Ne.symm ag) #[.slice J n5 F,.int .i64 wr];have al:=UP (aa.row #[.slice J n5 F,.int .i64 wr]) ag (QK d.ans);have be:=yh (aw.out W7.drew d.ans da.drew);have ay:=Kept.refl (fun j=>j=z∨j=q) W7
  go_upto_region 10 with(fail)
  clear HT HG HH HZ HQ ai ah an HN ae af ao aw av ap am c9 aq aF az aE aL au aW aS aT aD bA aY hb aC cz cx bf;refine wp_region_held_drew (S:=(fun w'=>yJ w' o 0 J n5 F∧yI w' o 1 wr∧yJ w' h 0 (some ⟨ba,aP,none⟩) n cap∧yI w' ba (aP+k*13+11) d.ans.errno∧yI w' ba (aP+k*13+12) d.ans.owed)) (by kernel_rfl) (HK.out _ ay.drew) (fun ax=>?_);refine yT [0,1,2,3,4,5,6] (by kernel_rfl) (by assumption) ?_
  iterate 7 (refine yS (v:=?_) (gA rfl) (fun _ _ _ h=>h) rfl ?_ ?_;rotate_left;(focus (intro w aj;(try dsimp only at aj);go_simp<;>with_reducible rfl));simp only[yP,yA,yB,yC])
  refine yR 7 (by kernel_rfl) (gA rfl) fun K hK=>?_
  (refine wp_store_row 39 (.tmp 6) (.tmp 59) rfl _ #[.slice J n5 F,.int .i64 wr] rfl rfl 39 _ aa (by kernel_rfl) rfl (by simp[Value.oneCell']) ?_)
  refine hK.out _ _ (HK.out _ (ay.drew.setRow (.inl (.inl rfl)) _)) fun ax=>?_
  clear hK K
  try simp only[yP,yQ,yA,yB,yC]
  refine yR 8 (by kernel_rfl) (gA rfl) fun K hK=>?_
  (refine wp_store_row 55 (.tmp 7) (.tmp 65) rfl _ (QK d.ans) rfl rfl 55 _ Z (by kernel_rfl) rfl (by simp[Value.oneCell']) ?_)
  refine hK.out _ _ (HK.out _ ((ay.drew.setRow (.inl (.inl rfl)) _).setRow (.inl (.inr rfl)) _)) fun ax=>?_
  clear hK K
  try simp only[yP,yQ,yA,yB,yC]
  refine yT [9] (by kernel_rfl) (by assumption) ?_
  iterate 1 (refine yS (v:=?_) (gA rfl) (fun _ _ _ h=>h) rfl ?_ ?_;rotate_left;(focus (intro w aj;(try dsimp only at aj);go_simp<;>with_reducible rfl));simp only[yP,yA,yB,yC])
  refine wpAnyH_done (by kernel_rfl) ?_ _;clear HK ay
  go_wp2_with fail
  refine bodyPost_ret (v:=.tuple #[.agg #[.slice J n5 F,.int .i64 wr],.agg (QK d.ans),.int .i64 0]) (Blk.ret22 (k:=6) (l:=7) (u:=8) (by kernel_rfl) al (Z.row (QK d.ans)) rfl rfl rfl Tryz.underlying39 (by kernel_rfl) (by kernel_rfl) Tryz.underlying55 (by kernel_rfl) (by kernel_rfl)) rfl ?_;rw[ar.out];exact be.out
 have b0:l.any (QW Q.1)=false:=by cases hq:l.any (QW Q.1);rfl;exact absurd hq hf
 obtain rfl:ix=-1:=by rw[aR.out];exact Ud b0
 have aq:=yh (aH.out.trans (if_neg hf));clear aR a8 aH hf b0
 go_upto_region 9 with(fail)
 go_cut [46] (fun p I=>p=.bool false∧yw w6 I)
 case first=>
  clear HT HG HH HZ HQ ai ah an HN ae af ao aw av ap am c9 aq aF az aE aL au
  go_quiet (fail)
  go_wp2_with fail
  go_meet
  exact⟨rfl,below_drewN (Below.refl _ w6) _⟩
 obtain⟨rfl,aK⟩:=hcut;obtain⟨W7,bt⟩:∃V,V=wc:=⟨_,rfl⟩;subst bt;have da:=ad.trans (aK.mono ad.size);clear ad aK h0;have dh:=da.size;have h0:yJ W7 h 0 A n cap:=(HH.out _ (c9.out _ da)).cell rfl
 by_cases q30:n=30
 ·have df:((n:Int) == 30)=true:=by rw[q30];rfl
  have ar:=yh (aq.out.trans (if_pos (by rw[HL.out.len];exact q30)));have hb:=c9.out _ da;have aa:=HZ.out _ hb;have ak:=HQ.out _ hb;have Z:=UP ak (Ne.symm ag) #[.slice none 0 0,.int .i64 0];have al:=UP (aa.row #[.slice none 0 0,.int .i64 0]) ag #[.int .i64 0,.int .i64 0];clear q30
  go_wp2_with (first | (refine wpList_store_row rfl 39 (.tmp 6) (.tmp 76) rfl z #[.slice none 0 0,.int .i64 0] rfl rfl 39 _ aa (by kernel_rfl) rfl (by simp[Value.oneCell']) ?_) | (refine wpList_store_row rfl 55 (.tmp 7) (.tmp 77) rfl q #[.int .i64 0,.int .i64 0] rfl rfl 55 _ Z (by kernel_rfl) rfl (by simp[Value.oneCell']) ?_))
  refine bodyPost_ret (v:=.tuple #[.agg #[.slice none 0 0,.int .i64 0],.agg #[.int .i64 0,.int .i64 0],.int .i64 2]) (Blk.ret22 (k:=6) (l:=7) (u:=8) (by kernel_rfl) al (Z.row #[.int .i64 0,.int .i64 0]) rfl rfl rfl Tryz.underlying39 (by kernel_rfl) (by kernel_rfl) Tryz.underlying55 (by kernel_rfl) (by kernel_rfl)) rfl ?_;rw[ar.out];exact an.out _ _ _ _ _ (by decide) hb
 have df:((n:Int) == 30)=false:=by
  have:¬(n:Int)=30:=by omega
  simpa using this
 have ar:=yh (aq.out.trans (if_neg (by rw[HL.out.len];exact q30)));clear aq q30;have bZ:=am.out _ da;have bj:=QPb HM HR X p5 Q.1 ck W1.heap.size W7 (af.out.bel da) (by have:=(c9.out _ da).size;omega) (ae.out.bel da) aF.out az.out.2.2.1;obtain⟨AN,bg⟩:∃a,a=doA mk X Q.1:=⟨_,rfl⟩;rw[←bg]at bj ar;have a7:=yh bg;clear bg;have bJ:=yh bj;clear bj
 go_upto_region 15 with(fail)
 go_cut [14] (fun p I=>∃r,p=.pointer (some ⟨r,0,none⟩)∧W7.heap.size≤r∧Blk I r (QK AN) 55∧Kept (fun k=>k=ck) W7 I)
 case first=>
  clear HT HG HH HZ HQ ai ah an HN ae af ao aw av ap am c9 ar aF az aE aL au
  go_wp2_with (refine wpList_load_row rfl 53 (.tmp 12) rfl c rfl 53 _ (0,0) _ bZ Tryz.underlying53 rfl (by kernel_rfl) ?_)
  refine bJ.out.mono ?_;rintro e w9 ⟨rfl,-,aB⟩;have bL:=yh aB;clear aB
  go_wp2_with fail
  go_meet
  exact⟨_,rfl,bL.out.size,Blk.new w9 _ _,bL.out.alloc _⟩
 obtain⟨r,rfl,hr,a4,aN⟩:=hcut;obtain⟨Y,cu⟩:∃V,V=wc:=⟨_,rfl⟩;subst cu;have aV:=(av.out _ da).kept aN (by omega);have br:=(ap.out _ da).keepB ZC (fun j hj=>aN.block j ((ap.out _ da).lt j hj).2 (by have:=((ap.out _ da).lt j hj).1;omega));have bi:=(am.out _ da).kept aN (by omega);clear bJ h0 df bZ;obtain⟨x0,x1,x2,x3,x4,x5,x6,x7,x8,x9,cg⟩:=AskAt.all (show AskAt Y c Q.1 from bi);have o0:yJ Y o 0 J n5 F:=aV.cell rfl;have r0:yI Y r 0 AN.errno:=a4.cell rfl;have r1:yI Y r 1 AN.owed:=a4.cell rfl;have bh:=aE.out;rw[←a7.out]at bh;have bR:X5a ⟨Q.1,AN⟩:=⟨az.out,bh⟩;have cA:=HL.out.len;have cB:=HN.out;have a2:=yh (br.below Qm (Qf Y (.cells (VC ⟨Q.1,AN⟩) 106)));have di:=aN.size;have bM:=yh (ZLc Y All ⟨Q.1,AN⟩ 106 bR trivial)
 have bY:(l.length+1)*104≤140737488355328:=by omega
 have cE:w2.heap.size≤Y.heap.size:=by omega
 have dd:w2.heap.size≤(Y.alloc (.cells (VC ⟨Q.1,AN⟩) 106)).heap.size:=Nat.le_trans cE (by simp);have bI:=yh bi;have aQ:=yh a4;have a9:=yh aV;have cH:=aV.free 0;clear x0 x1 x2 x3 x4 x5 x6 x7 x8 x9 cg r0 r1 bi bh bR
 have b6:∀s,(Value.slice J n5 F).ownBlock=some s→s≠o:=fun s hs e=>br.neTy aV (by decide) (by rw[hs,e])
 have cR:=aV.lt
 have b8:r≠o:=by omega
 have bN:=yh b6;clear b6 br a4
 go_upto_region 16 with(fail)
 go_cut [] (fun I=>∃A9 n9 O xs,n9=l.length+1∧Own ZL 13 106 I w2.heap.size (.slice A9 n9 O) (l++[⟨Q.1,AN⟩]) xs∧Blk I o #[.slice A9 n9 O,.int .i64 wr] 39∧Blk I r (QK AN) 55∧Kept (fun j=>j=o∨w2.heap.size≤j) Y I)
 case first=>
  clear HT HG HH HZ HQ ai ah an HN ae af ao aw av ap am c9 ar aF az aE aL au a7 HL cA cB;obtain⟨x0,x1,x2,x3,x4,x5,x6,x7,x8,x9,cg⟩:=AskAt.all (show AskAt Y c Q.1 from bI.out);have o0:yJ Y o 0 J n5 F:=a9.out.cell rfl;have r0:yI Y r 0 AN.errno:=aQ.out.cell rfl;have r1:yI Y r 1 AN.owed:=aQ.out.cell rfl
  go_wp2_with (at_builtin;refine QC (t:=37) (e:=106) (bytes:=104) rfl (.tmp 82) (.tmp 86) rfl Yua Qm rfl a2.out rfl bM.out (fun _ _ hc=>hc) bY (by omega) dd ?_;intro v' w' cJ bD bx cw;obtain⟨A9,n9,O,cG,ca⟩:=bD.sl Qm;subst cG;have bc:=yh (show(l++[(⟨Q.1,AN⟩:Don)]).length=n9 from ca.len);clear ca;have bP:=yh bD;have aM:=yh bx;have a0:=yh ((a9.out.bel (Qf Y (.cells (VC ⟨Q.1,AN⟩) 106))).grown bx (fun e=>bN.out o e.symm rfl));have m9:yJ w' o 0 J n5 F:=a0.out.cell (j:=0) rfl;have f9:=a0.out.free 0;clear bD bx cw)
  go_meet
  have aB:Kept (fun j=>j=o∨w2.heap.size≤j) (Y.alloc (.cells (VC ⟨Q.1,AN⟩) 106)) w':=⟨aM.out.os,aM.out.tape,aM.out.output,aM.out.size,fun j hj hn=>aM.out.block j hj (fun e=>hn (.inr (a2.out.lt j e.symm).1))⟩
  have a5:∀s,(Value.slice A9 n9 O).ownBlock=some s→s≠o:=fun s hs e=>bP.out.neTy a0.out (by decide) (by rw[hs,e])
  have cD:=(aQ.out.bel (Qf Y (.cells (VC ⟨Q.1,AN⟩) 106))).grown aM.out (fun e=>a2.out.neTy (aQ.out.bel (Qf Y (.cells (VC ⟨Q.1,AN⟩) 106))) (by decide) e.symm);have b4:=QMa w' o [(0,.slice A9 n9 O)];refine⟨A9,n9,O,cJ,by rw[←bc.out,List.length_append];rfl,QY ZC bP.out (a:=⟨o,0,none⟩) (fun e=>a5 o e rfl) _,a0.out.set (j:=0) _,cD.kept b4 b8,((Kept.refl (fun j=>j=o∨w2.heap.size≤j) Y).alloc _).trans (aB.trans (b4.mono fun j _ e=>.inl e))⟩
 obtain⟨A9,n9,O,bG,b5,bp,aJ,bQ,aB⟩:=hcut;obtain⟨W9,cv⟩:∃V,V=wc:=⟨_,rfl⟩;subst cv;have o0:yJ W9 o 0 A9 n9 O:=aJ.cell rfl;have o1:yI W9 o 1 wr:=aJ.cell rfl;have cI:=aJ.free 1;have dj:=aB.size;have bW:yw W1 W9:=((c9.out _ da).trans (aN.below (B:=W1.heap.size) (c9.out _ da).size (fun j hj e=>by omega))).trans (aB.below (B:=W1.heap.size) (by have:=(c9.out _ da).size;omega) (fun j hj e=>by omega));have cS:=aJ.lt
 have a5:∀s,(Value.slice A9 n9 O).ownBlock=some s→s≠o:=fun s hs e=>bp.neTy aJ (by decide) (by rw[hs,e])
 have cj:=yh aJ;have ch:=yh bQ;have bO:=yh bp;clear bp;have bH:=yh bW;have dg:=yh a5;have bc:=yh b5;clear aJ bQ aB aN da bW a5 cH bY dd b5 a2 bM bI aQ a9 bN
 go_upto_region 17 with(fail)
 go_cut [] (fun I=>Blk I o #[.slice A9 n9 O,.int .i64 (n9:Int)] 39∧Kept (fun j=>j=o) W9 I)
 case first=>as_aux_lemma=>
  go_wp2_with fail
  go_meet
  exact⟨cj.out.set (j:=1) _,QMa W9 o [(1,.int .i64 (n9:Int))]⟩
 obtain⟨bm,aU⟩:=hcut;obtain⟨aI,cr⟩:∃V,V=wc:=⟨_,rfl⟩;subst cr;have dk:=aU.size;have a6:=ch.out.kept aU b8;have bS:Own ZL 13 106 aI w2.heap.size (.slice A9 n9 O) (l++[⟨Q.1,AN⟩]) bG:=bO.out.keepB ZC (fun j hj=>aU.block j (bO.out.lt j hj).2 (dg.out j hj));have hb:=bH.out.trans (aU.below (B:=W1.heap.size) bH.out.size (fun j hj e=>by omega));have cV:=a6.lt
 have cc:¬(o=z∨o=q):=by omega
 have de:¬(r=z∨r=q):=by omega
 have HK:=yh (show ∀X,Kept (fun j=>j=z∨j=q) aI X→(fun w'=>yJ w' o 0 A9 n9 O∧yI w' o 1 (n9:Int)∧yI w' r 0 AN.errno∧yI w' r 1 AN.owed) X from fun X hX=>
  ⟨(bm.kept hX cc).cell rfl,(bm.kept hX cc).cell rfl,(a6.kept hX de).cell rfl,(a6.kept hX de).cell rfl⟩)
 have aC:=hb.drew;have aa:=HZ.out _ aC;have ak:=HQ.out _ aC;have Z:=UP ak (Ne.symm ag) #[.slice A9 n9 O,.int .i64 (n9:Int)];have al:=UP (aa.row #[.slice A9 n9 O,.int .i64 (n9:Int)]) ag (QK AN)
 have be:=yh (show StR ((aI.drew.setRow z #[.slice A9 n9 O,.int .i64 (n9:Int)]).setRow q (QK AN)) w.heap.size 0 (l++[⟨Q.1,AN⟩]) ((l.length:Int)+1) AN (.returned (.tuple #[.agg #[.slice A9 n9 O,.int .i64 (n9:Int)],.agg (QK AN),.int .i64 0]))∧yw w ((aI.drew.setRow z #[.slice A9 n9 O,.int .i64 (n9:Int)]).setRow q (QK AN))from by
  have hK:=(((Kept.refl (fun k=>k=z∨k=q) aI.drew).setRow (.inl (.inl rfl)) #[.slice A9 n9 O,.int .i64 (n9:Int)]).setRow (.inl (.inr rfl)) (QK AN));have bo:Own ZL 13 106 aI.drew w2.heap.size (.slice A9 n9 O) (l++[⟨Q.1,AN⟩]) bG:=bS.keepB ZC (fun _ _=>rfl);exact⟨⟨.slice A9 n9 O,bG,AN,by rw[Zn,bc.out];rfl,(QPa _).symm,by rw[QG];exact(bo.keepB ZC (fun j hj=>hK.block j (bo.lt j hj).2 (by have:=(bo.lt j hj).1;omega))).mono Qm (by omega)⟩,ah.out _ _ _ aC⟩)
 have ay:=Kept.refl (fun j=>j=z∨j=q) aI;clear bm aU a6 bS hb aC o0 o1 cI
 go_upto_region 18 with(fail)
 clear HT HG HH HZ HQ ai ah an HN ae af ao aw av ap am c9 aF az aE aL au a7 HL;refine wp_region_held_drew (S:=(fun w'=>yJ w' o 0 A9 n9 O∧yI w' o 1 (n9:Int)∧yI w' r 0 AN.errno∧yI w' r 1 AN.owed)) (by kernel_rfl) (HK.out _ ay.drew) (fun ax=>?_);refine yT [0,1] (by kernel_rfl) (by assumption) ?_
 iterate 2 (refine yS (v:=?_) (gA rfl) (fun _ _ _ h=>h) rfl ?_ ?_;rotate_left;(focus (intro w aj;(try dsimp only at aj);go_simp<;>with_reducible rfl));simp only[yP,yA,yB,yC])
 refine yR 2 (by kernel_rfl) (gA rfl) fun K hK=>?_
 (refine wp_store_row 39 (.tmp 6) (.tmp 93) rfl _ #[.slice A9 n9 O,.int .i64 (n9:Int)] rfl rfl 39 _ aa (by kernel_rfl) rfl (by simp[Value.oneCell']) ?_)
 refine hK.out _ _ (HK.out _ (ay.drew.setRow (.inl (.inl rfl)) _)) fun ax=>?_
 clear hK K
 try simp only[yP,yQ,yA,yB,yC]
 refine yR 3 (by kernel_rfl) (gA rfl) fun K hK=>?_
 (refine wp_store_row 55 (.tmp 7) (.tmp 94) rfl _ (QK AN) rfl rfl 55 _ Z (by kernel_rfl) rfl (by simp[Value.oneCell']) ?_)
 refine hK.out _ _ (HK.out _ ((ay.drew.setRow (.inl (.inl rfl)) _).setRow (.inl (.inr rfl)) _)) fun ax=>?_
 clear hK K
 try simp only[yP,yQ,yA,yB,yC]
 refine yT [4] (by kernel_rfl) (by assumption) ?_
 iterate 1 (refine yS (v:=?_) (gA rfl) (fun _ _ _ h=>h) rfl ?_ ?_;rotate_left;(focus (intro w aj;(try dsimp only at aj);go_simp<;>with_reducible rfl));simp only[yP,yA,yB,yC])
 refine wpAnyH_done (by kernel_rfl) ?_ _;clear HK ay
 go_wp2_with fail
 refine bodyPost_ret (v:=.tuple #[.agg #[.slice A9 n9 O,.int .i64 (n9:Int)],.agg (QK AN),.int .i64 0]) (Blk.ret22 (k:=6) (l:=7) (u:=8) (by kernel_rfl) al (Z.row (QK AN)) rfl rfl rfl Tryz.underlying39 (by kernel_rfl) (by kernel_rfl) Tryz.underlying55 (by kernel_rfl) (by kernel_rfl)) rfl ?_;rw[ar.out];exact be.out
def Qpb (x:Sai) (a:Ask):Prop:=a.kind=1∧BkIn (Zm x a)
theorem U4a:X7 Qpb mkN:=fun x a _ h=>(U8a (x:=x) (b:=Zm x a) (k:=1) h).2.2.2
def Qq:Sai:=⟨QZ,Uk,2,40,[],false⟩
def U1:Ask:=⟨1,1,5,2,true,1,0,0,2,0,0⟩
def ZP:Ans:=⟨0,800⟩
def XY:Don:=⟨U1,ZP⟩
def bk5:Bkg:=⟨5,1,2,2,true,1,0,0,2,0,[]⟩
def Yc:Bkg:=⟨5,1,2,2,true,1,0,0,2,0,[⟨2,1,800⟩]⟩
theorem U0b (c:Int):ZK Qq.bks c=true:=(UL (show spF (spL Qq.bks c)=some []from rfl)).1
theorem YNa:Z9 0 []=true:=Xf ⟨[],⟨by decide,by decide,by decide⟩,rfl⟩
theorem QSb:QQ Qq=0:=by
 unfold QQ
 rw[if_neg (by
  unfold ZV;simp only[List.any_eq_true,not_exists,not_and,List.mem_range];intro c A
  rw[U0b];simp),show QM Qq.bks Qq.ship.legs.toNat=[0,0,0]by decide,if_neg (by decide),show Z5 Qq=[]from rfl,show Zd Qq=[]from rfl,show([]:List Int).length=0 from rfl,YNa]
 rfl
theorem ZYa:Qp Qq=0:=by
 unfold Qp
 rw[show ZJ Qq.ship=0 from Vha,if_neg (by simp),show Zq Qq.fares Qq.ship.cats.length Qq.ship.legs=0 by decide,if_neg (by simp),if_neg (by decide),show Vc Qq=0 by
  unfold Vc;rw[if_neg (by decide),show Qh (Ua Qq) Qq.bks.length=0 from rfl,if_neg (by simp)]
  rfl,if_neg (by simp),QSb]
 rfl
theorem Xjb:Zm Qq U1=bk5:=by kernel_rfl
theorem Zac:U5 Qq bk5={ Qq with bks:=[Yc] }:=by kernel_rfl
theorem YDb (c:Nat)(A:c < 3):ZK [Yc] (c:Int)=true:=by
 rcases c with _ | _ | _ | c
 ·exact(UL (show spF (spL [Yc] 0)=some []by decide)).1
 ·exact(UL (show spF (spL [Yc] 1)=some [⟨0,2⟩]by decide)).1
 ·exact(UL (show spF (spL [Yc] 2)=some []by decide)).1
 ·omega
theorem VHb:QQ { Qq with bks:=[Yc] } = 0:=by
 unfold QQ
 rw[if_neg (by
  unfold ZV;simp only[List.any_eq_true,not_exists,not_and,List.mem_range];intro c A
  rw[YDb c A];simp),show QM ({ Qq with bks:=[Yc] } : Sai).bks ({ Qq with bks:=[Yc] } : Sai).ship.legs.toNat=[2,2,0]by decide,if_neg (by decide),show Z5 { Qq with bks:=[Yc] } = []by decide,show Zd { Qq with bks:=[Yc] } = []by decide,show([]:List Int).length=0 from rfl,YNa]
 rfl
theorem ZRc:Us Qq bk5 1=0:=by
 unfold Us XVa XPa;rw[ZYa,if_neg (by simp),if_neg (by decide),if_neg (by decide),show ofE Qq.ship bk5=0 by decide,if_neg (by simp),if_neg (by decide),if_neg (by decide),if_neg (by decide),show QN Qq (U6 Qq bk5)={ Qq with bks:=[Yc] }from Zac,VHb]
theorem Zfc:mkN.e Qq U1=0:=by show Us Qq (Zm Qq U1) 1=0;rw[Xjb,ZRc]
theorem Zgc:mkN.x Qq U1={ Qq with bks:=[Yc] }:=by show U5 Qq (Zm Qq U1)=_;rw[Xjb,Zac]
theorem Zbc:doX mkN Qq U1={ Qq with bks:=[Yc] }:=by unfold doX;rw[if_pos Zfc,Zgc]
theorem Xtb:doA mkN Qq U1=ZP:=by
 unfold doA;rw[if_pos Zfc,Zgc]
 kernel_rfl
theorem Qfc:V1a Qq U1=0:=by unfold V1a;rw[ZYa,if_neg (by simp)];decide
theorem ZPb:QU U1=0:=by decide
theorem Yra:Yh (VM U1)=(U1,0):=by kernel_rfl
theorem QHc:VT mkN Qq [] 0=0:=by unfold VT;rw[ZYa,if_neg (by simp),if_neg (by decide),if_neg (by decide)];rfl
theorem QIc:U4 mkN Qq []=Qq:=rfl
theorem UAc:opn mkN Qq [] [XY]=({ Qq with bks:=[Yc] },0):=by
 unfold opn;rw[if_neg (by rw[show XY.ask=U1 from rfl,ZPb];simp),if_neg (by decide),show XY.ask=U1 from rfl,show XY.ans=ZP from rfl,if_pos Xtb,Zbc]
 rfl
theorem Uhb:VT mkN Qq [XY] 1=0:=by unfold VT;rw[ZYa,if_neg (by simp),if_neg (by decide),if_neg (by decide),UAc]
theorem Uib:U4 mkN Qq [XY]={ Qq with bks:=[Yc] }:=by unfold U4;rw[UAc]
theorem UDc:Xy mkN Qq [] 0 (VM U1)=([XY],1,ZP,0):=by
 unfold Xy;rw[if_neg (by rw[QHc];simp),QIc,Yra];unfold ZJa;rw[if_neg (by simp),if_neg (by simp),if_neg (by simp),show doA mkN Qq U1=ZP from Xtb]
 rfl
theorem UEc:Xy mkN Qq [XY] 1 (VM U1)=([XY],1,ZP,0):=by
 unfold Xy;rw[if_neg (by rw[Uhb];simp),Uib,Yra];unfold ZJa;rw[if_neg (by simp),if_pos (by decide)]
 rfl
theorem Xta:Xb U1:=by unfold Xb;refine⟨.of ?_ ?_,.of ?_ ?_,.of ?_ ?_,.of ?_ ?_,.of ?_ ?_,.of ?_ ?_,.of ?_ ?_,.of ?_ ?_,.of ?_ ?_,.of ?_ ?_⟩<;>decide
theorem Y3 {y:Sai}(h:Qp y=0):Qpb y U1:=⟨rfl,UDa Xta (by
 have A:=Qj.1 (Ze h).bs.ship.legs;exact .of (by omega) (by omega))⟩
def In9 (a:Int):Prop:=0≤a∧a≤9
theorem n9 {a:Int}(h:(0≤a∧a≤9):=by decide):In9 a:=h
theorem ZA {c:Prop}[Decidable c]{a b:Int}(h:In9 a)(A:In9 b):In9 (if c then a else b):=by split<;>assumption
theorem Y7 {f:Nat→Int}(h:∀i,In9 (f i)):∀n,In9 (Qo f n)
 | 0=>by show In9 0;exact n9
 | n+1=>ZA (h n) (Y7 h n)
theorem XG (l:List Entry):In9 (Qe l):=by
 have A:∀n,In9 (Qo (Zk l) n):=Y7 fun i=>by
  unfold Zk
  first | exact ZA (ZA n9 (ZA n9 (ZA n9 n9))) (ZA n9 n9) | (repeat' split)<;>first | exact n9 | (unfold Zj at *;(repeat' split)<;>first | exact n9 | omega)
 have D:∀n,In9 (Qo (Uz l) n):=Y7 fun i=>by
  unfold Uz
  (repeat' split)<;>exact n9
 exact ZA n9 (ZA (A _) (D _))
theorem Q2c (s:Span)(n:Int):In9 (Vg s n):=ZA n9 (ZA n9 n9)
theorem Qrc (x:Shp)(b:Bkg):In9 (kindE x b):=ZA (ZA n9 (ZA n9 (ZA n9 (ZA n9 n9)))) (ZA n9 (ZA n9 (ZA n9 n9)))
theorem Zic (x:Shp)(b:Bkg):In9 (ofE x b):=ZA n9 (ZA n9 (ZA (Q2c _ _) (ZA (Qrc _ _) (ZA n9 (ZA n9 (XG _))))))
theorem Ujb (x:Sai):In9 (QQ x):=by unfold QQ;exact ZA n9 (ZA n9 (ZA n9 n9))
theorem ZJc (x:Sai)(b:Bkg):In9 (XPa x b):=by unfold XPa;exact ZA n9 (ZA n9 (ZA n9 (Ujb _)))
theorem Zob {x:Sai}(h:Qp x=0)(b:Bkg)(k:Int):In9 (Us x b k):=by
 unfold Us XVa;rw[if_neg (by rw[h];simp)];exact ZA n9 (ZA n9 (ZA (Zic _ _) (ZJc _ _)))
theorem In9.inI {a:Int}(h:In9 a):InI a:=.of (by have:=h.1;omega) (by have:=h.2;omega)
theorem Xvb {X:Sai}(h:Qp X=0)(t:Int):InI (owA X t):=by
 have D:=Ze h;unfold owA
 by_cases q:ZI X.bks t=true
 ·rw[if_pos q]
  obtain⟨b,A,_,_,_⟩:=QLa (Zc D.bs.rise) q
  have E:Vl X t=b:=by unfold Vl;rw[List.getD_eq_getElem?_getD,A];rfl
  rw[E];have:=VZa (D.bs.bk b (List.mem_of_getElem? A)).fol (fun _=>true);exact .of (by show _≤ZS _ _;omega) (by show ZS _ _≤_;omega)
 ·rw[if_neg q];exact Vr
theorem ZGb {y:Sai}{a:Ask}(h:Qp y=0)(A:Qpb y a):InI (doA mkN y a).errno∧InI (doA mkN y a).owed:=by
 unfold doA
 by_cases q:mkN.e y a=0
 ·rw[if_pos q]
  exact⟨Vr,Xvb (U4a y a A q) a.id⟩
 ·rw[if_neg q]
  exact⟨In9.inI (Zob h (Zm y a) 1),Vr⟩
theorem Xsb:crE 1 1 0=0∧crN 1 1 0=1:=by decide
end Go.Proofs.YtjdcokpmgionjaaGreat
