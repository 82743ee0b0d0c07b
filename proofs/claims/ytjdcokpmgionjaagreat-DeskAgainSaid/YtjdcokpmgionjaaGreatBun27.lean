/-
  Words, laws and contracts: ChgE.
-/
import Derived.Test.YtjdcokpmgionjaaGreatBun26
import Derived.BigQuiet
set_option linter.unusedSimpArgs false
set_option linter.unusedVariables false
set_option maxRecDepth 100000
set_option maxHeartbeats 20000000
namespace Go.Proofs.YtjdcokpmgionjaaGreat
open Go.RowKit Go.Shelf
theorem ZMb {x:Sai}{t:Int}(h:chE x t 0=0):Qp x=0∧Vd x t=true∧∀E,chE x t E=E:=by
 unfold chE at h
 by_cases h1:Qp x≠0
 ·rw[if_pos h1]at h;exact absurd h h1
 ·rw[if_neg h1]at h
  unfold Xza at h
  by_cases h2:Vd x t=true
  ·exact⟨Decidable.not_not.1 h1,h2,fun E=>by unfold chE;rw[if_neg h1];unfold Xza;rw[if_pos h2]⟩
  ·rw[if_neg h2]at h;omega
theorem ZSc {x:Sai}{t E:Int}(h:¬chE x t 0=0):chE x t E=chE x t 0:=by
 unfold chE Xza at h ⊢
 by_cases h1:Qp x≠0
 ·rw[if_pos h1,if_pos h1]
 ·rw[if_neg h1]at h ⊢
  rw[if_neg h1]
  by_cases h2:Vd x t=true
  ·rw[if_pos h2]at h;exact absurd rfl h
  ·rw[if_neg h2,if_neg h2]
theorem XF (f:Nat)(lb:Array Value)(K:World→Prop)(x:Sai)(p:SaiV)(t I:Int)(X:Sai)(w:World)(hS:SaiR w x p)(ht:InI t)(eg:∀aj w,(callFunc f aj).run Tryz.prog w=.ok (.enter f aj) w)
  (hK:K w) (ak:∀V V',K V→yw V V'→K V') (U:OkSai x→Vd x t=true→UAb f lb K x (ZG x.bks t) I X) (an:∀p,Qa X p=Qa x p) :
  Calls Tryz.prog 95 #[.agg (Qa x p),.int .i64 t,.func (.func f) #[] lb] w fun e w'=>Vz w' w.heap.size (chE x t I) X e∧yw w w':=by
 have ac:=yh (fun X hX=>UMb x p t X hX ht);obtain⟨r,O⟩:∃r,r=chE x t 0:=⟨_,rfl⟩;obtain⟨R,Z⟩:∃r,r=chE x t I:=⟨_,rfl⟩;have aA:=yh (show r=0→R=I from fun h=>by rw[Z];exact(ZMb (O.symm.trans h)).2.2 I);have aB:=yh (show ¬r=0→R=r from fun h=>by rw[Z,O];exact ZSc (fun Y=>h (O.trans Y)))
 have ah:=yh (show r=0→UAb f lb K x (ZG x.bks t) I X∧OkSai x∧∃b,x.bks[ZG x.bks t]? = some b from fun h=>by
  obtain⟨h1,Y,_⟩:=ZMb (O.symm.trans h);obtain⟨b,hb,_⟩:=Vn (Zc (Ze h1).bs.rise) Y;exact⟨U (Ze h1) Y,Ze h1,b,hb⟩)
 rw[←O]at ac;rw[←Z];have HS:=yh hS;have HK:=yh hK;have aF:=yh an;have ax:=yh ak;clear O Z hS hK ak U ht an;obtain⟨A,n,cap,B,m,aG,D,nd,cd,E,ne,ce,C,nb,cb⟩:=p
 go_enter Tryz.func95,Tryz.ntmps95
 go_upto_region 0 with(fail)
 go_cut [3,6,7] (fun p p2 F wx=>∃g z,p=.pointer (some ⟨g,0,none⟩)∧p2=.pointer (some ⟨z,0,none⟩)∧F=.int .i64 0∧w.heap.size≤z∧Blk wx g (Qa x ⟨A,n,cap,B,m,aG,D,nd,cd,E,ne,ce,C,nb,cb⟩) 32∧Blk wx z #[.int .i64 0,.int .i64 0,.slice none 0 0,.slice none 0 0,.slice none 0 0,.int .i64 0,.int .i64 0,.slice none 0 0,.int .i64 0,.int .i64 0,.int .i64 0,.slice none 0 0,.bool false] 32∧yw w wx)
 case first=>as_aux_lemma=>
  go_wp2_with fail
  go_meet
  exact⟨_,_,rfl,rfl,rfl,by omega,QA _ _ _,QB _ _ _,Zh _ _ _⟩
 obtain⟨g,z,rfl,rfl,rfl,hz,hG,hZ,aa⟩:=hcut;obtain⟨W1,aI⟩:∃V,V=wc:=⟨_,rfl⟩;subst aI;have J:=yh (fun X (hX:yw W1 X)=>aa.trans (hX.mono aa.size));have HG:=yh (fun X (hX:yw W1 X)=>hG.bel hX);have HZ:=yh (fun X (hX:yw W1 X)=>hZ.bel hX);have aU:z < W1.heap.size:=hZ.lt;have aD:=yh (fun X (hX:yw W1 X)=>HS.out.bel (J.out X hX))
 have ai:=yh (show ∀(E':Int) V,¬E'=0→yw W1 V→Vz (V.setRow z (Qa Qr Qv)) w.heap.size E' X (.returned (.tuple #[.agg (Qa Qr Qv),.int .i64 E']))∧yw w (V.setRow z (Qa Qr Qv))from fun E' V h0 hX=>by
  have ab:yw w (V.setRow z (Qa Qr Qv)):=((J.out V hX).trans (((Kept.refl (fun k=>k=z) V).setRow (.inl rfl) _).below (B:=w.heap.size) (J.out V hX).size (fun k hk e=>by omega)));exact⟨⟨Qr,Qv,rfl,(Qca h0 _).symm,Vx _ _ ab.size⟩,ab⟩)
 have hb:yw W1 W1:=Below.refl _ _;have aR:=aa.size;have ay:=yh (fun X (hX:yw W1 X)=>ax.out _ _ HK.out (show yw w X from J.out X hX));clear hG hZ aa;have HC:=yh (ac.out _ (aD.out _ hb))
 go_wp2_with (refine wpList_load_row rfl 32 (.tmp 3) rfl g rfl 32 _ (0,0) _ (HG.out _ hb) Tryz.underlying32 rfl (by kernel_rfl) ?_)
 refine HC.out.mono ?_;rintro e w1 ⟨v,rfl,au,ap⟩;have ag:=yh au;clear au;replace hb:=hb.trans (ap.mono hb.size);clear ap HC ac
 by_cases q0:r=0
 rotate_left
 ·obtain rfl:R=r:=aB.out q0
  have q1:(R == 0)=false:=by simpa using q0
  have q2:(R != 0)=true:=by simpa using q0
  have Q0:=yh q0;have aV:=HZ.out _ hb;clear q0
  go_wp2_with (refine wpList_store_row rfl 32 (.tmp 6) (.tmp 23) rfl z (Qa Qr Qv) rfl rfl 32 _ aV (by kernel_rfl) rfl (by simp[Value.oneCell']) ?_)
  refine bodyPost_ret (v:=.tuple #[.agg (Qa Qr Qv),.int .i64 R]) ((aV.row _).ret2 (k:=6) (u:=7) (by kernel_rfl) rfl rfl Tryz.underlying32 (by kernel_rfl) (by kernel_rfl)) rfl ?_;exact ai.out _ _ Q0.out hb
 obtain⟨U,aN,b,aq⟩:=ah.out q0;obtain rfl:R=I:=aA.out q0;obtain⟨y,F,w0,b0,rfl,hY,Q,aT⟩:=ag.out q0;obtain⟨g3,_,_,_,ad,aP,aQ,_⟩:=Q.at aq
 have aL:¬y=g3:=fun h=>Q.neB ad hY (by decide) h.symm
 have ar:=yh (U w0 b0 y g3 F _ w1 (ay.out _ hb) Q hY ad);have aO:=hb.size
 have aS:W1.heap.size≤w0.heap.size:=by obtain⟨a1,a2,_⟩:=Q;omega
 have aM:¬z=g3:=by omega
 have HY:=yh hY;have ao:=HZ.out _ hb;clear U aN aq Q ad ag ah hY;subst q0
 go_wp2_with fail
 refine ar.out.mono ?_;rintro e W ⟨rfl,av,ae⟩;have az:=yh av;clear av;have af:=ao.kept ae aM;have aJ:=HY.out.kept ae aL;have aK:yw W1 W:=hb.trans (ae.below (B:=W1.heap.size) aO (fun k hk e=>by omega));clear hb ao HY ar;have hb:=aK
 by_cases q5:R=0
 rotate_left
 ·have q6:(R != 0)=true:=by simpa using q5
  have Q5:=yh q5;have aV:=af;clear q5
  go_wp2_with (refine wpList_store_row rfl 32 (.tmp 6) (.tmp 23) rfl z (Qa Qr Qv) rfl rfl 32 _ aV (by kernel_rfl) rfl (by simp[Value.oneCell']) ?_)
  refine bodyPost_ret (v:=.tuple #[.agg (Qa Qr Qv),.int .i64 R]) ((aV.row _).ret2 (k:=6) (u:=7) (by kernel_rfl) rfl rfl Tryz.underlying32 (by kernel_rfl) (by kernel_rfl)) rfl ?_;exact ai.out _ _ Q5.out hb
 have am:=az.out q5;have aw:=ZNb aJ;have aE:=yh am;clear am;subst q5;have aC:=yh aw;clear aw
 go_wp2_with (first | (refine wpList_load_mid rfl 32 (.tmp 27) rfl y 0 rfl _ _ aC.out Tryz.underlying32 rfl (by kernel_rfl) ?_) | (refine wpList_store_row rfl 32 (.tmp 6) (.tmp 28) rfl z (Qa x F) rfl rfl 32 _ af (by kernel_rfl) rfl (by simp[Value.oneCell']) ?_))
 refine bodyPost_ret (v:=.tuple #[.agg (Qa x F),.int .i64 0]) ((af.row _).ret2 (k:=6) (u:=7) (by kernel_rfl) rfl rfl Tryz.underlying32 (by kernel_rfl) (by kernel_rfl)) rfl ?_;have al:Kept (fun k=>k=z) W (W.setRow z (Qa x F)):=(Kept.refl (fun k=>k=z) W).setRow (.inl rfl) _;have ab:=((J.out _ hb).trans (al.below (B:=w.heap.size) (J.out _ hb).size (fun k hk e=>by omega)));have aH:SaiO W W1.heap.size X F:=⟨w0,b0,aE.out⟩;exact⟨⟨X,F,by rw[aF.out],(UJ _).symm,(aH.kept al (fun k hk e=>by omega)).mono (by omega)⟩,ab⟩
theorem V6b (x:Sai)(p:SaiV)(t:Int)(w:World)(hS:SaiR w x p)(ht:InI t) :
  Calls Tryz.prog 34 #[.agg (Qa x p),.int .i64 t] w fun e w'=>Vz w' w.heap.size (Yz x t) (YA x t) e∧yw w w':=by
 have Z:=yh (fun V hX=>XF 96 #[] (fun _=>True) x p t (Qjb (Vl x t)) (YA x t) V hX ht (enters_of Tryz.func96 (by kernel_rfl) rfl) trivial (fun _ _ _ _=>trivial) (fun X hl=>by
  obtain⟨b,h1,_,_,_,_,he⟩:=Vn (Zc X.bs.rise) hl;unfold YA;rw[he]
  exact Zub x _ b h1 X.bs.len) (fun _=>rfl))
 obtain⟨A,n,cap,B,m,aa,D,nd,cd,E,ne,ce,C,nb,cb⟩:=p
 go_enter Tryz.func34,Tryz.ntmps34
 go_upto_region 0 with(fail)
 go_cut [2,4,5] (fun p p2 p3 J=>∃g z,p=.pointer (some ⟨g,0,none⟩)∧p2=.pointer (some ⟨z,0,none⟩)∧p3=.int .i64 0∧w.heap.size≤z∧Blk J g (Qa x ⟨A,n,cap,B,m,aa,D,nd,cd,E,ne,ce,C,nb,cb⟩) 32∧Blk J z #[.int .i64 0,.int .i64 0,.slice none 0 0,.slice none 0 0,.slice none 0 0,.int .i64 0,.int .i64 0,.slice none 0 0,.int .i64 0,.int .i64 0,.int .i64 0,.slice none 0 0,.bool false] 32∧yw w J)
 case first=>as_aux_lemma=>
  go_wp2_with fail
  go_meet
  exact⟨_,_,rfl,rfl,rfl,by omega,QA _ _ _,QB _ _ _,Zh _ _ _⟩
 obtain⟨g,z,rfl,rfl,rfl,hz,U,hZ,hb⟩:=hcut;have O:=yh (Z.out _ (hS.bel hb))
 go_wp2_with (refine wpList_load_row rfl 32 (.tmp 2) rfl g rfl 32 _ (0,0) _ U Tryz.underlying32 rfl (by kernel_rfl) ?_)
 refine O.out.mono ?_;rintro e I ⟨⟨y,p',rfl,Y,W⟩,F⟩;have ab:=hZ.bel F;have ad:=hZ.lt;have ac:=hb.size;replace hb:=hb.trans (F.mono hb.size);have Q:=yh ab;have HO:=yh W;clear W;have HY:=yh Y;clear Y;clear U hZ F O
 go_wp2_with (refine wpList_store_row rfl 32 (.tmp 4) (.tmp 9) rfl z (Qa y p') rfl rfl 32 _ Q.out (by kernel_rfl) rfl (by simp[Value.oneCell']) ?_)
 refine bodyPost_ret (v:=.tuple #[.agg (Qa y p'),.int .i64 _]) ((Q.out.row _).ret2 (k:=4) (u:=5) (by kernel_rfl) rfl rfl Tryz.underlying32 (by kernel_rfl) (by kernel_rfl)) rfl ?_;have ae:Kept (fun k=>k=z) I (I.setRow z (Qa y p')):=(Kept.refl (fun k=>k=z) I).setRow (.inl rfl) _;exact⟨⟨y,p',rfl,HY.out,(HO.out.kept ae (fun k hk e=>by omega)).mono ac⟩,hb.trans (ae.below (B:=w.heap.size) hb.size (fun k hk e=>by omega))⟩
theorem X3a (x:Sai)(p:SaiV)(t:Int)(w:World)(hS:SaiR w x p)(ht:InI t) :
  Calls Tryz.prog 36 #[.agg (Qa x p),.int .i64 t] w fun e w'=>Vz w' w.heap.size (Yl x t) (Ym x t) e∧yw w w':=by
 have aa:=yh (fun V hX=>XF 101 #[] (fun _=>True) x p t (Vf x (Vl x t) x.day) (Ym x t) V hX ht (enters_of Tryz.func101 (by kernel_rfl) rfl) trivial (fun _ _ _ _=>trivial) (fun ho hl=>by
  obtain⟨b,h1,_,_,_,_,he⟩:=Vn (Zc ho.bs.rise) hl;unfold Ym;rw[he]
  exact QVb x _ b h1 ho.bs.len (ho.bs.bk b (List.mem_of_getElem? h1)).fol ho.day ho.leaves ho.fares) (fun _=>rfl))
 obtain⟨A,n,cap,B,m,ab,D,nd,cd,E,ne,ce,C,nb,cb⟩:=p
 go_enter Tryz.func36,Tryz.ntmps36
 go_upto_region 0 with(fail)
 go_cut [2,4,5] (fun p p2 p3 O=>∃g z,p=.pointer (some ⟨g,0,none⟩)∧p2=.pointer (some ⟨z,0,none⟩)∧p3=.int .i64 0∧w.heap.size≤z∧Blk O g (Qa x ⟨A,n,cap,B,m,ab,D,nd,cd,E,ne,ce,C,nb,cb⟩) 32∧Blk O z #[.int .i64 0,.int .i64 0,.slice none 0 0,.slice none 0 0,.slice none 0 0,.int .i64 0,.int .i64 0,.slice none 0 0,.int .i64 0,.int .i64 0,.int .i64 0,.slice none 0 0,.bool false] 32∧yw w O)
 case first=>as_aux_lemma=>
  go_wp2_with fail
  go_meet
  exact⟨_,_,rfl,rfl,rfl,by omega,QA _ _ _,QB _ _ _,Zh _ _ _⟩
 obtain⟨g,z,rfl,rfl,rfl,hz,W,F,hb⟩:=hcut;have Q:=yh (aa.out _ (hS.bel hb))
 go_wp2_with (refine wpList_load_row rfl 32 (.tmp 2) rfl g rfl 32 _ (0,0) _ W Tryz.underlying32 rfl (by kernel_rfl) ?_)
 refine Q.out.mono ?_;rintro e J ⟨⟨y,p',rfl,Z,Y⟩,I⟩;have ac:=F.bel I;have ae:=F.lt;have ad:=hb.size;replace hb:=hb.trans (I.mono hb.size);have U:=yh ac;have HO:=yh Y;clear Y;have HY:=yh Z;clear Z;clear W F I Q
 go_wp2_with (refine wpList_store_row rfl 32 (.tmp 4) (.tmp 9) rfl z (Qa y p') rfl rfl 32 _ U.out (by kernel_rfl) rfl (by simp[Value.oneCell']) ?_)
 refine bodyPost_ret (v:=.tuple #[.agg (Qa y p'),.int .i64 _]) ((U.out.row _).ret2 (k:=4) (u:=5) (by kernel_rfl) rfl rfl Tryz.underlying32 (by kernel_rfl) (by kernel_rfl)) rfl ?_;have X:Kept (fun k=>k=z) J (J.setRow z (Qa y p')):=(Kept.refl (fun k=>k=z) J).setRow (.inl rfl) _;exact⟨⟨y,p',rfl,HY.out,(HO.out.kept X (fun k hk e=>by omega)).mono ad⟩,hb.trans (X.below (B:=w.heap.size) hb.size (fun k hk e=>by omega))⟩
theorem Y6b (x:Sai)(p:SaiV)(t a:Int)(w:World)(hS:SaiR w x p)(ht:InI t)(ha:InI a) :
  Calls Tryz.prog 35 #[.agg (Qa x p),.int .i64 t,.int .i64 a] w fun e w'=>Vz w' w.heap.size (Yr x t a) (Ys x t a) e∧yw w w':=by
 have aa:=yh (fun q V hX I=>XF 98 #[.pointer (some ⟨q,0,none⟩)] (AmtK q a) x p t (YVa x (Vl x t) a) (Ys x t a) V hX ht (enters_of Tryz.func98 (by kernel_rfl) rfl) I (fun _ _ h hb=>h.bel hb) (fun ho hl=>by
  obtain⟨b,W,_,_,_,_,he⟩:=Vn (Zc ho.bs.rise) hl;unfold Ys;rw[he]
  exact Vub x _ b a q ha W ho.bs.len (ho.bs.bk b (List.mem_of_getElem? W)).fol ho.day) (fun _=>rfl))
 obtain⟨A,n,cap,B,m,ab,D,nd,cd,E,ne,ce,C,nb,cb⟩:=p
 go_enter Tryz.func35,Tryz.ntmps35
 go_upto_region 0 with(fail)
 go_cut [3,5,6,7] (fun p pq p2 p3 F=>∃g q z,p=.pointer (some ⟨g,0,none⟩)∧pq=.pointer (some ⟨q,0,none⟩)∧p2=.pointer (some ⟨z,0,none⟩)∧p3=.int .i64 0∧w.heap.size≤z∧Blk F g (Qa x ⟨A,n,cap,B,m,ab,D,nd,cd,E,ne,ce,C,nb,cb⟩) 32∧AmtK q a F∧Blk F z #[.int .i64 0,.int .i64 0,.slice none 0 0,.slice none 0 0,.slice none 0 0,.int .i64 0,.int .i64 0,.slice none 0 0,.int .i64 0,.int .i64 0,.int .i64 0,.slice none 0 0,.bool false] 32∧yw w F)
 case first=>as_aux_lemma=>
  go_wp2_with fail
  go_meet
  exact⟨_,_,_,rfl,rfl,rfl,rfl,by omega,Yd _ _ _ _,Ye _ _ _ _,Yf _ _ _ _,Q8a _ _ _ _⟩
 obtain⟨g,q,z,rfl,rfl,rfl,rfl,hz,X,I,J,hb⟩:=hcut;have U:=yh (aa.out q _ (hS.bel hb) I)
 go_wp2_with (refine wpList_load_row rfl 32 (.tmp 3) rfl g rfl 32 _ (0,0) _ X Tryz.underlying32 rfl (by kernel_rfl) ?_)
 refine U.out.mono ?_;rintro e Q ⟨⟨y,p',rfl,hy,Z⟩,O⟩;have ac:=J.bel O;have ae:=J.lt;have ad:=hb.size;replace hb:=hb.trans (O.mono hb.size);have af:=yh ac;have HO:=yh Z;clear Z;have HY:=yh hy;clear hy;clear X J O U
 go_wp2_with (refine wpList_store_row rfl 32 (.tmp 6) (.tmp 12) rfl z (Qa y p') rfl rfl 32 _ af.out (by kernel_rfl) rfl (by simp[Value.oneCell']) ?_)
 refine bodyPost_ret (v:=.tuple #[.agg (Qa y p'),.int .i64 _]) ((af.out.row _).ret2 (k:=6) (u:=7) (by kernel_rfl) rfl rfl Tryz.underlying32 (by kernel_rfl) (by kernel_rfl)) rfl ?_;have Y:Kept (fun k=>k=z) Q (Q.setRow z (Qa y p')):=(Kept.refl (fun k=>k=z) Q).setRow (.inl rfl) _;exact⟨⟨y,p',rfl,HY.out,(HO.out.kept Y (fun k hk e=>by omega)).mono ad⟩,hb.trans (Y.below (B:=w.heap.size) hb.size (fun k hk e=>by omega))⟩
theorem V3b (x:Sai)(p:SaiV)(t a:Int)(w:World)(hS:SaiR w x p)(ht:InI t)(ha:InI a) :
  Calls Tryz.prog 37 #[.agg (Qa x p),.int .i64 t,.int .i64 a] w fun e w'=>Vz w' w.heap.size (Yo x t a) (Yp x t a) e∧yw w w':=by
 have aa:=yh (fun q V hX F=>XF 103 #[.pointer (some ⟨q,0,none⟩)] (AmtK q a) x p t (YMa x (ZG x.bks t) (Vl x t) a) (Yp x t a) V hX ht (enters_of Tryz.func103 (by kernel_rfl) rfl) F (fun _ _ h hb=>h.bel hb) (fun Y hl=>by
  obtain⟨b,h1,_,_,_,_,he⟩:=Vn (Zc Y.bs.rise) hl;unfold Yp;rw[he]
  exact Q5b x _ b a q ha h1 Y) (fun _=>rfl))
 obtain⟨A,n,cap,B,m,ab,D,nd,cd,E,ne,ce,C,nb,cb⟩:=p
 go_enter Tryz.func37,Tryz.ntmps37
 go_upto_region 0 with(fail)
 go_cut [3,5,6,7] (fun p pq p2 p3 wx=>∃g q z,p=.pointer (some ⟨g,0,none⟩)∧pq=.pointer (some ⟨q,0,none⟩)∧p2=.pointer (some ⟨z,0,none⟩)∧p3=.int .i64 0∧w.heap.size≤z∧Blk wx g (Qa x ⟨A,n,cap,B,m,ab,D,nd,cd,E,ne,ce,C,nb,cb⟩) 32∧AmtK q a wx∧Blk wx z #[.int .i64 0,.int .i64 0,.slice none 0 0,.slice none 0 0,.slice none 0 0,.int .i64 0,.int .i64 0,.slice none 0 0,.int .i64 0,.int .i64 0,.int .i64 0,.slice none 0 0,.bool false] 32∧yw w wx)
 case first=>as_aux_lemma=>
  go_wp2_with fail
  go_meet
  exact⟨_,_,_,rfl,rfl,rfl,rfl,by omega,Yd _ _ _ _,Ye _ _ _ _,Yf _ _ _ _,Q8a _ _ _ _⟩
 obtain⟨g,q,z,rfl,rfl,rfl,rfl,hz,hG,F,I,hb⟩:=hcut;have Q:=yh (aa.out q _ (hS.bel hb) F)
 go_wp2_with (refine wpList_load_row rfl 32 (.tmp 3) rfl g rfl 32 _ (0,0) _ hG Tryz.underlying32 rfl (by kernel_rfl) ?_)
 refine Q.out.mono ?_;rintro e O ⟨⟨y,p',rfl,Z,X⟩,J⟩;have ac:=I.bel J;have ae:=I.lt;have ad:=hb.size;replace hb:=hb.trans (J.mono hb.size);have U:=yh ac;have HO:=yh X;clear X;have HY:=yh Z;clear Z;clear hG I J Q
 go_wp2_with (refine wpList_store_row rfl 32 (.tmp 6) (.tmp 12) rfl z (Qa y p') rfl rfl 32 _ U.out (by kernel_rfl) rfl (by simp[Value.oneCell']) ?_)
 refine bodyPost_ret (v:=.tuple #[.agg (Qa y p'),.int .i64 _]) ((U.out.row _).ret2 (k:=6) (u:=7) (by kernel_rfl) rfl rfl Tryz.underlying32 (by kernel_rfl) (by kernel_rfl)) rfl ?_;have W:Kept (fun k=>k=z) O (O.setRow z (Qa y p')):=(Kept.refl (fun k=>k=z) O).setRow (.inl rfl) _;exact⟨⟨y,p',rfl,HY.out,(HO.out.kept W (fun k hk e=>by omega)).mono ad⟩,hb.trans (W.below (B:=w.heap.size) hb.size (fun k hk e=>by omega))⟩
end Go.Proofs.YtjdcokpmgionjaaGreat
