/-
  Laws and contracts.
-/
import Derived.Test.YtjdcokpmgionjaaGreatBun15
set_option linter.unusedSimpArgs false
set_option linter.unusedVariables false
set_option maxRecDepth 100000
set_option maxHeartbeats 20000000
namespace Go.Proofs.YtjdcokpmgionjaaGreat
open Proofs.Tryz Go.RowKit Go.Shelf
theorem ZMa {w:World}{A:Option Addr}{n cap k:Nat}{L:List (List Value)}(h:Sl (ZY 11) 11 w All A n cap L)(O:k<n):∃D V cs,A=some ⟨D,V,none⟩∧L[k]? = some cs∧cs.length=11∧w.rangeAt D (V+k*11) cs:=by
 have Q:=h.len;obtain⟨b,V,cs,F,_,I,U,J⟩:=h.rd k (L[k]'(by omega)) (J1 (by omega));obtain⟨rfl,E,_⟩:=I;exact⟨b,V,_,F,J1 (by omega),E,J⟩
theorem Qda {K:World→Prop}{L:List (List Value)}{l:List Bkg}{w:World}{k:Nat}{b:Bkg}{cs:List Value}(I:∀X,K X→Pts ZP X L l)(F:L[k]? = some cs)(J:l[k]? = some b)(W:K w) :
  ∃A E D,cs=(Qk b (.slice A E D)).toList∧BkIn b∧∀X,K X→Sl Qm 3 X All A E D b.fol:=by
 obtain⟨A,E,D,rfl,hF,U⟩:=(I w W).el k _ _ F J;refine⟨A,E,D,rfl,U,fun X V=>?_⟩;obtain⟨A4,Z,Y,O,Q,_⟩:=(I X V).el k _ _ F J;simp at O;obtain⟨rfl,rfl,rfl⟩:=O;exact Q
theorem VNb (K:World→Prop)(x:Sai)(p:SaiV)(t:Int)(X:Sai)(L:List (List Value))(w:World)(az:∀V V',K V→yw V V'→K V')(af:∀V,K V→SaiR V x p)(ay:∀V,K V→Pts ZP V L x.bks)(ag:K w)(aB:Sl (ZY 11) 11 w All p.C p.nb p.cb L)
  (ho:OkSai x) (hX:X=Qwa x t) :
  Calls prog 127 #[.agg (Qa x p),.int .i64 t] w fun e w'=>Qia K w w' (YT x t (Zoa (ZW x t))) X e∧yw w w':=by
 have HX:=yh hX;have av:=yh (fun K k b U W c3 V Y h2 Z h4 h5 h6 h7=>V9 K x p k b U W c3 L V Y h2 Z h4 h5 h6 h7 ho.bs.len);clear hX;have aa:=yh (fun X hl=>Yq x p t X hl (QP ho.bs.rise));have hS:=af w ag;have aO:=yh az;have aQ:=yh af;have ao:=yh ay;have ap:=yh ag;have aq:=yh aB;have HS:=yh hS;have aT:=yh (QP ho.bs.rise);have bc:=yh (show x.bks.length=p.nb from hS.bks.len)
 have aY:p.nb≤16:=by have:=ho.bs.len;have:=bc.out;omega
 obtain⟨R,hR⟩:=yE (YT x t (Zoa (ZW x t)));obtain⟨lv,ad⟩:=yE (ZH x t);obtain⟨lp,aj⟩:=yE (Xpa x t);have HR:=yh (show R=if lv=true then (Zoa (ZW x t))else 5 by rw[hR,ad];rfl);have ae:=yh (show lp=if lv=true then (Ze x.bks t:Int)else -1 by rw[aj,ad];rfl);have ar:=yh ad;rw[←aj]at aa;rw[←hR];clear hR ad aj hS az af ay ag aB;obtain⟨A,n,cap,B,m,aX,D,nd,cd,E,ne,ce,C,nb,cb⟩:=p;simp only at aa bc aY;go_enter func127,ntmps127;go_upto_region 0 with(fail);go_cut [2,4,5] (fun p p2 p3 I=>∃g z,yp p g∧yp p2 z∧p3=.int .i64 0∧w.heap.size≤g∧w.heap.size≤z∧g≠z∧Blk I g (Qa x ⟨A,n,cap,B,m,aX,D,nd,cd,E,ne,ce,C,nb,cb⟩) 32∧Blk I z M9 32∧yw w I)
 case first=>as_aux_lemma=>
  go_wp2_with fail;go_meet;exact⟨_,_,rfl,rfl,rfl,J5 _,by omega,by omega,QE _ _ _,QF _ _ _,Zo _ _ _⟩
 obtain⟨g,z,rfl,rfl,rfl,hg,hz,a2,hG,hZ,ac⟩:=hcut;obtain⟨W1,rfl⟩:=yE wc;have F:=yh (fun X (hX:yw W1 X)=>ac.trans (hX.mono ac.size));have HG:=yh (fun X (hX:yw W1 X)=>hG.bel hX);have HZ:=yh (fun X (hX:yw W1 X)=>hZ.bel hX);have aV:=yh (fun X (hX:yw W1 X)=>HS.bel (F X hX));have aR:=yh (fun X (hX:yw W1 X)=>aO w X ap (F X hX))
 have am:=yh (show ∀(E':Int) V,¬E'=0→yw W1 V→Qia K w (V.setRow z (Qa Qf Qg)) E' X (.returned (.tuple #[.agg (Qa Qf Qg),.int .i64 E']))∧yw w (V.setRow z (Qa Qf Qg))from fun E' V h0 hX=>
  ⟨⟨Qf,Qg,rfl,(Ul h0 _).symm,fun V _ _=>UA V⟩,(F V hX).trans (((yk z V).setRow (.inl rfl) _).below (B:=w.heap.size) (F V hX).size (fun k hk e=>by omega))⟩)
 have hb:yw W1 W1:=J4 _ _;have a9:=ac.size;have ba:=hZ.lt;clear hG hZ ac;have HC:=yh (aa _ (aV _ hb).bks);go_wp2_with (refine yV (.tmp 2) (HG _ hb) underlying32 ?_);refine yM HC fun w1 aE=>?_;replace hb:=hb.trans (aE.mono hb.size);clear aE HC aa;cases lv
 ·obtain rfl:lp=-1:=by rw[ae.out];rfl
  obtain rfl:R=5:=by rw[HR.out];rfl
  have J:=HZ _ hb;go_wp2_with (refine yX 32 (.tmp 4) (.tmp 13) z (Qa Qf Qg) J ?_);refine yq2 (.tuple #[.agg (Qa Qf Qg),.int .i64 5]) (k:=4) (u:=5) (J.row _) underlying32 ?_;exact am _ _ (by decide) hb
 have aS:=yh (show R=(Zoa (ZW x t))by rw[HR.out];rfl);obtain⟨b,Y,h2,Z,h4,h5,h6⟩:=UE aT ar.symm;have al:=yh h6
 obtain rfl:lp=(Ze x.bks t:Int):=by rw[ae.out];rfl
 obtain⟨k,ai⟩:=yE (Ze x.bks t);rw[←ai]at Y Z ⊢;have aP:=yh ai;have aM:=yh Y
 have aJ:k<nb:=by rw[←bc.out];exact Z
 have a4:(0:Int)≤(k:Int):=Int.natCast_nonneg _
 have a5:(k:Int)<(nb:Int):=by omega
 clear h2 h4 h5 h6 ai Y Z HR ae ar;obtain⟨ab,aL,cs,hA,aA,a0,aH⟩:=ZMa (aq.bel (F _ hb)) aJ
 try simp only at hA
 subst hA;obtain⟨U,W,c3,rfl,hI,aI⟩:=Qda ao aA aM ap;have aN:=yh aI;have O:=yh hI;have HM:=yh aH;clear aA a0 aH hI aI;go_upto_region 4 with(fail);go_cut [7] (fun p I=>∃h,yp p h∧W1.heap.size≤h∧Blk I h (Qk b (.slice U W c3)) 63∧yw W1 I)
 case first=>
  have a1:yJ w1 g 11 (some ⟨ab,aL,none⟩) nb cb:=(HG _ hb).cell rfl;go_wp2_with (first|(refine wpList_load_mid rfl 63 (.tmp 17) rfl ab (aL+k*11) rfl _ _ HM underlying63 rfl (by kernel_rfl) ?_)|(refine wpList_store_row rfl 63 (.tmp 7) (.tmp 18) rfl w1.heap.size (Qk b (.slice U W c3)) rfl rfl 63 _ (Blk.new w1 M8 63) (by kernel_rfl) rfl (Ud _ _ _ _) ?_));go_meet;exact⟨_,rfl,hb.size,(Blk.new w1 _ _).row _,hb.trans ((M5 (Qi w1 _) (J5 _) _).mono hb.size)⟩
 obtain⟨h,rfl,hh,Q,hb⟩:=hcut;obtain⟨W2,rfl⟩:=yE wc;have a3:=Q.lt;clear HM;obtain⟨st,ak⟩:=yE b.state
 have c2:W2.cell? ⟨h,2,none⟩=some (.int .i64 st):=by rw[ak];exact Q.cell rfl
 have au:=yh (show R=if st=1 then 0 else 4 by rw[aS.out,al.out,ak];rfl);clear ak;by_cases q1:st=1;rotate_left
 ·obtain rfl:R=4:=by rw[au.out,M2 q1]
  have q2:(st !=1)=true:=by simpa using q1
  clear q1;have J:=HZ _ hb;go_wp2_with (refine yX 32 (.tmp 4) (.tmp 22) z (Qa Qf Qg) J ?_);refine yq2 (.tuple #[.agg (Qa Qf Qg),.int .i64 4]) (k:=4) (u:=5) (J.row _) underlying32 ?_;exact am _ _ (by decide) hb
 obtain rfl:R=0:=by rw[au.out,M3 q1]
 subst q1;have f2:=Q.free 2;have f9:=Q.free 9;have c9:yI W2 h 9 b.til:=Q.cell rfl;have HH:=yh Q;clear Q;go_upto_region 7 with(fail);go_cut [] (fun I=>Blk I h (Qk (YF b) (.slice U W c3)) 63∧Kept (fun k=>k=h) W2 I)
 case first=>as_aux_lemma=>
  go_wp2_with fail;go_meet;exact⟨(HH.set (j:=2) _).set (j:=9) _,VX W2 h [(2,.int .i64 2),(9,.int .i64 0)]⟩
 obtain⟨aw,ax⟩:=hcut;obtain⟨W3,rfl⟩:=yE wc;have aF:yw W1 W3:=hb.trans (ax.below (B:=W1.heap.size) hb.size (fun k hk e=>by omega));clear hb c2 f2 f9 c9 HH ax;have hb:=aF;have HC:=yh (av K k (YF b) U W c3 W3 aQ ao aN (aR _ hb) (aq.bel (F _ hb)) ⟨O.id,O.kind,show InI 2 from .of (by decide) (by decide),O.gst,O.cab,O.cat,O.frm,O.upto,UJ⟩ (by rw[bc.out];exact aJ));have an:=yh aw;clear aw aF av
 have aD:X=QT x k (YF b):=by rw[HX.out];unfold Qwa;rw[al.out,←aP.out]
 have aW:=yh aD;clear aD;go_wp2_with (first|(refine yV (.tmp 2) (HG _ hb) underlying32 ?_)|(refine yV (.tmp 7) an underlying63 ?_));refine HC.mono ?_;rintro e w4 ⟨q,p',rfl,a6,aK,aC,aG⟩;have a7:=hb.size;replace hb:=hb.trans (aG.mono hb.size);have aU:=yh aC;clear HC aC aG an;have J:=HZ _ hb;go_wp2_with (refine yX 32 (.tmp 4) (.tmp 28) z (Qa (QT x k (YF b)) p') J ?_);refine yq2 (.tuple #[.agg (Qa (QT x k (YF b)) p'),.int .i64 0]) (k:=4) (u:=5) (J.row _) underlying32 ?_;have a8:=(F _ hb).size;have ah:Kept (fun k=>k=z) w4 (w4.setRow z (Qa (QT x k (YF b)) p')):=(yk z _).setRow (.inl rfl) _;have aZ:=((F _ hb).trans (ah.below (B:=w.heap.size) (F _ hb).size (fun k hk e=>by omega)));refine⟨⟨_,p',rfl,by rw[Uf,aW.out],fun V hV hN=>aU V hV ?_⟩,aZ⟩;exact(hN q (by omega) (Nat.lt_of_lt_of_le aK ah.size)).trans (ah.block q aK (by omega))
theorem YJb (K:World→Prop)(x:Sai)(p:SaiV)(t a:Int)(X:Sai)(L:List (List Value))(w:World)(b7:∀V V',K V→yw V V'→K V')(az:∀V,K V→SaiR V x p)(b6:∀V,K V→Pts ZP V L x.bks)(aA:K w)(a4:Sl (ZY 11) 11 w All p.C p.nb p.cb L)
  (ho:OkSai x) (hX:X=Qta x t a) :
  Calls prog 128 #[.agg (Qa x p),.int .i64 t,.int .i64 a] w fun e w'=>Qia K w w' (YT x t (Zda x (ZW x t) a)) X e∧yw w w':=by
 have HX:=yh hX;have aX:=yh (fun K k b Y Q c3 V h1 h2 h3 h4 h5 h6 h7=>V9 K x p k b Y Q c3 L V h1 h2 h3 h4 h5 h6 h7 ho.bs.len);have bn:=Ql.1 ho.day
 have bN : -1000≤x.day:=by omega
 have bO:x.day≤10000:=by omega
 clear hX bn;have ah:=yh (fun X hl=>Yq x p t X hl (QP ho.bs.rise));have hS:=az w aA;have bo:=yh b7;have bq:=yh az;have aP:=yh b6;have ar:=yh aA;have aR:=yh a4;have HS:=yh hS;have bu:=yh (QP ho.bs.rise);have ai:=yh (show x.bks.length=p.nb from hS.bks.len)
 have bB:p.nb≤16:=by have:=ho.bs.len;have:=ai.out;omega
 obtain⟨R,hR⟩:=yE (YT x t (Zda x (ZW x t) a));obtain⟨lv,an⟩:=yE (ZH x t);obtain⟨lp,aI⟩:=yE (Xpa x t);have HR:=yh (show R=if lv=true then (Zda x (ZW x t) a)else 5 by rw[hR,an];rfl);have av:=yh (show lp=if lv=true then (Ze x.bks t:Int)else -1 by rw[aI,an];rfl);have aS:=yh an;rw[←aI]at ah;rw[←hR];clear hR an aI hS b7 az b6 aA a4;obtain⟨A,n,cap,B,m,bz,D,nd,cd,E,ne,ce,C,nb,cb⟩:=p;simp only at ah ai bB;go_enter func128,ntmps128;go_upto_region 0 with(fail);go_cut [3,6,7] (fun p p2 p3 wx=>∃g z,yp p g∧yp p2 z∧p3=.int .i64 0∧w.heap.size≤g∧w.heap.size≤z∧g≠z∧Blk wx g (Qa x ⟨A,n,cap,B,m,bz,D,nd,cd,E,ne,ce,C,nb,cb⟩) 32∧Blk wx z M9 32∧yw w wx)
 case first=>as_aux_lemma=>
  go_wp2_with fail;go_meet;exact⟨_,_,rfl,rfl,rfl,J5 _,by omega,by omega,QE _ _ _,QF _ _ _,Zo _ _ _⟩
 obtain⟨g,z,rfl,rfl,rfl,hg,hz,bP,hG,hZ,ak⟩:=hcut;obtain⟨J,rfl⟩:=yE wc;have HT:=yh (fun X (hX:yw J X)=>ak.trans (hX.mono ak.size));have HG:=yh (fun X (hX:yw J X)=>hG.bel hX);have HZ:=yh (fun X (hX:yw J X)=>hZ.bel hX);have bw:=yh (fun X (hX:yw J X)=>HS.bel (HT X hX));have aQ:=yh (fun X (hX:yw J X)=>bo w X ar (HT X hX))
 have ag:=yh (show ∀(E':Int) V,¬E'=0→yw J V→Qia K w (V.setRow z (Qa Qf Qg)) E' X (.returned (.tuple #[.agg (Qa Qf Qg),.int .i64 E']))∧yw w (V.setRow z (Qa Qf Qg))from fun E' V h0 hX=>
  ⟨⟨Qf,Qg,rfl,(Ul h0 _).symm,fun V _ _=>UA V⟩,(HT V hX).trans (((yk z V).setRow (.inl rfl) _).below (B:=w.heap.size) (HT V hX).size (fun k hk e=>by omega))⟩)
 have hb:yw J J:=J4 _ _;have bY:=ak.size;have b0:=hZ.lt;clear hG hZ ak;have Z:=yh (ah _ (bw _ hb).bks);go_wp2_with (refine yV (.tmp 3) (HG _ hb) underlying32 ?_);refine yM Z fun w1 a7=>?_;replace hb:=hb.trans (a7.mono hb.size);clear a7 Z ah;cases lv
 ·obtain rfl:lp=-1:=by rw[av.out];rfl
  obtain rfl:R=5:=by rw[HR.out];rfl
  have I:=HZ _ hb;go_wp2_with (refine yX 32 (.tmp 6) (.tmp 16) z (Qa Qf Qg) I ?_);refine yq2 (.tuple #[.agg (Qa Qf Qg),.int .i64 5]) (k:=6) (u:=7) (I.row _) underlying32 ?_;exact ag _ _ (by decide) hb
 have b8:=yh (show R=(Zda x (ZW x t) a)by rw[HR.out];rfl);obtain⟨b,h1,h2,h3,h4,h5,h6⟩:=UE bu aS.symm;have aK:=yh h6
 obtain rfl:lp=(Ze x.bks t:Int):=by rw[av.out];rfl
 obtain⟨k,aH⟩:=yE (Ze x.bks t);rw[←aH]at h1 h3 ⊢;have bp:=yh aH;have aJ:=yh h1
 have bf:k<nb:=by rw[←ai.out];exact h3
 have bR:(0:Int)≤(k:Int):=Int.natCast_nonneg _
 have bS:(k:Int)<(nb:Int):=by omega
 clear h2 h4 h5 h6 aH h1 h3 HR av aS;obtain⟨ab,bl,cs,hA,a3,bF,bb⟩:=ZMa (aR.bel (HT _ hb)) bf
 try simp only at hA
 subst hA;obtain⟨Y,Q,c3,rfl,hI,bc⟩:=Qda aP a3 aJ ar;have aL:=yh bc;have W:=yh hI;have HM:=yh bb;clear a3 bF bb hI bc;go_upto_region 4 with(fail);go_cut [9] (fun p wx=>∃h,yp p h∧J.heap.size≤h∧Blk wx h (Qk b (.slice Y Q c3)) 63∧yw J wx)
 case first=>
  have bL:yJ w1 g 11 (some ⟨ab,bl,none⟩) nb cb:=(HG _ hb).cell rfl;go_wp2_with (first|(refine wpList_load_mid rfl 63 (.tmp 20) rfl ab (bl+k*11) rfl _ _ HM underlying63 rfl (by kernel_rfl) ?_)|(refine wpList_store_row rfl 63 (.tmp 9) (.tmp 21) rfl w1.heap.size (Qk b (.slice Y Q c3)) rfl rfl 63 _ (Blk.new w1 M8 63) (by kernel_rfl) rfl (Ud _ _ _ _) ?_));go_meet;exact⟨_,rfl,hb.size,(Blk.new w1 _ _).row _,hb.trans ((M5 (Qi w1 _) (J5 _) _).mono hb.size)⟩
 obtain⟨h,rfl,hh,hH,hb⟩:=hcut;obtain⟨O,rfl⟩:=yE wc;have bQ:=hH.lt;clear HM;have aF:=(ho.bs.bk b (J6 aJ)).fol;obtain⟨bt,am⟩:=yE (Qc a 1 100000000);obtain⟨du,aE⟩:=yE (Zz b.fol);obtain⟨U,aB⟩:=yE (b.fol++[⟨x.day,2,-a⟩]);obtain⟨ce,aD⟩:=yE (Qe U);have ao:=yh (fun V=>Qj a 1 100000000 V);rw[←am]at ao;have aw:=yh (fun V h=>Vo Y Q c3 b.fol 0 V h (Z7 aF));rw[VJ,←aE]at aw;have ap:=yh (fun A n c V h=>Xg A n c U V h);rw[←aD]at ap;have aV:=yh (show R=if bt=false then 3 else if du<a then 4 else ce by rw[b8.out,aK.out,am,aE,aD,aB];rfl);have bm:=yh am;have au:=yh aB
 have bM:Q≤12:=by have:=U3 aF;rw[(aL.out _ ar.out).len]at this;exact this
 clear aF am aE aD aB ho;go_wp2_with fail;refine(ao _).mono ?_;rintro e w9 ⟨rfl,rfl⟩;clear ao;cases bt
 ·obtain rfl:R=3:=by rw[aV.out];rfl
  have I:=HZ _ hb;go_wp2_with (refine yX 32 (.tmp 6) (.tmp 25) z (Qa Qf Qg) I ?_);refine yq2 (.tuple #[.agg (Qa Qf Qg),.int .i64 3]) (k:=6) (u:=7) (I.row _) underlying32 ?_;exact ag _ _ (by decide) hb
 have aW:=yh (show R=if du<a then 4 else ce by rw[aV.out];rfl);obtain⟨a1,a2⟩:=Ql.1 bm.symm;have aZ:yJ O h 10 Y Q c3:=hH.cell rfl;have aq:=yh (fun V (hX:yw J V)=>aL _ (aQ _ hX));have HH:=yh hH;clear hH;go_wp2_with fail;refine yN (aw _ (aq _ hb)) ?_;clear aw aZ;by_cases q3:du<a
 ·obtain rfl:R=4:=by rw[aW.out,M3 q3]
  have q4:decide (du<a)=true:=J2 q3;clear q3;have I:=HZ _ hb;go_wp2_with (refine yX 32 (.tmp 6) (.tmp 31) z (Qa Qf Qg) I ?_);refine yq2 (.tuple #[.agg (Qa Qf Qg),.int .i64 4]) (k:=6) (u:=7) (I.row _) underlying32 ?_;exact ag _ _ (by decide) hb
 obtain rfl:R=ce:=by rw[aW.out,M2 q3]
 have q4:decide (du<a)=false:=J3 q3;clear q3;have aa:=yh (show ∀V,yw O V→(fun w'=>yI w' g 9 x.day) V from fun V hX=>(HG _ (hb.trans (hX.mono hb.size))).cell rfl);have aY:=yh (show ∀V V',yI V g 9 x.day→Kept (fun k=>k=h) V V'→yI V' g 9 x.day from fun V V' h1 h2=>Z2a h2 (by have:=(HG _ (J4 _ _)).lt;show ¬g=h;omega) h1)
 have a9:(([]:List Entry).length+Q)*24≤140737488355328:=by simp;omega
 have bd:b.fol.length=Q:=(aq _ hb).len
 have ba:(b.fol.length+1)*24≤140737488355328:=by omega
 have aM:=yh (fun V (hX:yw O V)=>aq V (hb.trans (hX.mono hb.size)));have bK:=yh bd;clear bd;go_upto_region 9 with(fail);clear q4;go_cut [] (fun wx=>∃F n5 c5 xs,O.heap.size≤F∧Own Qm 3 140 wx O.heap.size (.slice (some ⟨F,0,none⟩) n5 c5) U xs∧Blk wx h (Qk { b with fol:=U } (.slice (some ⟨F,0,none⟩) n5 c5)) 63∧Kept (fun k=>k=h) O wx)
 case first=>
  have b4:yw O O.drew:=(J4 _ O).drew;have bT:IntKind.i64.wrap (-a)=-a:=IntWalk.i64_in _ (by omega);refine yZ (S:=(fun w'=>yI w' g 9 x.day)) (aa _ b4) fun b5=>?_;refine yT [1,4,5,6,7,8] ?_;iterate 6 (refine yS ?_;simp only[yU])
  have aZ:yJ O h 10 Y Q c3:=HH.cell rfl
  focus
   refine yr3 0 2 9 (fun K k0=>?_) (fun K k2=>?_) (fun K k9=>?_)
   repeat first
    |
     revert k0
     intro hK;go_simp;refine hK.out _ _ (aa _ (b4.alloc b4.size (.cells #[] 140))) fun b5=>?_;clear hK K
     try simp only[yU]
     (have ad:=QTb Qm 3 140 b4;(try replace hL:=fun g hg=>(hL g hg).bel (Qi _ (.cells #[] 140)));replace b4:=b4.alloc b4.size (.cells #[] 140))
     first
      | refine yt2 2 9 (fun K k2=>?_) (fun K k9=>?_)
      | refine yt2 3 9 (fun K k3=>?_) (fun K k9=>?_)
      | refine yt1 2 (fun K k2=>?_)
      | refine yt1 3 (fun K k3=>?_)
    |
     revert k2
     intro hK;go_simp;refine hK.out _ _ (aa _ b4) fun b5=>?_;clear hK K
     try simp only[yU]
     first
      | refine yt2 0 9 (fun K k0=>?_) (fun K k9=>?_)
      | refine yt2 3 9 (fun K k3=>?_) (fun K k9=>?_)
      | refine yt1 0 (fun K k0=>?_)
      | refine yt1 3 (fun K k3=>?_)
    |
     revert k3
     intro hK
     (refine Uy (v:=.slice (some ⟨_,0,none⟩) 0 0) (t:=61) (e:=140) (bytes:=24) (base:=O.heap.size) (c:=Qm) (l:=[]) (xs:=[]) (l2:=b.fol) (S:=All) rfl (.tmp 32) (.tmp 34) rfl UY Qb rfl rfl (ad _ (by simp)) (aM _ b4) (fun _ _ hc=>hc) a9 (by omega) b4.size ?_;intro v' w' bI ae aG bC;(try replace hL:=fun g hg=>(hL g hg).grown aG (by subst hg;simp[Value.ownBlock]));replace b4:=QA b4 (ad _ (by simp)) aG b4.size;clear ad aG bC)
     refine hK.out _ _ (aa _ b4) fun b5=>?_;clear hK K
     try simp only[yU]
     first
      | refine yt1 9 (fun K k9=>?_)
      | rotate_left
    |
     revert k9
     intro hK;go_simp;refine hK.out _ _ (aa _ (b4.alloc b4.size (.cells #[.int .i64 x.day,.int .i64 2,.int .i64 (-a)] 140))) fun b5=>?_;clear hK K
     try simp only[yU]
     (have hL:=ZG b4 #[.int .i64 x.day,.int .i64 2,.int .i64 (-a)] 140;(try replace ad:=fun g hg=>(ad g hg).bel (Qi _ (.cells #[.int .i64 x.day,.int .i64 2,.int .i64 (-a)] 140)));(try replace ae:=ae.bel (Qi _ (.cells #[.int .i64 x.day,.int .i64 2,.int .i64 (-a)] 140)));replace b4:=b4.alloc b4.size (.cells #[.int .i64 x.day,.int .i64 2,.int .i64 (-a)] 140))
     first
      | refine yt2 0 2 (fun K k0=>?_) (fun K k2=>?_)
      | refine yt1 2 (fun K k2=>?_)
      | refine yt1 0 (fun K k0=>?_)
      | refine yt1 3 (fun K k3=>?_)
      | rotate_left
   all_goals
    refine yR 10 fun K hK=>?_
    (refine Uy (t:=61) (e:=140) (bytes:=24) (base:=O.heap.size) (c:=Qm) (l:=b.fol) (xs:=bI) (l2:=[⟨x.day,2,-a⟩]) (S:=All) rfl (.tmp 35) (.tmp 41) rfl UY Qb rfl rfl ae (ZQa (hL _ (by simp)) (.of (by omega) (by omega)) (.of (by decide) (by decide)) (.of (by omega) (by omega))) (fun _ _ hc=>hc) ba (by omega) b4.size ?_;intro v2 w2 bJ aC be bD;replace b4:=QA b4 ae be b4.size;clear ae be bD hL;rw[←au.out]at aC;obtain⟨F,c5,bH,bh,bi⟩:=aC.form (by rw[au.out];simp);subst bH;have ay:=HH.bel b4;have mf:=ay.free 10;have b1:w2.cell? ⟨h,10,none⟩=some (.slice Y Q c3):=ay.cell rfl)
    refine hK.out _ _ (aa _ b4) fun b5=>?_;clear hK K
    try simp only[yU]
    refine yT [11] ?_;iterate 1 (refine yS ?_;simp only[yU])
    refine yR 12 fun K hK=>?_;go_simp;refine hK.out _ _ (aY _ _ (aa _ b4) (VX w2 h [(10,_)])) fun b5=>?_;clear hK K
    try simp only[yU]
    refine yD ?_;go_wp2_with fail;go_meet;exact⟨F,_,c5,bJ,bh,ZM Zb aC (by simp[Value.ownBlock];omega) _,ay.set (j:=10) _,(Kept.of_below b4 (fun k hk hx=>by omega)).trans (VX w2 h [(10,_)])⟩
 obtain⟨F,n5,c5,b2,bh,aj,ax,a0⟩:=hcut;obtain⟨W3,rfl⟩:=yE wc;have a8:yw J W3:=hb.trans (a0.below (B:=J.heap.size) hb.size (fun k hk e=>by omega));have bi:=(aj.lt F rfl).2;have bA:yJ W3 h 10 (some ⟨F,0,none⟩) n5 c5:=ax.cell rfl;have bj:Sl Qm 3 W3 All (some ⟨F,0,none⟩) n5 c5 U:=aj.slAll Qb Qb (by omega) (fun h=>h) rfl;have bZ:=hb.size;clear hb aa aY aM a9 ba HH a0;have hb:=a8;have Z:=yh (ap _ _ _ _ bj);have aT:=yh aj;clear aj;have aN:=yh ax;clear ax;clear bj ap a8;go_wp2_with fail;refine yM Z fun w5 af=>?_;have aO:=yh (aN.bel af);have aU:=yh (aT.bel af);have bG:=Nat.lt_of_lt_of_le bi af.size;replace hb:=hb.trans (af.mono hb.size);clear af Z bA aT aN;by_cases q7:R=0;rotate_left
 ·have q8:(R !=0)=true:=by simpa using q7
  have Q7:=yh q7;clear q7;have I:=HZ _ hb;go_wp2_with (refine yX 32 (.tmp 6) (.tmp 49) z (Qa Qf Qg) I ?_);refine yq2 (.tuple #[.agg (Qa Qf Qg),.int .i64 R]) (k:=6) (u:=7) (I.row _) underlying32 ?_;exact ag _ _ Q7 hb
 subst q7
 have Z:=yh (aX (fun V=>K V∧V.heap[F]? = w5.heap[F]?) k { b with fol:=U } (some ⟨F,0,none⟩) n5 c5 w5 (fun V hV=>bq V hV.1) (fun V hV=>aP V hV.1)
  (fun V hV=>(aU.keepB Zb (fun j hj=>by injection hj with hj;subst hj;exact hV.2)).slAll Qb Qb (by omega) (fun h=>h) rfl) ⟨aQ _ hb,rfl⟩ (aR.bel (HT _ hb)) ⟨W.id,W.kind,W.state,W.gst,W.cab,W.cat,W.frm,W.upto,W.til⟩ (by rw[ai.out];exact bf))
 have a6:X=QT x k { b with fol:=U }:=by rw[HX.out];unfold Qta Uaa;rw[aK.out,←bp.out,au.out]
 have bx:=yh a6;clear a6 aX;go_wp2_with (first|(refine yV (.tmp 3) (HG _ hb) underlying32 ?_)|(refine yV (.tmp 9) aO underlying63 ?_));refine Z.mono ?_;rintro e w4 ⟨q,p',rfl,bU,bg,a5,al⟩;have bW:=hb.size;replace hb:=hb.trans (al.mono hb.size);have bv:=yh a5;have br:=yh (show w4.heap[F]? = w5.heap[F]? from al.block F bG);have bV:=al.size;clear Z a5 al aO aU;have I:=HZ _ hb;go_wp2_with (refine yX 32 (.tmp 6) (.tmp 54) z (Qa (QT x k { b with fol:=U }) p') I ?_);refine yq2 (.tuple #[.agg (Qa (QT x k { b with fol:=U }) p'),.int .i64 0]) (k:=6) (u:=7) (I.row _) underlying32 ?_;have bX:=(HT _ hb).size;have ac:Kept (fun k=>k=z) w4 (w4.setRow z (Qa (QT x k { b with fol:=U }) p')):=(yk z _).setRow (.inl rfl) _;have bE:=((HT _ hb).trans (ac.below (B:=w.heap.size) (HT _ hb).size (fun k hk e=>by omega)));refine⟨⟨_,p',rfl,by rw[Uf,bx.out],fun V hV hN=>bv V ⟨hV,?_⟩ ?_⟩,bE⟩
 ·exact((hN F (by omega) (by have:=ac.size;omega)).trans (ac.block F (by omega) (by omega))).trans br
 ·exact(hN q (by omega) (Nat.lt_of_lt_of_le bg ac.size)).trans (ac.block q bg (by omega))
def V4a (w w':World) (x:Sai) (b:Bkg) (day:Int) (A3:Option Addr) (n3 c3:Nat) (e:Ending):Prop:=
 ∃(b':Bkg) (A5:Option Addr) (n5 c5:Nat),e=.returned (.tuple #[.agg (Qk b' (.slice A5 n5 c5)),.int .i64 (ZV x b day)])∧(¬ZV x b day=0→b'=b∧A5=A3∧n5=n3∧c5=c3)∧
  (ZV x b day=0→b'=VR x b day∧∃xs,Own Qm 3 140 w' w.heap.size (.slice A5 n5 c5) b'.fol xs)
theorem UWa (x:Sai)(p:SaiV)(b:Bkg)(A3:Option Addr)(F c3:Nat)(day:Int)(w:World)(hf:Sl Qm 3 w All A3 F c3 b.fol)(aF:FareR w p.D p.nd p.cd x.fares p.E p.ne p.ce)(aK:ZI x.fares x.ship.cats.length x.ship.legs=0)(aL:Qc x.leaves 0 9999=true)(af:Qe b.fol=0)(hd:0≤day∧day≤9999) :
  Calls prog 202 #[.agg (Qa x p),.agg (Qk b (.slice A3 F c3)),.int .i64 day] w fun e w'=>V4a w w' x b day A3 F c3 e∧yw w w':=by
 have au:=Vz aK;have a3:=Ql.1 aL;have an:=yh (fun q V h=>Vo A3 F c3 b.fol q V h (Z7 af));have ae:=yh (fun d V hF h0 h1=>VIa p.D p.nd p.cd x.fares p.E p.ne p.ce (QV b.fol) d V hF h0 h1 (fun b hb=>(au.band b hb).2.2));have ah:=yh (fun V h h0 h1 h2=>XIa A3 F c3 b.fol day (Zea x b day) V h (.of (by omega) (by omega)) h0 af h1 h2);obtain⟨E',hE⟩:∃r,r=ZV x b day:=⟨_,rfl⟩
 have az:=yh (show ∀w' e,(∃(b':Bkg) (Z:Option Addr) (n5 c5:Nat),e=.returned (.tuple #[.agg (Qk b' (.slice Z n5 c5)),.int .i64 E'])∧(¬E'=0→b'=b∧Z=A3∧n5=F∧c5=c3)∧
  (E'=0→b'=VR x b day∧∃xs,Own Qm 3 140 w' w.heap.size (.slice Z n5 c5) b'.fol xs))→V4a w w' x b day A3 F c3 e from fun w' e h=>by unfold V4a;rw[←hE];exact h)
 obtain⟨I,ac⟩:=yE (QV b.fol);obtain⟨sk,ag⟩:=yE (Zn b.fol);obtain⟨pv,ak⟩:=yE (Zea x b day);obtain⟨lt,av⟩:=yE (Xq x.fares (QV b.fol) (max 0 (x.leaves-day)));obtain⟨L,hL⟩:=yE (ZF b.fol day (Zea x b day));obtain⟨aE,ar⟩:∃r,r=Qe (ZF b.fol day (Zea x b day)):=⟨_,rfl⟩;have HE:=yh (show E'=if b.state=2∧100000000<I then 3 else aE by rw[hE,ac,ar];rfl);have HP:=yh (show pv=if b.state=2∧0<I then lt else 0 by rw[ak,ac,av];rfl);have aC:=yh (show ¬(b.state=2∧100000000<I)→0≤pv∧pv≤100000000 from fun h=>by rw[ak];rw[ac]at h;exact XWb au h);have ay:=yh (show VR x b day={ b with state:=3,til:=0,fol:=L }by rw[hL];rfl);have aD:=yh (show sk 1+sk 4=I by rw[ag,ac];exact Qoa b.fol);have b1:=Xb af (UK 1);have b4:=Xb af (UK 4);rw[show ZO (UK 1) b.fol=sk 1 by rw[ag];rfl]at b1;rw[show ZO (UK 4) b.fol=sk 4 by rw[ag];rfl]at b4;rw[←ag]at an;rw[←ac]at ae;rw[←ar,←hL,←ak]at ah;have aA:=yh (show lt=Xq x.fares I (max 0 (x.leaves-day))by rw[av,ac]);have aY:IntKind.i64.wrap (x.leaves-day)=x.leaves-day:=IntWalk.i64_in _ (by omega);have aW:IntKind.i64.wrap (sk 1+sk 4)=sk 1+sk 4:=IntWalk.i64_in _ (by omega);have HF:=yh hf;have aP:=yh aF;clear hE ac ag ak av hL ar au hf aF aK aL af;obtain⟨A,n,cap,B,m,aU,D,nd,cd,E,ne,ce,C,nb,cb⟩:=p;obtain⟨id,W,state,U,lev,J,O,Q,upto,til,fol⟩:=b;simp only at ae HE HP aC ay ah;go_enter func202,ntmps202;go_upto_region 0 with(fail);go_cut [3,4,6,7] (fun p p2 p3 p4 wx=>∃g h z,yp p g∧yp p2 h∧yp p3 z∧p4=.int .i64 0∧w.heap.size≤g∧w.heap.size≤h∧w.heap.size≤z∧g≠h∧h≠z∧Blk wx g (Qa x ⟨A,n,cap,B,m,aU,D,nd,cd,E,ne,ce,C,nb,cb⟩) 32∧Blk wx h (Qk ⟨id,W,state,U,lev,J,O,Q,upto,til,fol⟩ (.slice A3 F c3)) 63∧Blk wx z M8 63∧yw w wx)
 case first=>as_aux_lemma=>
  go_wp2_with fail;go_meet;exact⟨_,_,_,rfl,rfl,rfl,rfl,J5 _,by omega,by omega,by omega,by omega,Vc _ _ _ _,Vd _ _ _ _,Ve _ _ _ _,X0 _ _ _ _⟩
 obtain⟨g,h,z,rfl,rfl,rfl,rfl,hg,hh,hz,a1,aX,hG,hH,hZ,aj⟩:=hcut;obtain⟨W1,rfl⟩:=yE wc;have HT:=yh (fun X (hX:yw W1 X)=>aj.trans (hX.mono aj.size));have HG:=yh (fun X (hX:yw W1 X)=>hG.bel hX);have HH:=yh (fun X (hX:yw W1 X)=>hH.bel hX);have HZ:=yh (fun X (hX:yw W1 X)=>hZ.bel hX);have ax:=yh (fun X (hX:yw W1 X)=>HF.bel (HT X hX));have a2:=hH.lt;have a6:=hZ.lt
 have aw:=yh (show ∀(V:World),¬E'=0→yw W1 V→V4a w (V.setRow z (Qk ⟨id,W,state,U,lev,J,O,Q,upto,til,fol⟩ (.slice A3 F c3))) x ⟨id,W,state,U,lev,J,O,Q,upto,til,fol⟩ day A3 F c3 (.returned (.tuple #[.agg (Qk ⟨id,W,state,U,lev,J,O,Q,upto,til,fol⟩ (.slice A3 F c3)),.int .i64 E']))∧yw w (V.setRow z (Qk ⟨id,W,state,U,lev,J,O,Q,upto,til,fol⟩ (.slice A3 F c3)))from fun V h0 hX=>
  ⟨az _ _ ⟨⟨id,W,state,U,lev,J,O,Q,upto,til,fol⟩,A3,F,c3,rfl,fun _=>⟨rfl,rfl,rfl,rfl⟩,fun h=>absurd h h0⟩,(HT V hX).trans (((yk z V).setRow (.inl rfl) _).below (B:=w.heap.size) (HT V hX).size (fun k hk e=>by omega))⟩)
 have hb:yw W1 W1:=J4 _ _;have a5:=aj.size;clear hG hH hZ aj;have al:=yh (show ∀V,yw W1 V→yJ V h 10 A3 F c3 from fun V hX=>(HH V hX).cell rfl);go_upto_region 1 with(fail);go_cut [8] (fun q wx=>q=.int .i64 I∧yw W1 wx)
 case first=>
  replace hb:=hb.drew;go_region_held3 (fun w'=>w'.cell? ⟨h,10,none⟩=some (.slice A3 F c3)) (first|exact al _ hb|go_keep) (first|(go_at_call 133;refine yN (an _ _ (ax _ hb)) ?_))
  all_goals go_wp2_with fail
  all_goals go_meet
  all_goals exact⟨by rw[aD.out],hb⟩
 obtain⟨rfl,aI⟩:=hcut;replace hb:=aI;obtain⟨W2,rfl⟩:=yE wc;clear aI aW an aD b1 b4;have c2:yI W2 h 2 state:=(HH _ hb).cell rfl;by_cases qA:state=2∧100000000<I
 ·obtain rfl:E'=3:=by rw[HE.out,M3 qA]
  obtain⟨rfl,Y⟩:=qA;have q3:decide (0<I)=true:=J2 (by omega);have q4:decide (100000000<I)=true:=J2 Y;have ad:=HZ _ hb;clear Y;go_wp2_with (first|(refine yV (.tmp 4) (HH _ hb) underlying63 ?_)|(refine wpList_store_row rfl 63 (.tmp 6) (.tmp 29) rfl z (Qk ⟨id,W,2,U,lev,J,O,Q,upto,til,fol⟩ (.slice A3 F c3)) rfl rfl 63 _ ad (by kernel_rfl) rfl (Ud _ _ _ _) ?_));refine yq2 (.tuple #[.agg (Qk ⟨id,W,2,U,lev,J,O,Q,upto,til,fol⟩ (.slice A3 F c3)),.int .i64 3]) (k:=6) (u:=7) (ad.row _) underlying63 ?_;exact aw _ (by decide) hb
 have aT:=yh (aC qA)
 obtain rfl:E'=aE:=by rw[HE.out,M2 qA]
 obtain⟨tv,aN⟩:=yE (decide (state=2) && decide (0<I));have ai:=yh aN;clear aN;go_upto_region 3 with(fail);go_cut [26] (fun q wx=>q=.bool tv∧W2=wx)
 case first=>as_aux_lemma=>
  by_cases Y:state=2
  ·obtain rfl:tv=decide (0<I):=by rw[ai.out,J2 Y];rfl
   subst Y;go_wp2_with fail;go_meet;exact⟨rfl,rfl⟩
  ·obtain rfl:tv=false:=by rw[ai.out,J3 Y];rfl
   have q4:(state==2)=false:=by simpa using Y
   clear Y;go_wp2_with fail;go_meet;exact⟨rfl,rfl⟩
 obtain⟨rfl,rfl⟩:=hcut;go_upto_if 26 with(fail);go_cut [9] (fun q wx=>q=.int .i64 pv∧yw W1 wx)
 case first=>
  cases tv
  ·obtain rfl:pv=0:=by
    rw[HP.out];refine M2 fun h=>?_;have:=ai.out;rw[J2 h.1,J2 h.2]at this;cases this
   go_wp2_with fail;go_meet;exact⟨rfl,hb⟩
  ·obtain⟨h1,h2⟩:=Bool.and_eq_true_iff.1 ai.symm;have Y:=of_decide_eq_true h1;have q3:=of_decide_eq_true h2;have q5:¬100000000<I:=fun h=>qA ⟨Y,h⟩;have q4:decide (100000000<I)=false:=J3 q5
   obtain rfl:pv=lt:=by rw[HP.out,M3 ⟨Y,q3⟩]
   have g4:yJ W2 g 4 D nd cd:=(HG _ hb).cell rfl;have g5:yI W2 g 5 x.fares.alone:=(HG _ hb).cell rfl;have g6:yI W2 g 6 x.fares.third:=(HG _ hb).cell rfl;have g7:yJ W2 g 7 E ne ce:=(HG _ hb).cell rfl;have g8:yI W2 g 8 x.fares.down:=(HG _ hb).cell rfl;have a0:yI W2 g 10 x.leaves:=(HG _ hb).cell rfl;have HC:=yh (fun d=>ae d W2 (aP.below (HT _ hb)) (by omega) (by omega));clear h1 h2 Y q3 qA q5 ae c2;by_cases q6:x.leaves-day<0
   ·have am:=yh (show Xq x.fares I 0=pv by rw[aA.out];congr 1;omega);have q7:decide (x.leaves-day<0)=true:=J2 q6;clear q6;go_wp2_with fail;refine yM (HC _) fun w3 aa=>?_;rw[am.out];replace hb:=hb.trans (aa.mono hb.size);clear aa HC;go_wp2_with fail;go_meet;exact⟨rfl,hb⟩
   ·have am:=yh (show Xq x.fares I (x.leaves-day)=pv by rw[aA.out];congr 1;omega);have q7:decide (x.leaves-day<0)=false:=J3 q6;clear q6;go_wp2_with fail;refine yM (HC _) fun w3 aa=>?_;rw[am.out];replace hb:=hb.trans (aa.mono hb.size);clear aa HC;go_wp2_with fail;go_meet;exact⟨rfl,hb⟩
 obtain⟨rfl,aJ⟩:=hcut;replace hb:=aJ;obtain⟨p0,p1⟩:=aT.out;obtain⟨W3,rfl⟩:=yE wc;have HC:=yh (ah _ (ax _ hb) (.of (by omega) (by omega)) p0 p1);have ao:=al _ hb;clear aJ c2 qA ae aY ah;go_wp2_with fail;refine HC.mono ?_;rintro e w3 ⟨v,xs,rfl,hO,aa⟩;have a4:=hb.size;replace hb:=hb.trans (aa.mono hb.size);clear aa HC ao;have HO:=yh hO;clear hO;have ad:=HZ _ hb;by_cases q5:E'=0;rotate_left
 ·have q6:(E' !=0)=true:=by simpa using q5
  have Q5:=yh q5;clear q5;go_wp2_with (first|(refine yV (.tmp 4) (HH _ hb) underlying63 ?_)|(refine wpList_store_row rfl 63 (.tmp 6) (.tmp 51) rfl z (Qk ⟨id,W,state,U,lev,J,O,Q,upto,til,fol⟩ (.slice A3 F c3)) rfl rfl 63 _ ad (by kernel_rfl) rfl (Ud _ _ _ _) ?_));refine yq2 (.tuple #[.agg (Qk ⟨id,W,state,U,lev,J,O,Q,upto,til,fol⟩ (.slice A3 F c3)),.int .i64 E']) (k:=6) (u:=7) (ad.row _) underlying63 ?_;exact aw _ Q5 hb
 have aq:Own Qm 3 140 w3 W3.heap.size v L xs:=by
  have:=HO.out
  rwa [q5,QR]at this
 subst q5;obtain⟨Z,n5,c5,rfl,_⟩:=aq.sl Qb;have ab:=HH _ hb;have f2:=ab.free 2;have f9:=ab.free 9;have aV:=ab.free 10;have c2:yI w3 h 2 state:=ab.cell rfl;have c9:yI w3 h 9 til:=ab.cell rfl;have ao:=al _ hb;have HB:=yh hb;clear hb;have aB:=yh aq;clear aq;have aQ:=yh ab;clear ab;go_upto_region 13 with(fail);go_cut [] (fun wx=>Blk wx h (Qk ⟨id,W,3,U,lev,J,O,Q,upto,0,L⟩ (.slice Z n5 c5)) 63∧Kept (fun k=>k=h) w3 wx)
 case first=>as_aux_lemma=>
  go_wp2_with fail;go_meet;exact⟨((aQ.set (j:=10) _).set (j:=2) _).set (j:=9) _,VX w3 h [(10,.slice Z n5 c5),(2,.int .i64 3),(9,.int .i64 0)]⟩
 obtain⟨aG,ap⟩:=hcut;obtain⟨W4,rfl⟩:=yE wc;have aO:=ad.kept ap (fun e=>aX e.symm);have aR:=yh aG;have aS:=yh ap;clear ap;clear aG f2 f9 aV c2 c9 ao;go_wp2_with (first|(refine yV (.tmp 4) aR underlying63 ?_)|(refine wpList_store_row rfl 63 (.tmp 6) (.tmp 57) rfl z (Qk ⟨id,W,3,U,lev,J,O,Q,upto,0,L⟩ (.slice Z n5 c5)) rfl rfl 63 _ aO (by kernel_rfl) rfl (Ud _ _ _ _) ?_));refine yq2 (.tuple #[.agg (Qk ⟨id,W,3,U,lev,J,O,Q,upto,0,L⟩ (.slice Z n5 c5)),.int .i64 0]) (k:=6) (u:=7) (aO.row _) underlying63 ?_;have aH:Kept (fun k=>k=h∨k=z) w3 (W4.setRow z (Qk ⟨id,W,3,U,lev,J,O,Q,upto,0,L⟩ (.slice Z n5 c5))):=(aS.mono fun k _ hk=>.inl hk).setRow (.inl (.inr rfl)) _;have aZ:=(HT _ HB).size
 have aM:∀k,(Value.slice Z n5 c5).ownBlock=some k→k<w3.heap.size∧¬(k=h∨k=z):=fun k hk=>by have:=aB.lt k hk;exact⟨this.2,by omega⟩
 refine⟨az _ _ ⟨_,Z,n5,c5,rfl,fun h=>(h (by first|rfl|trivial)).elim,fun _=>⟨ay.symm,xs,?_⟩⟩,(HT _ HB).trans (aH.below (B:=w.heap.size) aZ (fun k hk e=>by omega))⟩;exact(aB.keepB Zb (fun k hk=>aH.block k (aM k hk).1 (aM k hk).2)).mono Qb (by omega)
theorem Own.rowT {w:World}{base z:Nat}{v:Value}{l:List Entry}{xs:List Value}{cs:Array Value}{t:TypeId}(h:Own Qm 3 140 w base v l xs)(A:Blk w z cs t)(E:t≠140)(F:Array Value):Own Qm 3 140 (w.setRow z F) base v l xs:=
 h.keepB Zb fun j D=>setRow_other _ _ _ _ (fun e=>h.neTy A E (by rw[D,e]))
theorem Ufa (K:World→Prop)(x:Sai)(p:SaiV)(t:Int)(X:Sai)(L:List (List Value))(w:World)(aQ:∀V V',K V→yw V V'→K V')(aq:∀V,K V→SaiR V x p)(aP:∀V,K V→Pts ZP V L x.bks)(ar:K w)(aS:Sl (ZY 11) 11 w All p.C p.nb p.cb L)
  (ho:OkSai x) (hX:X=Qqa x t) :
  Calls prog 129 #[.agg (Qa x p),.int .i64 t] w fun e w'=>Qia K w w' (YT x t (ZV x (ZW x t) x.day)) X e∧yw w w':=by
 have HX:=yh hX;have aM:=yh (fun K k b A3 n3 c3 V W h2 h3 h4 h5 h6 h7=>V9 K x p k b A3 n3 c3 L V W h2 h3 h4 h5 h6 h7 ho.bs.len);have aE:=yh (fun b A3 n3 c3 V hF hR aj=>UWa x p b A3 n3 c3 x.day V hF hR ho.fares ho.leaves aj (Ql.1 ho.day));clear hX;have ae:=yh (fun X hl=>Yq x p t X hl (QP ho.bs.rise));have hS:=aq w ar;have a4:=yh aQ;have a6:=yh aq;have aG:=yh aP;have aH:=yh ar;have aJ:=yh aS;have HS:=yh hS;have a9:=yh (QP ho.bs.rise);have af:=yh (show x.bks.length=p.nb from hS.bks.len)
 have bc:p.nb≤16:=by have:=ho.bs.len;have:=af.out;omega
 obtain⟨R,hR⟩:=yE (YT x t (ZV x (ZW x t) x.day));obtain⟨lv,al⟩:=yE (ZH x t);obtain⟨lp,ax⟩:=yE (Xpa x t);have HR:=yh (show R=if lv=true then (ZV x (ZW x t) x.day)else 5 by rw[hR,al];rfl);have am:=yh (show lp=if lv=true then (Ze x.bks t:Int)else -1 by rw[ax,al];rfl);have aK:=yh al;rw[←ax]at ae;rw[←hR];clear hR al ax hS aQ aq aP ar aS;obtain⟨A,n,cap,B,m,ao,D,nd,cd,E,ne,ce,C,nb,cb⟩:=p;simp only at ae af bc;go_enter func129,ntmps129;go_upto_region 0 with(fail);go_cut [2,4,5] (fun p p2 p3 wx=>∃g z,yp p g∧yp p2 z∧p3=.int .i64 0∧w.heap.size≤g∧w.heap.size≤z∧g≠z∧Blk wx g (Qa x ⟨A,n,cap,B,m,ao,D,nd,cd,E,ne,ce,C,nb,cb⟩) 32∧Blk wx z M9 32∧yw w wx)
 case first=>as_aux_lemma=>
  go_wp2_with fail;go_meet;exact⟨_,_,rfl,rfl,rfl,J5 _,by omega,by omega,QE _ _ _,QF _ _ _,Zo _ _ _⟩
 obtain⟨g,z,rfl,rfl,rfl,hg,hz,bg,hG,hZ,ah⟩:=hcut;obtain⟨W1,rfl⟩:=yE wc;have Z:=yh (fun X (hX:yw W1 X)=>ah.trans (hX.mono ah.size));have J:=yh (fun X (hX:yw W1 X)=>hG.bel hX);have HZ:=yh (fun X (hX:yw W1 X)=>hZ.bel hX);have aN:=yh (fun X (hX:yw W1 X)=>HS.bel (Z X hX));have aI:=yh (fun X (hX:yw W1 X)=>a4 w X aH (Z X hX))
 have aB:=yh (show ∀(E':Int) V,¬E'=0→yw W1 V→Qia K w (V.setRow z (Qa Qf Qg)) E' X (.returned (.tuple #[.agg (Qa Qf Qg),.int .i64 E']))∧yw w (V.setRow z (Qa Qf Qg))from fun E' V Y hX=>
  ⟨⟨Qf,Qg,rfl,(Ul Y _).symm,fun V _ _=>UA V⟩,(Z V hX).trans (((yk z V).setRow (.inl rfl) _).below (B:=w.heap.size) (Z V hX).size (fun k hk e=>by omega))⟩)
 have hb:yw W1 W1:=J4 _ _;have bo:=ah.size;have bp:=hZ.lt;clear hG hZ ah;have HC:=yh (ae _ (aN _ hb).bks);go_wp2_with (refine yV (.tmp 2) (J _ hb) underlying32 ?_);refine yM HC fun w1 aV=>?_;replace hb:=hb.trans (aV.mono hb.size);clear aV HC ae;cases lv
 ·obtain rfl:lp=-1:=by rw[am.out];rfl
  obtain rfl:R=5:=by rw[HR.out];rfl
  have bt:=HZ _ hb;go_wp2_with (refine yX 32 (.tmp 4) (.tmp 14) z (Qa Qf Qg) bt ?_);refine yq2 (.tuple #[.agg (Qa Qf Qg),.int .i64 5]) (k:=4) (u:=5) (bt.row _) underlying32 ?_;exact aB _ _ (by decide) hb
 have a8:=yh (show R=(ZV x (ZW x t) x.day)by rw[HR.out];rfl);obtain⟨b,W,h2,h3,h4,h5,h6⟩:=UE a9 aK.symm;have aA:=yh h6
 obtain rfl:lp=(Ze x.bks t:Int):=by rw[am.out];rfl
 obtain⟨k,aw⟩:=yE (Ze x.bks t);rw[←aw]at W h3 ⊢;have a5:=yh aw;have az:=yh W
 have a0:k<nb:=by rw[←af.out];exact h3
 have bh:(0:Int)≤(k:Int):=Int.natCast_nonneg _
 have bi:(k:Int)<(nb:Int):=by omega
 clear h2 h4 h5 h6 aw W h3 HR am aK;obtain⟨ab,F,cs,hA,aR,be,aX⟩:=ZMa (aJ.bel (Z _ hb)) a0
 try simp only at hA
 subst hA;obtain⟨A3,n3,c3,rfl,hI,aY⟩:=Qda aG aR az aH;have a3:=yh aY;have HI:=yh hI;have HM:=yh aX;clear aR be aX hI aY;have aj:=(ho.bs.bk b (J6 az)).fol;have aD:=yh (fun V (hX:yw w1 V)=>aE b A3 n3 c3 V (a3 _ (aI _ (hb.trans (hX.mono hb.size)))) (aN _ (hb.trans (hX.mono hb.size))).fares aj);obtain⟨E1,ag⟩:=yE (ZV x b x.day);obtain⟨gb,ak⟩:=yE (VR x b x.day)
 have aF:=yh (show ∀V V' e,V4a V V' x b x.day A3 n3 c3 e→∃(b':Bkg) (O:Option Addr) (U Q:Nat),e=.returned (.tuple #[.agg (Qk b' (.slice O U Q)),.int .i64 E1])∧
  (E1=0→b'=gb∧∃xs,Own Qm 3 140 V' V.heap.size (.slice O U Q) b'.fol xs)from fun V V' e h=>by
   obtain⟨b',O,U,Q,W,_,h2⟩:=h
   exact⟨b',O,U,Q,by rw[ag];exact W,by rw[ag,ak];exact h2⟩)
 have aL:=yh (show R=E1 by rw[a8.out,aA.out,ag]);have bb:=yh (show X=QT x k gb by rw[HX.out];unfold Qqa;rw[aA.out,←a5.out,ak]);have aC:=yh (show BkIn gb by rw[ak];exact⟨HI.id,HI.kind,show InI 3 from .of (by decide) (by decide),HI.gst,HI.cab,HI.cat,HI.frm,HI.upto,UJ⟩);have ac:=yh (show ∀V,yw w1 V→(fun w'=>(yI w' g 0 x.ship.legs∧yI w' g 1 x.ship.souls∧yJ w' g 2 A n cap∧yJ w' g 3 B m ao∧yJ w' g 4 D nd cd∧yI w' g 5 x.fares.alone∧yI w' g 6 x.fares.third∧yJ w' g 7 E ne ce∧yI w' g 8 x.fares.down∧yI w' g 9 x.day∧yI w' g 10 x.leaves∧yJ w' g 11 (some ⟨ab,F,none⟩) nb cb∧w'.cell? ⟨g,12,none⟩=some (.bool x.closed))∧(yI w' ab (F+k*11) b.id∧yI w' ab (F+k*11+1) b.kind∧yI w' ab (F+k*11+2) b.state∧yI w' ab (F+k*11+3) b.gst∧w'.cell? ⟨ab,F+k*11+4,none⟩=some (.bool b.lev)∧yI w' ab (F+k*11+5) b.cab∧yI w' ab (F+k*11+6) b.cat∧yI w' ab (F+k*11+7) b.frm∧yI w' ab (F+k*11+8) b.upto∧yI w' ab (F+k*11+9) b.til∧yJ w' ab (F+k*11+10) A3 n3 c3)) V from fun V hX=>⟨⟨(J _ (hb.trans (hX.mono hb.size))).cell rfl,(J _ (hb.trans (hX.mono hb.size))).cell rfl,(J _ (hb.trans (hX.mono hb.size))).cell rfl,(J _ (hb.trans (hX.mono hb.size))).cell rfl,(J _ (hb.trans (hX.mono hb.size))).cell rfl,(J _ (hb.trans (hX.mono hb.size))).cell rfl,(J _ (hb.trans (hX.mono hb.size))).cell rfl,(J _ (hb.trans (hX.mono hb.size))).cell rfl,(J _ (hb.trans (hX.mono hb.size))).cell rfl,(J _ (hb.trans (hX.mono hb.size))).cell rfl,(J _ (hb.trans (hX.mono hb.size))).cell rfl,(J _ (hb.trans (hX.mono hb.size))).cell rfl,(J _ (hb.trans (hX.mono hb.size))).cell rfl⟩,⟨Qh hX (HM.out 0 _ rfl),Qh hX (HM.out 1 _ rfl),Qh hX (HM.out 2 _ rfl),Qh hX (HM.out 3 _ rfl),Qh hX (HM.out 4 _ rfl),Qh hX (HM.out 5 _ rfl),Qh hX (HM.out 6 _ rfl),Qh hX (HM.out 7 _ rfl),Qh hX (HM.out 8 _ rfl),Qh hX (HM.out 9 _ rfl),Qh hX (HM.out 10 _ rfl)⟩⟩);clear ag ak aj ho aE HM;go_upto_region 4 with(fail);go_cut [7,8] (fun q q2 wx=>∃(h:Nat) (b5:Bkg) (O:Option Addr) (U Q:Nat),yp q h∧q2=.int .i64 E1∧w1.heap.size≤h∧Blk wx h (Qk b5 (.slice O U Q)) 63∧(E1=0→b5=gb∧∃xs,Own Qm 3 140 wx w1.heap.size (.slice O U Q) b5.fol xs)∧yw w1 wx)
 case first=>
  have I:yw w1 w1.drew:=(J4 _ w1).drew;refine yZ (S:=(fun w'=>(yI w' g 0 x.ship.legs∧yI w' g 1 x.ship.souls∧yJ w' g 2 A n cap∧yJ w' g 3 B m ao∧yJ w' g 4 D nd cd∧yI w' g 5 x.fares.alone∧yI w' g 6 x.fares.third∧yJ w' g 7 E ne ce∧yI w' g 8 x.fares.down∧yI w' g 9 x.day∧yI w' g 10 x.leaves∧yJ w' g 11 (some ⟨ab,F,none⟩) nb cb∧w'.cell? ⟨g,12,none⟩=some (.bool x.closed))∧(yI w' ab (F+k*11) b.id∧yI w' ab (F+k*11+1) b.kind∧yI w' ab (F+k*11+2) b.state∧yI w' ab (F+k*11+3) b.gst∧w'.cell? ⟨ab,F+k*11+4,none⟩=some (.bool b.lev)∧yI w' ab (F+k*11+5) b.cab∧yI w' ab (F+k*11+6) b.cat∧yI w' ab (F+k*11+7) b.frm∧yI w' ab (F+k*11+8) b.upto∧yI w' ab (F+k*11+9) b.til∧yJ w' ab (F+k*11+10) A3 n3 c3))) (ac _ I) fun ap=>?_;refine yT [0,1,2,3,4,5,6,7] ?_;iterate 8 (refine yS ?_;simp only[yU])
  focus
   refine yr2 8 12 (fun K k8=>?_) (fun K a2=>?_)
   repeat first
    |
     revert k8
     intro hK;go_simp
     (go_at_call 202;refine(aD _ I).mono ?_;rintro e w8 ⟨aZ,au⟩;obtain⟨b5,O,U,Q,rfl,ay⟩:=aF _ _ _ aZ;have bf:=I.size;have aa:=fun Y=>And.intro (ay Y).1 (Exists.intro _ ((ay Y).2.choose_spec.mono Qb bf));(try replace hL:=fun g hg=>(hL g hg).bel au);replace I:=I.trans (au.mono I.size);clear au aZ ay)
     go_wp2_with fail;refine hK.out _ _ (ac _ I) fun ap=>?_;clear hK K
     try simp only[yU]
     refine yT [9,10,11] ?_;iterate 3 (refine yS ?_;simp only[yU])
     first
      | refine yt1 12 (fun K a2=>?_)
      | rotate_left
    |
     revert a2
     intro hK;go_simp;refine hK.out _ _ (ac _ (I.alloc I.size (.cells M8 63))) fun ap=>?_;clear hK K
     try simp only[yU]
     (have hL:=ZG I M8 63;have av:=Xz I;(try replace aa:=fun Y=>And.intro (aa Y).1 (Exists.intro _ ((aa Y).2.choose_spec.bel (Qi _ (.cells M8 63)))));replace I:=I.alloc I.size (.cells M8 63))
     first
      | refine yt1 8 (fun K k8=>?_)
      | rotate_left
   all_goals
    refine yR 13 fun K hK=>?_
    (refine wp_store_row 63 (.tmp 7) (.tmp 25) rfl _ (Qk b5 (.slice O U Q)) rfl rfl 63 _ (hL _ (by simp)) (by kernel_rfl) rfl (Ud _ _ _ _) ?_)
    refine hK.out _ _ (ac _ (M5 I (av _ (by simp)) _)) fun ap=>?_;clear hK K
    try simp only[yU]
    refine yT [14] ?_;iterate 1 (refine yS ?_;simp only[yU])
    refine yD ?_;go_wp2_with fail;go_meet;exact⟨_,b5,O,U,Q,rfl,rfl,av _ (by simp),(hL _ (by simp)).row _,fun Y=>⟨(aa Y).1,_,(aa Y).2.choose_spec.rowT (hL _ (by simp)) (by decide) _⟩,M5 I (av _ (by simp)) _⟩
 obtain⟨h,b5,O,U,Q,rfl,rfl,hh,hH,aa,aW⟩:=hcut;obtain⟨W5,rfl⟩:=yE wc;have bm:=hb.size;replace hb:=hb.trans (aW.mono hb.size);have aO:=yh aa;clear aa;have HH:=yh hH;clear hH;clear aW aD aF ac;by_cases q7:E1=0;rotate_left
 ·obtain rfl:R=E1:=aL.out
  have q8:(R !=0)=true:=by simpa using q7
  have Q7:=yh q7;clear q7;have bt:=HZ _ hb;go_wp2_with (refine yX 32 (.tmp 4) (.tmp 29) z (Qa Qf Qg) bt ?_);refine yq2 (.tuple #[.agg (Qa Qf Qg),.int .i64 R]) (k:=4) (u:=5) (bt.row _) underlying32 ?_;exact aB _ _ Q7 hb
 obtain⟨rfl,bq,aT⟩:=aO q7
 obtain rfl:R=0:=by rw[aL.out,q7]
 subst q7;have an:=yh aT;clear aT
 have HC:=yh (aM (fun V=>K V∧∀j,(Value.slice O U Q).ownBlock=some j→V.heap[j]? = W5.heap[j]?) k b5 O U Q W5 (fun V hV=>a6 V hV.1) (fun V hV=>aG V hV.1)
  (fun V hV=>(an.keepB Zb (fun j hj=>hV.2 j hj)).slAll Qb Qb (by omega) (fun h=>h) rfl) ⟨aI _ hb,fun _ _=>rfl⟩ (aJ.bel (Z _ hb)) aC (by rw[af.out];exact a0))
 clear aM aO aC;go_wp2_with (first|(refine yV (.tmp 2) (J _ hb) underlying32 ?_)|(refine yV (.tmp 7) HH underlying63 ?_));refine HC.mono ?_;rintro e w4 ⟨q,p',rfl,bj,a1,aU,ai⟩;have bl:=hb.size
 have a7:=yh (show ∀j,(Value.slice O U Q).ownBlock=some j→w1.heap.size≤j∧j<w4.heap.size∧w4.heap[j]? = W5.heap[j]? from fun j hj=>by
  have W:=an.lt j hj
  exact⟨W.1,Nat.lt_of_lt_of_le W.2 ai.size,ai.block j W.2⟩)
 replace hb:=hb.trans (ai.mono hb.size);have ba:=yh aU;clear HC aU ai HH an;have bt:=HZ _ hb;go_wp2_with (refine yX 32 (.tmp 4) (.tmp 34) z (Qa (QT x k b5) p') bt ?_);refine yq2 (.tuple #[.agg (Qa (QT x k b5) p'),.int .i64 0]) (k:=4) (u:=5) (bt.row _) underlying32 ?_;have bn:=(Z _ hb).size;have ad:Kept (fun k=>k=z) w4 (w4.setRow z (Qa (QT x k b5) p')):=(yk z _).setRow (.inl rfl) _;have bd:=((Z _ hb).trans (ad.below (B:=w.heap.size) (Z _ hb).size (fun k hk e=>by omega)));refine⟨⟨_,p',rfl,by rw[Uf,bb.out],fun V hV hN=>ba V ⟨hV,fun j hj=>?_⟩ ?_⟩,bd⟩
 ·obtain⟨W,h2,h3⟩:=a7 j hj;exact((hN j (by omega) (by have:=ad.size;omega)).trans (ad.block j h2 (by omega))).trans h3
 ·exact(hN q (by omega) (Nat.lt_of_lt_of_le a1 ad.size)).trans (ad.block q a1 (by omega))
theorem VJb (K:World→Prop)(x:Sai)(p:SaiV)(t a:Int)(X:Sai)(L:List (List Value))(w:World)(a2:∀V V',K V→yw V V'→K V')(af:∀V,K V→SaiR V x p)(a1:∀V,K V→Pts ZP V L x.bks)(ag:K w)(a4:Sl (ZY 11) 11 w All p.C p.nb p.cb L)
  (ho:OkSai x) (ha:InI a) (hX:X=Qsa x t a) :
  Calls prog 130 #[.agg (Qa x p),.int .i64 t,.int .i64 a] w fun e w'=>Qia K w w' (YT x t (Q9a x (Ze x.bks t) (ZW x t) a)) X e∧yw w w':=by
 have HX:=yh hX;have aX:=yh (fun K k b A3 n3 W V h1 h2 h3 h4 h5 h6 h7=>V9 K x p k b A3 n3 W L V h1 h2 h3 h4 h5 h6 h7 ho.bs.len);have aI:=yh (fun b A3 n3 W V hc hb hf=>Vm x.ship p.A p.n p.cap p.B p.m p.cap2 b A3 n3 W V hc hb ho.bs.ship hf)
 have aW:=yh (fun Y p V (h:SaiR V Y p) (k:Nat) (I:Bkg) (Q:Y=QT x k I) (hk:OkBk x.ship I)=>Yg Y p V h (by rw[Q];exact ho.bs.ship) (fun d hd=>by
  rw[Q]at hd;rcases List.mem_or_eq_of_mem_set hd with h1|h1
  ·rw[Q];exact ho.bs.bk d h1
  ·subst h1;rw[Q];exact hk) (by rw[Q];show(x.bks.set k I).length≤16;rw[List.length_set];exact ho.bs.len))
 have HM:=yh (show x.ship.cabs.length=p.m from(af w ag).cabs.len);have bw:=(af w ag).cabs.bd;have bh:=yh ha;clear hX ha;have aj:=yh (fun X hl=>Yq x p t X hl (QP ho.bs.rise));have hS:=af w ag;have bi:=yh a2;have bj:=yh af;have aO:=yh a1;have aP:=yh ag;have aQ:=yh a4;have HS:=yh hS;have bp:=yh (QP ho.bs.rise);have ak:=yh (show x.bks.length=p.nb from hS.bks.len)
 have bt:p.nb≤16:=by have:=ho.bs.len;have:=ak.out;omega
 obtain⟨R,hR⟩:=yE (YT x t (Q9a x (Ze x.bks t) (ZW x t) a));obtain⟨lv,am⟩:=yE (ZH x t);obtain⟨lp,aG⟩:=yE (Xpa x t);have HR:=yh (show R=if lv=true then (Q9a x (Ze x.bks t) (ZW x t) a)else 5 by rw[hR,am];rfl);have ar:=yh (show lp=if lv=true then (Ze x.bks t:Int)else -1 by rw[aG,am];rfl);have aR:=yh am;rw[←aG]at aj;rw[←hR];clear hR am aG hS a2 af a1 ag a4;obtain⟨A,n,cap,B,m,aA,D,nd,cd,E,ne,ce,C,nb,cb⟩:=p;simp only at aj ak bt;go_enter func130,ntmps130;go_upto_region 0 with(fail);go_cut [3,6,7] (fun p p2 p3 F=>∃g z,yp p g∧yp p2 z∧p3=.int .i64 0∧w.heap.size≤g∧w.heap.size≤z∧g≠z∧Blk F g (Qa x ⟨A,n,cap,B,m,aA,D,nd,cd,E,ne,ce,C,nb,cb⟩) 32∧Blk F z M9 32∧yw w F)
 case first=>as_aux_lemma=>
  go_wp2_with fail;go_meet;exact⟨_,_,rfl,rfl,rfl,J5 _,by omega,by omega,QE _ _ _,QF _ _ _,Zo _ _ _⟩
 obtain⟨g,z,rfl,rfl,rfl,hg,hz,bA,hG,hZ,al⟩:=hcut;obtain⟨J,rfl⟩:=yE wc;have HT:=yh (fun X (hX:yw J X)=>al.trans (hX.mono al.size));have HG:=yh (fun X (hX:yw J X)=>hG.bel hX);have HZ:=yh (fun X (hX:yw J X)=>hZ.bel hX);have ay:=yh (fun X (hX:yw J X)=>HS.bel (HT X hX));have aq:=yh (fun X (hX:yw J X)=>bi w X aP (HT X hX))
 have ad:=yh (show ∀(E':Int) V,¬E'=0→yw J V→Qia K w (V.setRow z (Qa Qf Qg)) E' X (.returned (.tuple #[.agg (Qa Qf Qg),.int .i64 E']))∧yw w (V.setRow z (Qa Qf Qg))from fun E' V h0 hX=>
  ⟨⟨Qf,Qg,rfl,(Ul h0 _).symm,fun V _ _=>UA V⟩,(HT V hX).trans (((yk z V).setRow (.inl rfl) _).below (B:=w.heap.size) (HT V hX).size (fun k hk e=>by omega))⟩)
 have hb:yw J J:=J4 _ _;have bH:=al.size;have bI:=hZ.lt;clear hG hZ al;have Z:=yh (aj _ (ay _ hb).bks);go_wp2_with (refine yV (.tmp 3) (HG _ hb) underlying32 ?_);refine yM Z fun w1 a7=>?_;replace hb:=hb.trans (a7.mono hb.size);clear a7 Z aj;cases lv
 ·obtain rfl:lp=-1:=by rw[ar.out];rfl
  obtain rfl:R=5:=by rw[HR.out];rfl
  have bK:=HZ _ hb;go_wp2_with (refine yX 32 (.tmp 6) (.tmp 17) z (Qa Qf Qg) bK ?_);refine yq2 (.tuple #[.agg (Qa Qf Qg),.int .i64 5]) (k:=6) (u:=7) (bK.row _) underlying32 ?_;exact ad _ _ (by decide) hb
 have bo:=yh (show R=(Q9a x (Ze x.bks t) (ZW x t) a)by rw[HR.out];rfl);obtain⟨b,h1,h2,h3,h4,h5,h6⟩:=UE bp aR.symm;have aK:=yh h6
 obtain rfl:lp=(Ze x.bks t:Int):=by rw[ar.out];rfl
 obtain⟨k,aF⟩:=yE (Ze x.bks t);rw[←aF]at h1 h3 ⊢;have aN:=yh aF;have bg:=yh h1
 have bb:k<nb:=by rw[←ak.out];exact h3
 have bC:(0:Int)≤(k:Int):=Int.natCast_nonneg _
 have bD:(k:Int)<(nb:Int):=by omega
 clear h2 h4 h5 h6 aF h1 h3 HR ar aR;obtain⟨ab,bf,cs,hA,a3,bv,a9⟩:=ZMa (aQ.bel (HT _ hb)) bb
 try simp only at hA
 subst hA;obtain⟨A3,n3,W,rfl,hI,ba⟩:=Qda aO a3 bg aP;have aL:=yh ba;have HI:=yh hI;have HM:=yh a9;clear a3 bv a9 hI ba;go_upto_region 4 with(fail);go_cut [9] (fun p F=>∃h,yp p h∧J.heap.size≤h∧Blk F h (Qk b (.slice A3 n3 W)) 63∧yw J F)
 case first=>
  have bz:yJ w1 g 11 (some ⟨ab,bf,none⟩) nb cb:=(HG _ hb).cell rfl;go_wp2_with (first|(refine wpList_load_mid rfl 63 (.tmp 21) rfl ab (bf+k*11) rfl _ _ HM underlying63 rfl (by kernel_rfl) ?_)|(refine wpList_store_row rfl 63 (.tmp 9) (.tmp 22) rfl w1.heap.size (Qk b (.slice A3 n3 W)) rfl rfl 63 _ (Blk.new w1 M8 63) (by kernel_rfl) rfl (Ud _ _ _ _) ?_));go_meet;exact⟨_,rfl,hb.size,(Blk.new w1 _ _).row _,hb.trans ((M5 (Qi w1 _) (J5 _) _).mono hb.size)⟩
 obtain⟨h,rfl,hh,hH,hb⟩:=hcut;obtain⟨W2,rfl⟩:=yE wc;have bB:=hH.lt;clear HM;obtain⟨I,ac⟩:=yE (QK b a);obtain⟨Y,Q⟩:=yE (QT x k I);obtain⟨aa,aE⟩:∃r,r=b.cab:=⟨_,rfl⟩;obtain⟨oe,an⟩:=yE (ofE x.ship I);obtain⟨rm,aH⟩:=yE (QX Y);have aT:=yh (show R=if aa<0 then 4 else if a<0∨(m:Int)≤a then 3 else if a=aa then 6 else if oe≠0 then oe else rm by rw[bo.out,aK.out,←aN.out,aH,an,aE,Q,ac,←HM.out];rfl);have bq:=yh (show X=Y by rw[HX.out];unfold Qsa;rw[aK.out,←aN.out,Q,ac]);have ap:=yh (fun V (hX:yw J V)=>aI I A3 n3 W V (ay _ hX).cats (ay _ hX).cabs (by rw[ac];exact aL _ (aq _ hX)));have av:=yh (fun p V h (h0:oe=0)=>aW Y p V h k I Q (ZZa (an.symm.trans h0)));have bm:=yh (show BkIn I by rw[ac];exact⟨HI.id,HI.kind,HI.state,HI.gst,bh,HI.cat,HI.frm,HI.upto,HI.til⟩);have bl:=yh (show ∀V,K V→Sl Qm 3 V All A3 n3 W I.fol by rw[ac];exact aL);have aw:=yh (fun V h4 h5=>aX K k I A3 n3 W V bj aO bl h4 h5 bm (by rw[ak.out];exact bb))
 have c5:W2.cell? ⟨h,5,none⟩=some (.int .i64 aa):=by rw[aE];exact hH.cell rfl
 have f5:=hH.free 5;have HH:=yh (fun V (hX:yw W2 V)=>hH.bel hX);have aY:=yh (show Blk (W2.setCell ⟨h,5,none⟩ (.int .i64 a)) h (Qk I (.slice A3 n3 W)) 63 by rw[ac];exact hH.set (j:=5) _);rw[←an]at ap;rw[←aH]at av;rw[←Q]at aw;have bx:=yh (show Qa Y=Qa (QT x k I)by rw[Q])
 try simp only at bw
 have bE:(0:Int)≤(m:Int):=Int.natCast_nonneg _;have g3:yJ W2 g 3 B m aA:=(HG _ hb).cell rfl;clear ac Q aE an aH ho hH aI aW aX;by_cases q1:aa<0
 ·obtain rfl:R=4:=by rw[aT.out,M3 q1]
  have q2:decide (aa<0)=true:=J2 q1;clear q1;have bK:=HZ _ hb;go_wp2_with (refine yX 32 (.tmp 6) (.tmp 26) z (Qa Qf Qg) bK ?_);refine yq2 (.tuple #[.agg (Qa Qf Qg),.int .i64 4]) (k:=6) (u:=7) (bK.row _) underlying32 ?_;exact ad _ _ (by decide) hb
 have au:=yh (aT.trans (M2 q1));have q2:decide (aa<0)=false:=J3 q1;clear q1;by_cases q3:a<0
 ·obtain rfl:R=3:=by rw[au.out,M3 (.inl q3)]
  have q4:decide (a<0)=true:=J2 q3;clear q3;have bK:=HZ _ hb;go_wp2_with (refine yX 32 (.tmp 6) (.tmp 37) z (Qa Qf Qg) bK ?_);refine yq2 (.tuple #[.agg (Qa Qf Qg),.int .i64 3]) (k:=6) (u:=7) (bK.row _) underlying32 ?_;exact ad _ _ (by decide) hb
 have q4:decide (a<0)=false:=J3 q3;by_cases q5:(m:Int)≤a
 ·obtain rfl:R=3:=by rw[au.out,M3 (.inr q5)]
  have q6:decide ((m:Int)≤a)=true:=J2 q5;clear q3 q5;have bK:=HZ _ hb;go_wp2_with (refine yX 32 (.tmp 6) (.tmp 37) z (Qa Qf Qg) bK ?_);refine yq2 (.tuple #[.agg (Qa Qf Qg),.int .i64 3]) (k:=6) (u:=7) (bK.row _) underlying32 ?_;exact ad _ _ (by decide) hb
 have q6:decide ((m:Int)≤a)=false:=J3 q5;have aU:=yh (au.trans (M2 (show ¬(a<0∨(m:Int)≤a)by omega)));clear q3 q5;by_cases q7:a=aa
 ·obtain rfl:R=6:=by rw[aU.out,M3 q7]
  subst q7;have bK:=HZ _ hb;go_wp2_with (refine yX 32 (.tmp 6) (.tmp 42) z (Qa Qf Qg) bK ?_);refine yq2 (.tuple #[.agg (Qa Qf Qg),.int .i64 6]) (k:=6) (u:=7) (bK.row _) underlying32 ?_;exact ad _ _ (by decide) hb
 have aV:=yh (aU.trans (M2 q7))
 have q8:(a==aa)=false:=by simpa using q7
 clear q7;go_upto_region 11 with(fail);go_cut [] (fun F=>Blk F h (Qk I (.slice A3 n3 W)) 63∧Kept (fun k=>k=h) W2 F)
 case first=>as_aux_lemma=>
  go_wp2_with fail;go_meet;exact⟨aY,VX W2 h [(5,.int .i64 a)]⟩
 obtain⟨aZ,a0⟩:=hcut;obtain⟨W3,rfl⟩:=yE wc;have a8:yw J W3:=hb.trans (a0.below (B:=J.heap.size) hb.size (fun k hk e=>by omega));clear hb c5 f5 g3 aY HH a0 q2 q4 q6 q8;have hb:=a8;have Z:=yh (ap _ hb);have HH:=yh (fun V (hX:yw W3 V)=>aZ.bel hX);have g0:yI W3 g 0 x.ship.legs:=(HG _ hb).cell rfl;have g1:yI W3 g 1 x.ship.souls:=(HG _ hb).cell rfl;have g2:yJ W3 g 2 A n cap:=(HG _ hb).cell rfl;have g3:yJ W3 g 3 B m aA:=(HG _ hb).cell rfl;clear a8 ap aZ;have hx:yw W3 W3:=J4 _ _;go_wp2_with (refine yV (.tmp 9) (HH _ hx) underlying63 ?_);refine yM Z fun w4 aC=>?_;have aM:=yh (HH _ aC);replace hb:=hb.trans (aC.mono hb.size);clear aC Z g0 g1 g2 g3 hx HH;have Z:=yh (aw w4 (aq _ hb) (aQ.bel (HT _ hb)));clear aw;go_upto_region 13 with(fail);go_cut [11] (fun q F=>∃(y O:Nat) (U:SaiV),yp q y∧w4.heap.size≤O∧O<F.heap.size∧w4.heap.size≤y∧Blk F y (Qa Y U) 32∧(∀V,K V→V.heap[O]? = F.heap[O]?→SaiR V Y U)∧yw w4 F)
 case first=>
  go_wp2_with (first|(refine yV (.tmp 3) (HG _ hb) underlying32 ?_)|(refine yV (.tmp 9) aM underlying63 ?_));refine Z.mono ?_;rintro e w5 ⟨O,U,rfl,bc,ai,ae,ah⟩;have ax:=yh ae;clear ae;have ao:=yh ah;clear ah;go_wp2_with (refine yX 32 (.tmp 11) (.tmp 52) w5.heap.size (Qa Y U) (Blk.new w5 M9 32) ?_);go_meet;have aD:yw w5 ((w5.alloc (.cells M9 32)).setRow w5.heap.size (Qa Y U)):=M5 (Qi w5 _) (J5 _) _;exact⟨_,O,U,rfl,bc,Nat.lt_of_lt_of_le ai aD.size,ao.size,(Blk.new w5 _ _).row _,fun V hV hq=>ax V hV (hq.trans (aD.block O ai)),ao.trans (aD.mono ao.size)⟩
 obtain⟨y,O,U,rfl,bc,ai,hy,a5,ae,ah⟩:=hcut;obtain⟨W6,rfl⟩:=yE wc;have bF:=hb.size;replace hb:=hb.trans (ah.mono hb.size);have az:=yh (fun V (hX:yw W6 V)=>a5.bel hX);have aS:=yh (fun V (hX:yw W6 V)=>hX.block O ai);have ax:=yh (fun V h1 (h2:V.heap[O]? = W6.heap[O]?)=>ae V h1 h2);have aJ:=yh (fun(h0:oe=0)=>av U W6 (ae W6 (aq _ hb) rfl) h0);clear ah Z aM a5 ae av;go_upto_if 54 with(fail);go_cut [10] (fun q F=>q=.int .i64 R∧yw W6 F)
 case first=>
  have hx:yw W6 W6:=J4 _ _;by_cases q5:oe=0
  ·obtain rfl:R=rm:=by rw[aV.out,M2 (by rw[q5];simp)]
   have Z:=yh (aJ q5);subst q5;go_wp2_with (refine yV (.tmp 11) (az _ hx) underlying32 ?_);refine yM Z fun w7 bL=>?_;go_wp2_with fail;go_meet;exact⟨rfl,bL⟩
  ·obtain rfl:R=oe:=by rw[aV.out,M3 q5]
   have q6:(R==0)=false:=by simpa using q5
   clear q5;go_wp2_with fail;go_meet;exact⟨rfl,hx⟩
 obtain⟨rfl,bL⟩:=hcut;obtain⟨W7,rfl⟩:=yE wc;have a6:=az _ bL;have bn:=yh (aS _ bL);have be:=Nat.lt_of_lt_of_le ai bL.size;replace hb:=hb.trans (bL.mono hb.size);clear bL aJ az aS;by_cases q5:R=0;rotate_left
 ·have q6:(R !=0)=true:=by simpa using q5
  have Q5:=yh q5;clear q5;have bK:=HZ _ hb;go_wp2_with (refine yX 32 (.tmp 6) (.tmp 59) z (Qa Qf Qg) bK ?_);refine yq2 (.tuple #[.agg (Qa Qf Qg),.int .i64 R]) (k:=6) (u:=7) (bK.row _) underlying32 ?_;exact ad _ _ Q5 hb
 subst q5;have bK:=HZ _ hb;have br:=yh a6;clear a6;go_wp2_with (first|(refine yV (.tmp 11) br underlying32 ?_)|(refine yX 32 (.tmp 6) (.tmp 61) z (Qa Y U) bK ?_));refine yq2 (.tuple #[.agg (Qa Y U),.int .i64 0]) (k:=6) (u:=7) (bK.row _) underlying32 ?_;have bG:=(HT _ hb).size;have aB:Kept (fun k=>k=z) W7 (W7.setRow z (Qa Y U)):=(yk z _).setRow (.inl rfl) _;have bu:=((HT _ hb).trans (aB.below (B:=w.heap.size) (HT _ hb).size (fun k hk e=>by omega)));refine⟨⟨_,U,rfl,by rw[Uf,bq.out],fun V hV hN=>ax V hV ?_⟩,bu⟩;exact((hN O (by omega) (Nat.lt_of_lt_of_le be aB.size)).trans (aB.block O be (by omega))).trans bn
end Go.Proofs.YtjdcokpmgionjaaGreat
