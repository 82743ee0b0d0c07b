/-
  Laws and contracts.
-/
import Derived.Test.YtjdcokpmgionjaaGreatBun15
set_option linter.unusedSimpArgs false
set_option linter.unusedVariables false
set_option maxRecDepth 100000
set_option maxHeartbeats 20000000
namespace Go.Proofs.YtjdcokpmgionjaaGreat
open Proofs.Tryz Go.RowKit Go.Shelf
structure Mk where
 x:Sai→Ask→Sai
 e:Sai→Ask→Int
def MadeC (P:Sai→Ask→Prop) (mk:Mk):Prop:=∀(x:Sai) (p:SaiV) (a:Ask) (g:Nat) (w:World),SaiR w x p→Blk w g (Qa x p) 129→P x a→
 Calls prog 172 #[.pointer (some ⟨g,0,none⟩),.agg (QY a)] w fun e w'=>YM w' w.heap.size (mk.e x a) (mk.x x a) e∧yw w w'
noncomputable def mkN:Mk:=⟨fun x a=>U7 x (Zr x a),fun x a=>U6 x (Zr x a) 1⟩
theorem Y7 (x:Sai)(a:Ask):(Zr x a).fol=[]:=by unfold Zr;split<;>rfl
theorem YS {x:Sai}{a:Ask}(h:YB a)(U:InI x.ship.legs):BkIn (Zr x a):=by
 obtain⟨-,-,A,D,J,E,O,Q,F,-⟩:=h
 have I:InI (stD a):=by unfold stD;split<;>exact .of (by decide) (by decide)
 unfold Zr
 split
 ·exact⟨A,show InI 2 from .of (by decide) (by decide),I,D,show InI (-1)from .of (by decide) (by decide),E,show InI 0 from .of (by decide) (by decide),U,F⟩
 ·exact⟨A,show InI 1 from .of (by decide) (by decide),I,D,J,E,O,Q,F⟩
theorem X8:MadeC (fun x a=>a.kind=1∧BkIn (Zr x a)) mkN:=by
 intro x p a g w hS hG ⟨U,hI⟩
 show Calls _ _ _ _ fun e w'=>YM w' w.heap.size (U6 x (Zr x a) 1) (U7 x (Zr x a)) e∧_
 have O:=yh (fun X hX=>Uyb x p (Zr x a) none 0 0 X hX (by rw[Y7];exact Sl.nil _ _ _ _) hI);have ax:=yh (fun X hX=>Z1a x p a g X hX);obtain⟨bo,ak⟩:=yE (Zr x a);rw[←ak]at O ax ⊢;obtain⟨R,hR⟩:=yE (U6 x bo 1);obtain⟨Y,hY⟩:=yE (U7 x bo);rw[←hR,←hY]at O ⊢;have HS:=yh hS;have HG:=yh (fun X (hX:yw w X)=>hG.bel hX);have ap:=hG.lt;clear ak hR hY hI hS hG;obtain⟨A,n,cap,B,m,ah,D,nd,cd,E,ne,ce,C,nb,cb⟩:=p;go_enter func172,ntmps172;go_upto_region 0 with(fail);go_cut [3,4,5] (fun p p2 p3 wx=>∃c z,yp p c∧yp p2 z∧p3=.int .i64 0∧w.heap.size≤z∧w.heap.size≤c∧c≠z∧AskAt wx c a∧Blk wx z M9 32∧yw w wx)
 case first=>
  clear O ax HG HS;go_wp2_with fail;go_meet;exact⟨_,_,rfl,rfl,rfl,by omega,by omega,by omega,QE _ _ _,QF _ _ _,Zo _ _ _⟩
 obtain⟨c,z,rfl,rfl,rfl,hz,ao,am,hC,hZ,hb⟩:=hcut;obtain⟨I,rfl⟩:=yE wc;have au:=hZ.lt
 have an:g≠z:=by omega
 have J:=yh (show ∀X,Kept (fun k=>k=z) I X→(fun w'=>yI w' g 0 x.ship.legs∧yI w' g 1 x.ship.souls∧yJ w' g 2 A n cap∧yJ w' g 3 B m ah∧yJ w' g 4 D nd cd∧yI w' g 5 x.fares.alone∧yI w' g 6 x.fares.third∧yJ w' g 7 E ne ce∧yI w' g 8 x.fares.down∧yI w' g 9 x.day∧yI w' g 10 x.leaves∧yJ w' g 11 C nb cb∧w'.cell? ⟨g,12,none⟩=some (.bool x.closed)∧yI w' c 0 a.number∧yI w' c 1 a.kind∧yI w' c 2 a.id∧yI w' c 3 a.guests∧w'.cell? ⟨c,4,none⟩=some (.bool a.level)∧yI w' c 5 a.cabin∧yI w' c 6 a.category∧yI w' c 7 a.frm∧yI w' c 8 a.upto∧yI w' c 9 a.til∧yI w' c 10 a.amount) X from fun X hX=>by
  have hg:=(HG _ hb).kept hX an;have F:Blk X c (QY a) 53:=Blk.kept hC hX am
  exact⟨hg.cell rfl,hg.cell rfl,hg.cell rfl,hg.cell rfl,hg.cell rfl,hg.cell rfl,hg.cell rfl,hg.cell rfl,hg.cell rfl,hg.cell rfl,hg.cell rfl,hg.cell rfl,hg.cell rfl,F.cell rfl,F.cell rfl,F.cell rfl,F.cell rfl,F.cell rfl,F.cell rfl,F.cell rfl,F.cell rfl,F.cell rfl,F.cell rfl,F.cell rfl⟩)
 have c1:yI I c 1 a.kind:=hC.all.2.1
 have q1:(a.kind==1)=true:=by rw[U];rfl
 clear U;have W:=yh hb;clear hb;have HZ:=yh hZ;clear hZ;have ac:=O.out;have ab:=ax.out;simp only[Qa]at ac;simp only[QY]at ab;have ag:=yh ac;have ae:=yh ab;clear ac ab O ax;have Z:=yh (fun X (hX:yw I X)=>W.trans (hX.mono W.size));clear hC;go_upto_region 3 with(fail);clear c1 q1;have aw:yw I I.drew:=(J4 _ I).drew;have V:=fun X (hX:yw I X)=>Kept.of_below (S:=fun k=>k=z) hX (fun k U h=>by omega);refine yZ (S:=(fun w'=>yI w' g 0 x.ship.legs∧yI w' g 1 x.ship.souls∧yJ w' g 2 A n cap∧yJ w' g 3 B m ah∧yJ w' g 4 D nd cd∧yI w' g 5 x.fares.alone∧yI w' g 6 x.fares.third∧yJ w' g 7 E ne ce∧yI w' g 8 x.fares.down∧yI w' g 9 x.day∧yI w' g 10 x.leaves∧yJ w' g 11 C nb cb∧w'.cell? ⟨g,12,none⟩=some (.bool x.closed)∧yI w' c 0 a.number∧yI w' c 1 a.kind∧yI w' c 2 a.id∧yI w' c 3 a.guests∧w'.cell? ⟨c,4,none⟩=some (.bool a.level)∧yI w' c 5 a.cabin∧yI w' c 6 a.category∧yI w' c 7 a.frm∧yI w' c 8 a.upto∧yI w' c 9 a.til∧yI w' c 10 a.amount)) (J _ (V _ aw)) fun aa=>?_;refine yT [0,1,2,3,4,5] ?_;iterate 6 (refine yS ?_;simp only[yU])
 refine yR 6 fun K hK=>?_;go_simp
 (go_at_call 223;refine yM (ae _ (HG _ (Z _ aw))) fun w6 aj=>?_;replace aw:=aw.trans (aj.mono aw.size);clear aj)
 go_wp2_with fail;refine hK.out _ _ (J _ (V _ aw)) fun aa=>?_;clear hK K
 try simp only[yU]
 refine yR 7 fun K hK=>?_;go_simp
 (go_at_call 31;refine(ag _ (HS.bel (Z _ aw))).mono ?_;rintro e w7 ⟨⟨y,p',rfl,hy,hO⟩,Q⟩;have aq:=aw.size;replace aw:=aw.trans (Q.mono aw.size);have HO:=yh hO;have HY:=yh hy;clear Q hO hy)
 go_wp2_with fail;refine hK.out _ _ (J _ (V _ aw)) fun aa=>?_;clear hK K
 try simp only[yU]
 refine yT [8,9] ?_;iterate 2 (refine yS ?_;simp only[yU])
 refine yR 10 fun K hK=>?_
 (refine yY 32 (.tmp 4) (.tmp 21) _ (Qa y p') (HZ.bel aw) ?_)
 refine hK.out _ _ (J _ ((V _ aw).setRow (.inl rfl) _)) fun aa=>?_;clear hK K
 try simp only[yU]
 refine yT [11] ?_;iterate 1 (refine yS ?_;simp only[yU])
 refine yD ?_;have al:=HZ.bel aw;have ai:Kept (fun k=>k=z) _ (World.setRow _ z (Qa y p')):=(yk z w7).setRow (.inl rfl) _;have Q:=Z _ aw;have af:=yh ai;clear ai;have ad:=yh Q;clear Q;have ar:=W.size;clear J V aw Z W HG HS ag ae;go_wp2_with fail;refine yq2 (.tuple #[.agg (Qa y p'),.int .i64 R]) (k:=4) (u:=5) (al.row _) underlying32 ?_;exact⟨⟨y,p',rfl,HY,(HO.kept af (fun k U e=>by omega)).mono (by omega)⟩,ad.trans (af.below (B:=w.heap.size) ad.size (fun k U e=>by omega))⟩
def doX (mk:Mk) (x:Sai) (a:Ask):Sai:=if mk.e x a=0 then mk.x x a else x
def owA (X:Sai) (t:Int):Int:=if ZA X.bks t=true then Zz (ZW X t).fol else 0
def doA (mk:Mk) (x:Sai) (a:Ask):Ans:=if mk.e x a=0 then ⟨0,owA (mk.x x a) a.id⟩else ⟨mk.e x a,0⟩
def YN (P:Sai→Ask→Prop) (mk:Mk):Prop:=∀x a,P x a→mk.e x a=0→QD (mk.x x a)=0
theorem QQb {P:Sai→Ask→Prop}{mk:Mk}(HM:MadeC P mk)(HR:YN P mk)(x:Sai)(p:SaiV)(a:Ask)(g base:Nat)(w:World)(O:SaiO w base x p)(a2:base≤w.heap.size)(hG:Blk w g (Qa x p) 129)(hP:P x a)(ha:InI a.id) :
  Calls prog 83 #[.pointer (some ⟨g,0,none⟩),.agg (QY a)] w fun e w'=>e=.returned (.agg (Qt (doA mk x a)))∧(∃p',SaiO w' base (doX mk x a) p'∧Blk w' g (Qa (doX mk x a) p') 129)∧Kept (fun k=>k=g) w w':=by
 have aa:=yh (fun X h1 h2=>HM x p a g X h1 h2 hP);have ac:=yh (HR x a hP);obtain⟨E,hE⟩:=yE (mk.e x a);obtain⟨X,F⟩:=yE (mk.x x a);obtain⟨AN,an⟩:=yE (doA mk x a);obtain⟨DX,ap⟩:=yE (doX mk x a);have af:=yh (show AN=if E=0 then ⟨0,owA X a.id⟩else ⟨E,0⟩by rw[an,hE,F];rfl);have ae:=yh (show DX=if E=0 then X else x by rw[ap,hE,F];rfl);rw[←an,←ap];rw[←hE,←F]at aa ac;have a7:=hG.lt;have HO:=yh (fun V (W:yw w V)=>O.bel W);have HG:=yh (fun V (W:yw w V)=>hG.bel W);clear hE F an ap O hG HM HR hP;go_enter func83,ntmps83;go_upto_region 0 with(fail);go_cut [3,4] (fun p p2 Z=>∃c z,yp p c∧yp p2 z∧w.heap.size≤z∧w.heap.size≤c∧c≠z∧AskAt Z c a∧Blk Z z #[.int .i64 0,.int .i64 0] 55∧yw w Z)
 case first=>
  clear aa ac af ae HO HG;go_wp2_with fail;go_meet;exact⟨_,_,rfl,rfl,by omega,by omega,by omega,QE _ _ _,QF _ _ _,Zo _ _ _⟩
 obtain⟨c,z,rfl,rfl,hz,a3,a4,hC,hZ,hb⟩:=hcut;obtain⟨W1,rfl⟩:=yE wc;have I:=yh (fun X (F:yw W1 X)=>hb.trans (F.mono hb.size));have HC:=yh (fun X (F:yw W1 X)=>show Blk X c (QY a) 53 from Blk.bel hC F);have HZ:=yh (fun X (F:yw W1 X)=>hZ.bel F);have a9:=hb.size;have be:=hZ.lt;clear hC hZ hb;have hb:yw W1 W1:=J4 _ _;go_upto_region 1 with(fail);go_cut [5,6] (fun q r Z=>r=.int .i64 E∧(∃s y p',yp q s∧W1.heap.size≤s∧Blk Z s (Qa y p') 32∧y=okS E X∧SaiO Z W1.heap.size y p')∧yw W1 Z)
 case first=>
  have HQ:=yh (aa _ ((HO _ (I _ hb)).sai) (HG _ (I _ hb)));have hc:=HC _ hb;clear aa ac af ae HO HG I HC HZ;go_wp2_with (refine yV (.tmp 3) hc underlying53 ?_);refine HQ.mono ?_;rintro e Y ⟨⟨y,p',rfl,hy,O⟩,aM⟩;have aR:=yh O;have aS:=yh hy;have al:=yh aM;clear O hy aM hc;go_wp2_with (refine yX 32 (.tmp 5) (.tmp 13) Y.heap.size (Qa y p') (Blk.new Y M9 32) ?_);go_meet;have aX:=al.size;have aN:yw Y ((Y.alloc (.cells M9 32)).setRow Y.heap.size (Qa y p')):=M5 (Qi Y _) (J5 _) _;exact⟨rfl,⟨_,y,p',rfl,aX,(Blk.new Y _ _).row _,aS,aR.bel aN⟩,al.trans (aN.mono al.size)⟩
 obtain⟨rfl,⟨s,y,p',rfl,bd,hS,hy,O⟩,Q⟩:=hcut;obtain⟨J,rfl⟩:=yE wc;have aj:=HZ _ Q;have ag:=yh (fun(u:Array Value)=>show yw w (J.setRow z u)from(I _ Q).trans (((yk z J).setRow (.inl rfl) u).below (B:=w.heap.size) (I _ Q).size (fun k U e=>by omega)));clear hb;by_cases h0:E=0;rotate_left
 ·have a0:(E !=0)=true:=by simpa using h0
  obtain rfl:AN=⟨E,0⟩:=by rw[af.out,M2 h0]
  obtain rfl:DX=x:=by rw[ae.out,M2 h0]
  clear h0 hS hy O HC aa ac;go_wp2_with (refine yX 55 (.tmp 4) (.tmp 18) z #[.int .i64 E,.int .i64 0] aj ?_);refine yq (.agg #[.int .i64 E,.int .i64 0]) (k:=4) (aj.row _) underlying55 ?_;exact⟨rfl,⟨p,HO _ (ag _),HG _ (ag _)⟩,Kept.of_below (ag _) (fun k U h=>by omega)⟩
 subst h0;obtain rfl:y=X:=hy.trans (Uf _);have ab:=yh (Zm (ac rfl))
 obtain rfl:DX=y:=by rw[ae.out,M3 rfl]
 have aF:=yh (af.trans (M3 rfl));have aq:=HG _ (I _ Q);have ad:Kept (fun k=>k=g) J (J.setRow g (Qa DX p')):=(yk g J).setRow (.inl rfl) _;have ah:=O.kept ad (fun k U e=>by omega);have ai:=hS.kept ad (by omega);have ao:=(HC _ Q).kept ad (by omega);have ax:=aj.kept ad (by omega);have ar:=aq.row (Qa DX p');have aB:Kept (fun k=>k=g) w (J.setRow g (Qa DX p')):=(Kept.of_below (I _ Q) (fun k U h=>by omega)).trans ad;have ba:=Q.size
 have aW:(J.setRow g (Qa DX p')).heap.size=J.heap.size:=by simp
 have bb:=(I _ Q).size;clear HO HG HC HZ I ag aa ac ae O hy ad Q;go_upto_region 5 with(first|(refine yV (.tmp 5) hS underlying32 ?_)|(refine wpList_store_row rfl 32 (.tmp 22) (.tmp 20) rfl g (Qa DX p') rfl rfl 129 _ aq (by kernel_rfl) rfl (by simp[Value.oneCell']) ?_));obtain⟨W3,aJ⟩:=yE (J.setRow g (Qa DX p'));rw[←aJ]at ah ai ao ax ar aB aW ⊢;clear aJ hS aj aq;have aO:=ah.sai.bks;have aH:=yh (XY DX p' a.id W3 aO (QP ab.bs.rise) (ZEa ab) ab.bs.len ha);have c2:yI W3 c 2 a.id:=ao.cell rfl;go_wp2_with (refine yV (.tmp 5) ai underlying32 ?_);refine aH.mono ?_;rintro e w4 ⟨i,rfl,hi,aE,bg⟩;have av:=ah.bel bg;have aw:=ai.bel bg;have ak:=ax.bel bg;have au:=ar.bel bg;have aC:Kept (fun k=>k=g) w w4:=aB.trans (Kept.of_below bg (fun k U h=>by omega));have bc:=bg.size;clear ah ai ax ar aB ao aO aH c2 bg;obtain⟨q,hq⟩:=yE (ZA DX.bks a.id);rw[←hq]
 have aG:=yh (show ∀V (u:Array Value),yw w4 V→(∃p',SaiO (V.setRow z u) base DX p'∧Blk (V.setRow z u) g (Qa DX p') 129)∧Kept (fun k=>k=g) w (V.setRow z u)from fun V u W=>by
  have aI:Kept (fun k=>k=z) V (V.setRow z u):=(yk z V).setRow (.inl rfl) u;have a1:=W.size
  exact⟨⟨p',((av.bel W).kept aI (fun k U e=>by omega)).mono (by omega),(au.bel W).kept aI (by omega)⟩,(aC.trans (Kept.of_below W (fun k U h=>by omega))).setRow (.inr hz) u⟩)
 cases q
 ·obtain rfl:AN=⟨0,0⟩:=by rw[aF.out];unfold owA;rw[←hq];rfl
  clear hq aE av aw au aC;go_wp2_with (refine yX 55 (.tmp 4) (.tmp 32) z #[.int .i64 0,.int .i64 0] ak ?_);refine yq (.agg #[.int .i64 0,.int .i64 0]) (k:=4) (ak.row _) underlying55 ?_;exact⟨rfl,aG _ _ (J4 _ _)⟩
 obtain⟨b,hb,aU,ay,-⟩:=Xo (QP ab.bs.rise) hq.symm;have aV:=ZEa ab b (J6 hb);obtain rfl:i=Ze DX.bks a.id:=aE ⟨by omega,by omega⟩
 have aP:ZW DX a.id=b:=by unfold ZW;rw[J7,hb];rfl
 obtain⟨du,aA⟩:=yE (Zz b.fol)
 obtain rfl:AN=⟨0,du⟩:=by rw[aF.out,aA];unfold owA;rw[←hq,M3 rfl,aP]
 have aQ:=(ab.bs.bk b (J6 hb)).fol;obtain⟨w0,b0,hW⟩:=av;obtain⟨gc,A3,n3,c3,hC,a5,a6,az,-,hF,-,aD⟩:=hW.at hb;have am:=yh (fun X (F:yw w4 X)=>XKa A3 n3 c3 b.fol X (hF.bel F) (Z7 aQ));obtain⟨A,n,cap,B,m,aZ,D,nd,cd,E,ne,ce,C,nb,cb⟩:=p';simp only at hC aD;subst hC;obtain⟨k,U⟩:=yE (Ze DX.bks a.id);rw[←U]at az ay ⊢;rw[←aA]at am;have aT:yJ w4 gc (k*11+10) A3 n3 c3:=az 10 _ rfl;have aY:yJ w4 s 11 (some ⟨gc,0,none⟩) nb cb:=aw.cell rfl
 have a8:k<nb:=by rw[←aD];exact ay
 have q1:decide ((k:Int)<(nb:Int))=true:=J2 (by omega);have q2:decide ((k:Int)<0)=false:=J3 (by omega);clear hq aE aw au aC hb aU ay aV aP aQ hW hF az U aA aD hi;go_wp2_with fail;refine yM (am _ (J4 _ _)) fun w5 aL=>?_;have aK:=ak.bel aL;clear am aT aY q1 q2 ak;go_wp2_with (refine yX 55 (.tmp 4) (.tmp 40) z #[.int .i64 0,.int .i64 du] aK ?_);refine yq (.agg #[.int .i64 0,.int .i64 du]) (k:=4) (aK.row _) underlying55 ?_;exact⟨rfl,aG _ _ aL⟩
theorem Zha {D:Func}{p q u:Tmp}{ty tz:TypeId}(h:D.results=#[.cell p ty,.cell q tz,.tmp u])(A:Array Value)(P:Program)(w:World) :
  (results D A).run P w=((asAddr (A.getD p undef)).run P w).andThen fun a E=>((loadVar ty a).run P E).andThen fun x F=>((asAddr (A.getD q undef)).run P F).andThen fun b I=>((loadVar tz b).run P I).andThen fun y J=>.ok (.tuple #[x,y,A.getD u undef]) J:=by
 simp only[results,h];simp[Sem.run_bind,Result.andThen]
theorem Blk.ret22 {F:Func}{k l u:Tmp}{ty tz t s:TypeId}(V:F.results=#[.cell k ty,.cell l tz,.tmp u]){A:Array Value}{w:World}{g h:Nat}{cs D:Array Value}{d E:TypeDesc}(W:Blk w g cs t)(X:Blk w h D s)(hp:A.getD k undef=.pointer (some ⟨g,0,none⟩))(hq:A.getD l undef=.pointer (some ⟨h,0,none⟩)){e:Value}(U:A.getD u undef=e)
  (hu:Tryz.prog.underlying ty=some d) (O:(match d with | .struct _ | .array _ _=>true|_=>false)=true) (Y:(Tryz.prog.info? ty).map (·.size)=some cs.size)
  (aa:Tryz.prog.underlying tz=some E) (Q:(match E with | .struct _ | .array _ _=>true|_=>false)=true) (Z:(Tryz.prog.info? tz).map (·.size)=some D.size):(results F A).run prog w=.ok (.tuple #[.agg cs,.agg D,e]) w:=by
 have I:=W.ld hu O Y;have J:=X.ld aa Q Z;rw[Zha (p:=k) (q:=l) (u:=u) (ty:=ty) (tz:=tz) V,hp,hq,U];simp only[asAddr,Sem.run_pure,Result.andThen,I,J]
theorem Zd {w:World}{b z:Nat}{cs:Array Value}{t:TypeId}(h:Blk w b cs t)(A:b≠z)(u:Array Value):Blk (w.setRow z u) b cs t:=h.kept ((yk z w).setRow (.inl rfl) u) A
noncomputable def ZWb (x:Sai) (a:Ask):Int:=if QD x≠0 then QD x else QS a
def okA (e:Int) (a:Ans):Ans:=if e=0 then a else ⟨0,0⟩
theorem Zba (a:Ans):okA 0 a=a:=rfl
theorem Zab {e:Int}(h:¬e=0)(a:Ans):okA e a=⟨0,0⟩:=M2 h
def DoR (w':World) (base:Nat) (E:Int) (X:Sai) (N:Ans) (e:Ending):Prop:=∃y p' an,e=.returned (.tuple #[.agg (Qa y p'),.agg (Qt an),.int .i64 E])∧y=okS E X∧an=okA E N∧SaiO w' base y p'
theorem Q4c {P:Sai→Ask→Prop}{mk:Mk}(HM:MadeC P mk)(HR:YN P mk)(x:Sai)(p:SaiV)(a:Ask)(w:World)(hS:SaiR w x p)(hP:QD x=0→QS a=0→P x a)(ha:InI a.id) :
  Calls prog 20 #[.agg (Qa x p),.agg (QY a)] w fun e w'=>DoR w' w.heap.size (ZWb x a) (doX mk x a) (doA mk x a) e∧yw w w':=by
 have ah:=yh (fun X I=>UG x p X I);have ag:=yh (fun X=>Vy a X);have ao:=yh (fun X h ho=>UI x p X h ho);have ai:=yh (fun p2 g base X h1 h2 h3 hp=>QQb HM HR x p2 a g base X h1 h2 h3 hp ha);obtain⟨r,hr⟩:=yE (QD x);obtain⟨k,hk⟩:=yE (QS a);obtain⟨R,hR⟩:=yE (ZWb x a);obtain⟨DX,ar⟩:=yE (doX mk x a);obtain⟨F,aq⟩:=yE (doA mk x a);have aj:=yh (show R=if r≠0 then r else k by rw[hR,hr,hk];rfl);have aE:=yh hr;rw[←hr]at ah hP;rw[←hk]at ag hP;rw[←ar,←aq]at ai;rw[←hR,←ar,←aq];have HP:=yh hP;have HS:=yh hS;clear hr hk hR ar aq hS hP;obtain⟨A,n,cap,B,m,aR,D,nd,cd,E,ne,ce,C,nb,cb⟩:=p;go_enter func20,ntmps20;go_upto_region 0 with(fail)
 go_cut [2,3,4,5,6] (fun p p2 p3 p4 p5 wx=>∃g c z q,yp p g∧yp p2 c∧yp p3 z∧yp p4 q∧p5=.int .i64 0∧w.heap.size≤z∧w.heap.size≤q∧z≠q∧
  Blk wx g (Qa x ⟨A,n,cap,B,m,aR,D,nd,cd,E,ne,ce,C,nb,cb⟩) 32∧AskAt wx c a∧Blk wx z M9 32∧Blk wx q #[.int .i64 0,.int .i64 0] 55∧yw w wx)
 case first=>
  clear ah ag ao ai aj aE HP HS;go_wp2_with fail;go_meet;exact⟨_,_,_,_,rfl,rfl,rfl,rfl,rfl,by omega,by omega,by omega,((Blk.new w _ _).old _).old _ |>.old _,((Blk.new1 w _ _ _).old _).old _,(Blk.new2 w _ _ _ _).old _,Blk.new3 w _ _ _ _ _,(X0 _ _ _ _).alloc (by simp;omega) _⟩
 obtain⟨g,c,z,q,rfl,rfl,rfl,rfl,rfl,hz,hq,Y,hG,hC,hZ,hQ,ak⟩:=hcut;obtain⟨J,rfl⟩:=yE wc;have HT:=yh (fun X (I:yw J X)=>ak.trans (I.mono ak.size));have HG:=yh (fun X (I:yw J X)=>hG.bel I);have HC:=yh (fun X (I:yw J X)=>show Blk X c (QY a) 53 from Blk.bel hC I);have HZ:=yh (fun X (I:yw J X)=>hZ.bel I);have HQ:=yh (fun X (I:yw J X)=>hQ.bel I);have ap:=yh (fun X (I:yw J X)=>HS.bel (HT X I));have a5:=hZ.lt;have a3:=hQ.lt;have a4:=ak.size
 have af:=yh (show ∀V u u2,yw J V→yw w ((V.setRow z u).setRow q u2)from fun V u u2 I=>
  ((HT V I).trans ((((yj z q V).setRow (.inl (.inl rfl)) u).setRow (.inl (.inr rfl)) u2).below (B:=w.heap.size) (HT V I).size (fun k hk e=>by omega))))
 have an:=yh (show ∀(E':Int) V,¬E'=0→yw J V→DoR ((V.setRow z (Qa Qf Qg)).setRow q #[.int .i64 0,.int .i64 0]) w.heap.size E' DX F (.returned (.tuple #[.agg (Qa Qf Qg),.agg #[.int .i64 0,.int .i64 0],.int .i64 E']))∧yw w ((V.setRow z (Qa Qf Qg)).setRow q #[.int .i64 0,.int .i64 0])from fun E' V h0 I=>
  ⟨⟨Qf,Qg,⟨0,0⟩,rfl,(Ul h0 _).symm,(Zab h0 _).symm,Vw _ _ (af V _ _ I).size⟩,af V _ _ I⟩)
 have hb:yw J J:=J4 _ _;clear hG hC hZ hQ ak;have aa:=yh (ah _ (ap _ hb));go_upto_region 1 with(fail);go_wp2_with (refine yV (.tmp 2) (HG _ hb) underlying32 ?_);refine yM aa fun w1 aK=>?_;replace hb:=hb.trans (aK.mono hb.size);clear aK aa ah;by_cases q0:r=0;rotate_left
 ·obtain rfl:R=r:=by rw[aj.out,M3 q0]
  have q1:(R !=0)=true:=by simpa using q0
  have q2:(R==0)=false:=by simpa using q0
  have Q0:=yh q0;clear q0;have W:=HZ _ hb;have ac:=HQ _ hb;have a7:=Zd ac (Ne.symm Y) (Qa Qf Qg);have ae:=Zd (W.row (Qa Qf Qg)) Y #[.int .i64 0,.int .i64 0];go_wp2_with (first|(refine yX 32 (.tmp 4) (.tmp 18) z (Qa Qf Qg) W ?_)|(refine yX 55 (.tmp 5) (.tmp 19) q #[.int .i64 0,.int .i64 0] a7 ?_));refine yq4 (.tuple #[.agg (Qa Qf Qg),.agg #[.int .i64 0,.int .i64 0],.int .i64 R]) (k:=4) (l:=5) (u:=6) ae (a7.row #[.int .i64 0,.int .i64 0]) underlying32 underlying55 ?_;exact an _ _ Q0 hb
 obtain rfl:R=k:=by rw[aj.out,M2 (by rw[q0];simp)]
 have aP:=yh (Zm (aE.symm.trans q0));have aD:=yh (HP q0);subst q0;have hc:=HC _ hb;go_wp2_with (refine yV (.tmp 3) hc underlying53 ?_);refine yM (ag _) fun w2 aL=>?_;replace hb:=hb.trans (aL.mono hb.size);clear aL ag hc;by_cases q0:R=0;rotate_left
 ·have q1:(R !=0)=true:=by simpa using q0
  have Q0:=yh q0;clear q0;have W:=HZ _ hb;have ac:=HQ _ hb;have a7:=Zd ac (Ne.symm Y) (Qa Qf Qg);have ae:=Zd (W.row (Qa Qf Qg)) Y #[.int .i64 0,.int .i64 0];go_wp2_with (first|(refine yX 32 (.tmp 4) (.tmp 18) z (Qa Qf Qg) W ?_)|(refine yX 55 (.tmp 5) (.tmp 19) q #[.int .i64 0,.int .i64 0] a7 ?_));refine yq4 (.tuple #[.agg (Qa Qf Qg),.agg #[.int .i64 0,.int .i64 0],.int .i64 R]) (k:=4) (l:=5) (u:=6) ae (a7.row #[.int .i64 0,.int .i64 0]) underlying32 underlying55 ?_;exact an _ _ Q0 hb
 subst q0;have aQ:=yh (aD rfl);have aa:=yh (ao _ (ap _ hb) aP);clear aj HP aD ao;have aT:=hb.size;go_wp2_with (refine yV (.tmp 2) (HG _ hb) underlying32 ?_);refine aa.mono ?_;rintro e Q ⟨p3,rfl,aH,ay⟩;replace hb:=hb.trans (ay.mono hb.size);have hc:=(HC _ hb).bel (Qi Q (.cells (Qa x p3) 129));have aI:=aH.bel (Qi Q (.cells (Qa x p3) 129));have aU:=ay.size;have aC:=yh (ai p3 Q.heap.size w2.heap.size _ aI (by simp;omega) (Blk.new Q (Qa x p3) 129) aQ);have HB:=yh (hb.trans ((Qi Q (.cells (Qa x p3) 129)).mono hb.size));clear aH aI ay aa ai hb;go_wp2_with (refine yV (.tmp 3) hc underlying53 ?_);refine aC.mono ?_;rintro e U ⟨rfl,⟨p5,ax,au⟩,aG⟩
 have aW:Q.heap.size<(Q.alloc (.cells (Qa x p3) 129)).heap.size:=by simp
 have hb:yw J U:=HB.trans (aG.below (B:=J.heap.size) HB.size (fun j hj e=>by omega));have aB:=yh (show w.heap.size≤U.heap.size∧J.heap.size≤w2.heap.size∧J.heap.size≤U.heap.size from⟨(HT _ hb).size,aT,hb.size⟩);clear aC aG hc HB;go_wp2_with fail;have av:=au.bel (Qi U (.cells #[.int .i64 F.errno,.int .i64 F.owed] 55));have ab:=ax.bel (Qi U (.cells #[.int .i64 F.errno,.int .i64 F.owed] 55));have aw:=Blk.new U #[.int .i64 F.errno,.int .i64 F.owed] 55;replace hb:=hb.trans ((Qi U (.cells #[.int .i64 F.errno,.int .i64 F.owed] 55)).mono hb.size);have aX:=au.lt;have aZ:w2.heap.size≤Q.heap.size:=aU;have aV:=ax;clear au ax aV aW;obtain⟨gk,az⟩:=yE Q.heap.size;obtain⟨Z,aA⟩:=yE U.heap.size;obtain⟨w6,ad⟩:=yE (U.alloc (.cells #[.int .i64 F.errno,.int .i64 F.owed] 55));rw[←ad,←az]at av;rw[←ad]at ab hb;rw[←ad,←aA]at aw;rw[←az,←aA,←ad]
 have a0:gk≠z:=by omega
 have aY:gk≠q:=by omega
 have aS:=aB.out
 have a2:Z≠z:=by omega
 have a1:Z≠q:=by omega
 have HK:=yh (show ∀X,Kept (fun k=>k=z∨k=q) w6 X→(fun w'=>yI w' gk 0 DX.ship.legs∧yI w' gk 1 DX.ship.souls∧yJ w' gk 2 p5.A p5.n p5.cap∧yJ w' gk 3 p5.B p5.m p5.cap2∧yJ w' gk 4 p5.D p5.nd p5.cd∧yI w' gk 5 DX.fares.alone∧yI w' gk 6 DX.fares.third∧yJ w' gk 7 p5.E p5.ne p5.ce∧yI w' gk 8 DX.fares.down∧yI w' gk 9 DX.day∧yI w' gk 10 DX.leaves∧yJ w' gk 11 p5.C p5.nb p5.cb∧w'.cell? ⟨gk,12,none⟩=some (.bool DX.closed)∧yI w' Z 0 F.errno∧yI w' Z 1 F.owed) X from fun X I=>by
  have O:=av.kept I (by omega);have hn:=aw.kept I (by omega)
  exact⟨O.cell rfl,O.cell rfl,O.cell rfl,O.cell rfl,O.cell rfl,O.cell rfl,O.cell rfl,O.cell rfl,O.cell rfl,O.cell rfl,O.cell rfl,O.cell rfl,O.cell rfl,hn.cell rfl,hn.cell rfl⟩)
 have al:=hb.drew;have W:=HZ _ al;have ac:=HQ _ al;have a7:=Zd ac (Ne.symm Y) (Qa DX p5);have ae:=Zd (W.row (Qa DX p5)) Y (Qt F);have aN:=yh (af w6.drew (Qa DX p5) (Qt F) al);replace ab:=ab.bel (J4 _ _).drew;have aM:=yj z q w6.drew;have aJ:=(ab.kept ((aM.setRow (.inl (.inl rfl)) (Qa DX p5)).setRow (.inl (.inr rfl)) (Qt F)) (fun k hk e=>by omega)).mono (show w.heap.size≤w2.heap.size by omega);have aO:=yh aJ;clear aJ;have am:=yj z q w6;clear ap an af HZ HQ HG HC HT av aw ad az aA aB aS;refine yZ (S:=(fun w'=>yI w' gk 0 DX.ship.legs∧yI w' gk 1 DX.ship.souls∧yJ w' gk 2 p5.A p5.n p5.cap∧yJ w' gk 3 p5.B p5.m p5.cap2∧yJ w' gk 4 p5.D p5.nd p5.cd∧yI w' gk 5 DX.fares.alone∧yI w' gk 6 DX.fares.third∧yJ w' gk 7 p5.E p5.ne p5.ce∧yI w' gk 8 DX.fares.down∧yI w' gk 9 DX.day∧yI w' gk 10 DX.leaves∧yJ w' gk 11 p5.C p5.nb p5.cb∧w'.cell? ⟨gk,12,none⟩=some (.bool DX.closed)∧yI w' Z 0 F.errno∧yI w' Z 1 F.owed)) (HK _ am.drew) fun aF=>?_;refine yT [0,1,2,3,4] ?_;iterate 5 (refine yS ?_;simp only[yU])
 refine yR 5 fun K hK=>?_
 (refine yY 32 (.tmp 4) (.tmp 31) _ (Qa DX p5) W ?_)
 refine hK.out _ _ (HK _ (am.drew.setRow (.inl (.inl rfl)) _)) fun aF=>?_;clear hK K
 try simp only[yU]
 refine yR 6 fun K hK=>?_
 (refine yY 55 (.tmp 5) (.tmp 32) _ (Qt F) a7 ?_)
 refine hK.out _ _ (HK _ ((am.drew.setRow (.inl (.inl rfl)) _).setRow (.inl (.inr rfl)) _)) fun aF=>?_;clear hK K
 try simp only[yU]
 refine yT [7] ?_;iterate 1 (refine yS ?_;simp only[yU])
 refine yD ?_;clear HK am aM ab al;go_wp2_with fail;refine yq4 (.tuple #[.agg (Qa DX p5),.agg (Qt F),.int .i64 0]) (k:=4) (l:=5) (u:=6) ae (a7.row (Qt F)) underlying32 underlying55 ?_;exact⟨⟨DX,p5,F,rfl,(Uf _).symm,(Zba _).symm,aO⟩,aN⟩
def QQ (a:Ask) (o:Don):Bool:=o.ask.number==a.number
noncomputable def opn (mk:Mk):Sai→List Don→List Don→Sai×Int
 | x,_,[]=>(x,0)
 | x,pre,d::l=>if QS d.ask≠0 then (x,QS d.ask)else if pre.any (QQ d.ask)=true then (x,6)else if doA mk x d.ask=d.ans then opn mk (doX mk x d.ask) (pre++[d]) l else (x,4)
noncomputable def US (mk:Mk) (x:Sai) (l:List Don) (wr:Int):Int:=if QD x≠0 then QD x else if 30<l.length then 2 else if wrB wr l.length=false then 3 else (opn mk x [] l).2
noncomputable def XH (mk:Mk) (x:Sai) (l:List Don):Sai:=(opn mk x [] l).1
theorem Y2a {mk:Mk}{y:Sai}{l:List Don}{k:Nat}{d:Don}(A:l[k]? = some d):opn mk y (l.take k) (l.drop k)=if QS d.ask≠0 then (y,QS d.ask)else if (l.take k).any (QQ d.ask)=true then (y,6)else if doA mk y d.ask=d.ans then opn mk (doX mk y d.ask) (l.take (k+1)) (l.drop (k+1))else (y,4):=by
 obtain⟨h,D⟩:=J0.1 A;rw[List.drop_eq_getElem_cons h,D,Qo A]
 rfl
theorem V9b {P:Sai→Ask→Prop}{mk:Mk}(A:YN P mk){x:Sai}{a:Ask}(h:QD x=0)(D:P x a):QD (doX mk x a)=0:=by
 unfold doX;by_cases q:mk.e x a=0
 ·rw[M3 q];exact A x a D q
 ·rw[M2 q];exact h
theorem Vfb (x:Don)(no:Int)(d:Nat)(w:World)(A:yI w d 0 no) :
  Calls prog 155 #[.agg (Vk x),.pointer (some ⟨d,0,none⟩)] w fun e w'=>e=.returned (.bool (x.ask.number==no))∧yw w w':=by
 have D:=ZT A;unfold Vk;go_enter func155,ntmps155;go_wp2_with fail;go_ret;exact⟨rfl,Qi _ _⟩
theorem Vyb (x:Don)(no:Int)(d:Nat)(w:World)(A:yI w d 0 no) :
  Calls prog 135 #[.agg (Vk x),.pointer (some ⟨d,0,none⟩)] w fun e w'=>e=.returned (.bool (x.ask.number==no))∧yw w w':=by
 have D:=ZT A;unfold Vk;go_enter func135,ntmps135;go_wp2_with fail;go_ret;exact⟨rfl,Qi _ _⟩
def OpR (w':World) (base:Nat) (E:Int) (X:Sai) (e:Ending):Prop:=(∃g p',E=0∧e=.returned (.tuple #[.pointer (some ⟨g,0,none⟩),.int .i64 0])∧base≤g∧Blk w' g (Qa X p') 129∧SaiO w' base X p'∧QD X=0)∨(¬E=0∧e=.returned (.tuple #[.pointer none,.int .i64 E]))
theorem QZa {P:Sai→Ask→Prop}{mk:Mk}(HM:MadeC P mk)(HR:YN P mk)(x:Sai)(p:SaiV)(A:Option Addr)(n cap:Nat)(l:List Don)(wr:Int)(w:World)(hS:SaiR w x p)(hl:Sl ZX 13 w All A n cap l)
  (hP:∀y,QD y=0→∀d∈l,QS d.ask=0→P y d.ask) :
  Calls prog 75 #[.agg (Qa x p),.agg #[.slice A n cap,.int .i64 wr]] w fun e w'=>OpR w' w.heap.size (US mk x l wr) (XH mk x l) e∧yw w w':=by
 have aq:=yh (fun X hX=>UG x p X hX);have aF:=yh (fun X h ho=>UI x p X h ho);have aW:=hl.len;have bw:n≤maxLen:=Nat.le_trans hl.le hl.max;have bE:=hl.bd;obtain⟨r,hr⟩:=yE (QD x);obtain⟨R,hR⟩:=yE (US mk x l wr);obtain⟨O,hO⟩:=yE (opn mk x [] l);obtain⟨X,hX⟩:=yE (XH mk x l)
 have bf:X=O.1:=by rw[hX,hO];rfl
 have aw:=yh (show R=if r≠0 then r else if 30<n then 2 else if wrB wr n=false then 3 else O.2 by rw[hR,hr,←aW,hO];rfl);have aI:=yh hr;rw[←hr]at aq;rw[←hR,←hX];have HS:=yh hS;have HL:=yh hl;have HO:=yh hO;have ai:=yh bf;have HN:=yh aW;have aC:=yh (show n≤30→n≤1000000000000000000 from fun h=>by omega);have aK:=yh (fun X (h:n≤1000000000000000000)=>Uea A n cap wr X h);clear hr hR hO hX bf hS hl aW bw;obtain⟨AA,nn,br,B,m,bq,D,nd,cd,E,ne,ce,C,nb,cb⟩:=p;go_enter func75,ntmps75;go_upto_region 0 with(fail);go_cut [2,3,4,5] (fun p p2 Y p4 wx=>∃g h,yp p g∧yp p2 h∧Y=.pointer none∧p4=.int .i64 0∧Blk wx g (Qa x ⟨AA,nn,br,B,m,bq,D,nd,cd,E,ne,ce,C,nb,cb⟩) 32∧Blk wx h #[.slice A n cap,.int .i64 wr] 39∧yw w wx)
 case first=>
  clear aq aF aw aI HS HL HO ai HN aC aK;go_wp2_with fail;go_meet;exact⟨_,_,rfl,rfl,rfl,rfl,QE _ _ _,QF _ _ _,Zo _ _ _⟩
 obtain⟨g,h,rfl,rfl,rfl,rfl,hG,hH,az⟩:=hcut;obtain⟨W1,rfl⟩:=yE wc;have I:=yh (fun X (hX:yw W1 X)=>az.trans (hX.mono az.size));have HG:=yh (fun X (hX:yw W1 X)=>hG.bel hX);have HH:=yh (fun X (hX:yw W1 X)=>hH.bel hX);have aJ:=yh (fun X (hX:yw W1 X)=>HS.bel (I X hX));have bz:=az.size;have hb:yw W1 W1:=J4 _ _;clear hG hH az HS;have ah:=yh (aq _ (aJ _ hb));go_wp2_with (refine yV (.tmp 2) (HG _ hb) underlying32 ?_);refine yM ah fun w1 bg=>?_;replace hb:=hb.trans (bg.mono hb.size);clear bg ah aq;by_cases q0:r=0;rotate_left
 ·obtain rfl:R=r:=by rw[aw.out,M3 q0]
  have q1:(R !=0)=true:=by simpa using q0
  have Q0:=yh q0;clear q0;go_wp2_with fail;go_ret2;exact⟨.inr ⟨Q0,rfl⟩,I _ hb⟩
 have aE:=yh (aI.symm.trans q0);have aG:=yh (aw.trans (M2 (by rw[q0];simp)));subst q0;clear aw aI;have h0:yJ w1 h 0 A n cap:=(HH _ hb).cell rfl;have h1:yI w1 h 1 wr:=(HH _ hb).cell rfl;by_cases q3:30<n
 ·obtain rfl:R=2:=by rw[aG.out,M3 q3]
  have q4:decide (30<(n:Int))=true:=J2 (by omega);clear q3;go_wp2_with fail;go_ret2;exact⟨.inr ⟨by decide,rfl⟩,I _ hb⟩
 have q4:decide (30<(n:Int))=false:=J3 (by omega);have aH:=yh (aG.trans (M2 q3))
 have bx:n≤30:=by omega
 clear q3 aG;go_wp2_with fail;refine yM (aK _ (aC bx)) fun w2 bh=>?_;replace hb:=hb.trans (bh.mono hb.size);clear bh aK h0 h1 q4;by_cases q5:wrB wr n=false
 ·obtain rfl:R=3:=by rw[aH.out,M3 q5]
  go_wp2_with fail;go_ret2;exact⟨.inr ⟨by decide,rfl⟩,I _ hb⟩
 obtain rfl:R=O.2:=by rw[aH.out,M2 q5]
 have q6:wrB wr n=true:=by cases h:wrB wr n;exact absurd h q5;rfl
 clear q5 aH;have ah:=yh (aF _ (aJ _ hb) (Zm aE));have bA:=hb.size;have h0:∀X,yw W1 X→yJ X h 0 A n cap:=fun X hX=>(HH _ hX).cell rfl;have ar:=yh h0;clear h0;go_wp2_with (refine yV (.tmp 2) (HG _ hb) underlying32 ?_);refine ah.mono ?_;rintro e w3 ⟨Y,rfl,am,aQ⟩;replace hb:=hb.trans (aQ.mono hb.size);have bO:=am.bel (Qi w3 (.cells (Qa x Y) 129));have aN:=Blk.new w3 (Qa x Y) 129;have bI:=aQ.size;have aA:=hb.trans ((Qi w3 (.cells (Qa x Y) 129)).mono hb.size);clear am aQ ah aF q6 hb;go_upto_region 9 with(fail);obtain⟨V,aS⟩:=yE w3.heap.size;obtain⟨w4,aB⟩:=yE (w3.alloc (.cells (Qa x Y) 129))
 have bG:W1.heap.size≤V:=by omega
 rw[←aB]at bO aA;rw[←aB,←aS]at aN;rw[←aS,←aB];have aZ:=yh aA;have ag:=yh (bO.mono (show W1.heap.size≤w2.heap.size from bA));have a2:=yh aN;have h0:yJ w4 h 0 A n cap:=ar _ aA;clear bO aA aN aB aS;go_wp2_with fail;clear h0
 go_loopg [33] n (fun gx i wr=>∃(k:Nat) (y:Sai) (p':SaiV),k≤n∧n-k≤gx∧i=.int .i64 k∧Hid (QD y=0∧O=opn mk y (l.take k) (l.drop k))∧Hid (SaiO wr W1.heap.size y p')∧Hid (Blk wr V (Qa y p') 129)∧yw W1 wr)
 case atStart=>exact⟨0,x,Y,M0 _,by omega,rfl,yh ⟨aE,by rw[HO.out];rfl⟩,ag,a2,aZ⟩
 case round=>
  obtain⟨k,y,p',hk,bv,rfl,U,ax,ae,hb⟩:=hrel;obtain⟨W5,rfl⟩:=yE wr;have h0:yJ W5 h 0 A n cap:=ar _ hb;by_cases hlt:k<n;rotate_left
  ·obtain rfl:k=n:=by omega
   have Q:O=(y,0):=by
    have:=U.2;rw[List.drop_eq_nil_of_le (Nat.le_of_eq HN.out)]at this;exact this
   clear hlt hk bv;have J:=yh Q;clear Q;go_wp2_with fail;go_ret2;refine⟨.inl ⟨V,p',by rw[J.out],rfl,by omega,?_,?_,?_⟩,I _ hb⟩
   ·rw[ai.out,J.out];exact ae
   ·rw[ai.out,J.out];exact ax.mono bz
   ·rw[ai.out,J.out];exact U.1
  obtain⟨ba,bB,d,rfl,hx,hi,hc⟩:=(HL.bel (I _ hb)).don hlt;obtain⟨c0,c1,c2,c3,c4,c5,c6,c7,c8,c9,aj,ak,al⟩:=Q0a hc;have HX:=yh hx;have bu:decide ((k:Int)<(n:Int))=true:=J2 (by omega);have HI:=yh hi;clear hx hi hc;go_upto_region 11 with(fail);go_cut [8,9] (fun i p wx=>i=.int .i64 (k:Int)∧∃q,yp p q∧W5.heap.size≤q∧Blk wx q (Vk d) 106∧yw W5 wx)
  case first=>
   clear aE ai HO HN HL aC I HG HH aJ ar ag a2 aZ U ax ae HX HI;go_wp2_with fail;go_meet;exact⟨rfl,_,rfl,J5 _,Blk.new W5 _ _,Qi W5 _⟩
  obtain⟨rfl,q,rfl,F,hD,ao⟩:=hcut;obtain⟨W6,rfl⟩:=yE wc;clear c0 c1 c2 c3 c4 c5 c6 c7 c8 c9 aj ak al bu;have bK:=ao.size;have bJ:=hb.size;have bF:V<W5.heap.size:=ae.lt
  have au:=yh (show ∀X,Kept (fun j=>j=V) W6 X→(fun w'=>yI w' q 0 d.ask.number∧yI w' q 1 d.ask.kind∧yI w' q 2 d.ask.id∧yI w' q 3 d.ask.guests∧w'.cell? ⟨q,4,none⟩=some (.bool d.ask.level)∧yI w' q 5 d.ask.cabin∧yI w' q 6 d.ask.category∧yI w' q 7 d.ask.frm∧yI w' q 8 d.ask.upto∧yI w' q 9 d.ask.til∧yI w' q 10 d.ask.amount∧yI w' q 11 d.ans.errno∧yI w' q 12 d.ans.owed) X from fun X hX=>by
   have F:=hD.kept hX (by omega)
   exact⟨F.cell rfl,F.cell rfl,F.cell rfl,F.cell rfl,F.cell rfl,F.cell rfl,F.cell rfl,F.cell rfl,F.cell rfl,F.cell rfl,F.cell rfl,F.cell rfl,F.cell rfl⟩)
  have bi:=hb.trans (ao.mono hb.size);have a3:=yh (ae.bel ao);have a7:=yh (ax.bel ao);have be:=Y2a (mk:=mk) (y:=y) HX;have ay:=U.2.trans be;have af:=yh ay;have Z:=Vy d.ask W6;obtain⟨ce,aR⟩:=yE (QS d.ask);rw[←aR]at Z ay;simp only[QY]at Z;have a1:=yh aR;have Z:=yh Z;have hb:=bi;have aT:=yk V W6;obtain⟨c0,c1,c2,c3,c4,c5,c6,c7,c8,c9,aj,ak,al⟩:=au _ aT;clear hD ao ae ax h0 be aR bi af;have af:=yh ay;clear ay;go_wp2_with fail;refine yM Z fun w7 ab=>?_;clear Z;have bP:=hb.trans (ab.mono hb.size);have aU:=aT.trans (Kept.of_below ab (fun j hj h=>by omega));have a4:=yh (a3.bel ab);have a8:=yh (a7.bel ab);have bL:=ab.size;clear c0 c1 c2 c3 c4 c5 c6 c7 c8 c9 aj ak al hb ab aT a3 a7;have hb:=bP;clear bP;obtain⟨c0,c1,c2,c3,c4,c5,c6,c7,c8,c9,aj,ak,al⟩:=au _ aU;have h0:yJ w7 h 0 (some ⟨ba,bB,none⟩) n cap:=ar _ hb;by_cases e0:ce=0;rotate_left
  ·have Q:O=(y,ce):=af.trans (M3 e0)
   have e1:(ce !=0)=true:=by simpa using e0
   have J:=yh Q;have E0:=yh e0;clear Q e0;go_wp2_with fail;go_ret2;exact⟨.inr ⟨by rw[J.out];exact E0,by rw[J.out];rfl⟩,I _ hb⟩
  have am:=af.trans (M2 (fun c=>c e0));subst e0;have aD:=yh am;have a5:=yh (hP y U.1 d (J6 HX) a1.symm);clear am af a1;have a6:=(HL.bel (I _ hb)).pre hk;obtain⟨tw,aY⟩:=yE ((l.take k).any (QQ d.ask));have ad:=Zra _ k cap (l.take k) 155 #[.pointer (some ⟨q,0,none⟩)] (QQ d.ask) w7 a6 (enters_of func155 (by kernel_rfl) rfl) (fun x2 w8 _ bP=>Vfb x2 d.ask.number q w8 (Qh bP c0));rw[←aY]at ad;have ad:=yh ad
  have bH:k≤cap:=by have:=HL.le;omega
  have bQ:=yh aY;have bt:decide ((k:Int)<0)=false:=J3 (by omega);clear aY a6;go_wp2_with fail;refine yM ad fun w9 ac=>?_;clear ad;have bP:=hb.trans (ac.mono hb.size);have aV:=aU.trans (Kept.of_below ac (fun j hj h=>by omega));have bl:=yh (a4.bel ac);have bo:=yh (a8.bel ac);have bM:=ac.size;clear c0 c1 c2 c3 c4 c5 c6 c7 c8 c9 aj ak al hb ac aU a4 a8 h0 bt;have hb:=bP;clear bP;cases tw;rotate_left
  ·have Q:O=(y,6):=aD.trans (M3 bQ.out.symm);have J:=yh Q;clear Q;go_wp2_with fail;go_ret2;exact⟨.inr ⟨by rw[J.out];exact(show ¬(6:Int)=0 by decide),by rw[J.out];rfl⟩,I _ hb⟩
  have bO:=aD.trans (M2 (by rw[←bQ.out];decide));obtain⟨AN,aL⟩:=yE (doA mk y d.ask);obtain⟨DX,aM⟩:=yE (doX mk y d.ask);have aa:=QQb HM HR y p' d.ask V W1.heap.size w9.drew (bo.bel (J4 _ _).drew) (show W1.heap.size≤w9.heap.size by omega) (bl.bel (J4 _ _).drew) a5 HI.1.2.2.1;have aP:=V9b HR U.1 a5;rw[←aL,←aM]at aa bO;rw[←aM]at aP;have bp:=yh aP;have ag:=yh bO;have bC:=yh aL;simp only[QY]at aa;have aa:=yh aa;have bj:=fun W=>VSb AN d.ans W;obtain⟨tv,aX⟩:=yE (decide (AN≠d.ans));rw[←aX]at bj;have a9:=yh aX;clear bO aL aM aP aX aD U;go_upto_region 17 with(fail);have ap:=aV.drew;have bD:=yh aV;have a0:=yh hb.drew;clear aV hb;refine yZ (S:=(fun w'=>yI w' q 0 d.ask.number∧yI w' q 1 d.ask.kind∧yI w' q 2 d.ask.id∧yI w' q 3 d.ask.guests∧w'.cell? ⟨q,4,none⟩=some (.bool d.ask.level)∧yI w' q 5 d.ask.cabin∧yI w' q 6 d.ask.category∧yI w' q 7 d.ask.frm∧yI w' q 8 d.ask.upto∧yI w' q 9 d.ask.til∧yI w' q 10 d.ask.amount∧yI w' q 11 d.ans.errno∧yI w' q 12 d.ans.owed)) (au _ ap) fun bs=>?_;refine yT [0,1,2,4,5] ?_;iterate 5 (refine yS ?_;simp only[yU])
  refine yR 3 fun K hK=>?_;go_simp
  (go_at_call 83;refine aa.mono ?_;rintro e wA ⟨rfl,⟨pA,bc,bb⟩,aO⟩;have bn:=yh bc;have bk:=yh bb;replace ap:=ap.trans aO;have bm:=yh aO;clear bc bb aO)
  go_wp2_with fail;refine hK.out _ _ (au _ ap) fun bs=>?_;clear hK K
  try simp only[yU]
  refine yT [6] ?_;iterate 1 (refine yS ?_;simp only[yU])
  refine yD ?_;have hb:yw W1 wA:=a0.trans (bm.below (B:=W1.heap.size) a0.size (fun j hj e=>by omega));clear ap aa bj;cases tv
  ·have an:=ag.trans (M3 (by have:=a9.out;simpa using this));have av:=yh an;clear an;go_wp2_with fail;go_roundg (n-(k+1))
   case measure=>omega
   case rel=>exact⟨k+1,DX,pA,by omega,by omega,by go_num,yh ⟨bp,av⟩,bn,bk,hb⟩
  ·have an:O=(y,4):=ag.trans (M2 (by have:=a9.out;simpa using this));have av:=yh an;clear an;go_wp2_with fail;go_ret2;exact⟨.inr ⟨by rw[av.out];exact(show ¬(4:Int)=0 by decide),by rw[av.out];rfl⟩,I _ hb⟩
theorem V6a {P:Sai→Ask→Prop}{mk:Mk}(Y:MadeC P mk)(HR:YN P mk)(x:Sai)(p:SaiV)(A:Option Addr)(n cap:Nat)(l:List Don)(wr:Int)(w:World)(hS:SaiR w x p)(hl:Sl ZX 13 w All A n cap l)
  (hP:∀y,QD y=0→∀d∈l,QS d.ask=0→P y d.ask) :
  Calls prog 16 #[.agg (Qa x p),.agg #[.slice A n cap,.int .i64 wr]] w fun e w'=>YM w' w.heap.size (US mk x l wr) (XH mk x l) e∧yw w w':=by
 have an:=yh (fun X h1 h2=>QZa Y HR x p A n cap l wr X h1 h2 hP);obtain⟨R,hR⟩:=yE (US mk x l wr);obtain⟨X,hX⟩:=yE (XH mk x l);rw[←hR,←hX]at an ⊢;have U:=yh hS;have Q:=yh hl;clear hR hX hS hl hP Y HR;obtain⟨AA,nn,af,B,m,ae,D,nd,cd,E,ne,ce,C,nb,cb⟩:=p;go_enter func16,ntmps16;go_upto_region 0 with(fail);go_cut [2,3,4,5] (fun p p2 p3 p4 J=>∃g h z,yp p g∧yp p2 h∧yp p3 z∧p4=.int .i64 0∧w.heap.size≤z∧Blk J g (Qa x ⟨AA,nn,af,B,m,ae,D,nd,cd,E,ne,ce,C,nb,cb⟩) 32∧Blk J h #[.slice A n cap,.int .i64 wr] 39∧Blk J z M9 32∧yw w J)
 case first=>
  clear an U Q;go_wp2_with fail;go_meet;exact⟨_,_,_,rfl,rfl,rfl,rfl,by omega,Vc _ _ _ _,Vd _ _ _ _,Ve _ _ _ _,X0 _ _ _ _⟩
 obtain⟨g,h,z,rfl,rfl,rfl,rfl,hz,hG,hH,W,hb⟩:=hcut;have Z:=yh (an _ (U.bel hb) (Q.bel hb));have al:=W.lt;have ai:=hb.size;go_wp2_with (first|(refine yV (.tmp 2) hG underlying32 ?_)|(refine yV (.tmp 3) hH underlying39 ?_));refine Z.mono ?_;rintro e w2 ⟨ah,ao⟩;have F:=W.bel ao;replace hb:=hb.trans (ao.mono hb.size);clear hG hH W ao Z an U Q;have O:=yh (fun u=>(hb.trans (((yk z w2).setRow (.inl rfl) u).below (B:=w.heap.size) hb.size (fun k hk e=>by omega)):yw w (w2.setRow z u)));rcases ah with⟨ck,I,rfl,rfl,ak,ag,ab,-⟩|⟨V,rfl⟩;rotate_left
 ·have aj:(R !=0)=true:=by simpa using V
  have H0:=yh V;clear V hb;go_wp2_with (refine yX 32 (.tmp 4) (.tmp 16) z (Qa Qf Qg) F ?_);refine yq2 (.tuple #[.agg (Qa Qf Qg),.int .i64 R]) (k:=4) (u:=5) (F.row _) underlying32 ?_;exact⟨⟨Qf,Qg,rfl,(Ul H0 _).symm,Vw _ _ (O _).size⟩,O _⟩
 have aa:Kept (fun k=>k=z) w2 (w2.setRow z (Qa X I)):=(yk z w2).setRow (.inl rfl) _;have ac:=(ab.kept aa (fun k hk e=>by omega)).mono ai;have ad:=yh ac;clear ac;clear hb ab aa;go_wp2_with (first|(refine wpList_load_row rfl 32 (.tmp 20) rfl ck rfl 129 _ (0,0) _ ag underlying32 rfl (by kernel_rfl) ?_)|(refine yX 32 (.tmp 4) (.tmp 21) z (Qa X I) F ?_));refine yq2 (.tuple #[.agg (Qa X I),.int .i64 0]) (k:=4) (u:=5) (F.row _) underlying32 ?_;exact⟨⟨X,I,rfl,(Uf _).symm,ad⟩,O _⟩
def StR (w':World) (base:Nat) (E:Int) (L:List Don) (wr:Int) (N:Ans) (e:Ending):Prop:=∃v xs an,e=.returned (.tuple #[.agg #[v,.int .i64 (okI E wr)],.agg (Qt an),.int .i64 E])∧an=okA E N∧Own ZX 13 106 w' base v (okL E L) xs
noncomputable def Qua (mk:Mk) (X:Sai) (l:List Don) (wr:Int) (q:Ask×Int):List Don×Int×Ans×Int:=
 if q.2≠0 then (l,wr,⟨q.2,0⟩,0)else if l.any (QQ q.1)=true then
  (if (l.getD (UD (QQ q.1) l).toNat default).ask=q.1 then (l,wr,(l.getD (UD (QQ q.1) l).toNat default).ans,0)else (l,wr,⟨6,0⟩,0))
 else if l.length=30 then ([],0,⟨0,0⟩,2)else (l++[⟨q.1,doA mk X q.1⟩],(l.length:Int)+1,doA mk X q.1,0)
noncomputable def XK (mk:Mk) (x:Sai) (l:List Don) (wr:Int) (s:List UInt8):List Don×Int×Ans×Int:=
 if US mk x l wr≠0 then ([],0,⟨0,0⟩,US mk x l wr)else Qua mk (XH mk x l) l wr (Ue s)
theorem Zyc (w:World)(S:Nat→Prop)(d:Don)(t:TypeId)(h:V2a d)(A:S w.heap.size):Sl ZX 13 (w.alloc (.cells (Vk d) t)) S (some ⟨w.heap.size,0,none⟩) 1 1 [d]:=
 Sl.lit1 w S t d (Vk d).toList ⟨rfl,h⟩ A
theorem ULa {P:Sai→Ask→Prop}{mk:Mk}(HM:MadeC P mk)(HR:YN P mk)(x:Sai)(p:SaiV)(A:Option Addr)(n cap:Nat)(l:List Don)(wr:Int)(s:List UInt8)(w:World)(hS:SaiR w x p)(hl:Sl ZX 13 w All A n cap l)
  (hP:∀y,QD y=0→∀d∈l,QS d.ask=0→P y d.ask) (br:∀y,QD y=0→(Ue s).2=0→P y (Ue s).1) (bs:(Ue s).2=0→YB (Ue s).1) (ha:∀y,QD y=0→(Ue s).2=0→InI (doA mk y (Ue s).1).errno∧InI (doA mk y (Ue s).1).owed) :
  Calls prog 53 #[.agg (Qa x p),.agg #[.slice A n cap,.int .i64 wr],.string ⟨s.toArray⟩] w fun e w'=>StR w' w.heap.size (XK mk x l wr s).2.2.2 (XK mk x l wr s).1 (XK mk x l wr s).2.1 (XK mk x l wr s).2.2.1 e∧yw w w':=by
 have a0:=yh (fun X h1 h2=>QZa HM HR x p A n cap l wr X h1 h2 hP);have ar:=yh (fun X=>Qvb s X);obtain⟨R,hR⟩:=yE (US mk x l wr);obtain⟨X,hX⟩:=yE (XH mk x l);obtain⟨V,hV⟩:=yE (XK mk x l wr s);obtain⟨Q,hQ⟩:=yE (Ue s);have HV:=yh (show V=if R≠0 then ([],0,⟨0,0⟩,R)else Qua mk X l wr Q by rw[hV,hR,hX,hQ];rfl)
 have da:=yh (show R=0→n≤30 from fun h=>by
  rw[hR]at h;unfold US at h;rw[←hl.len];by_cases h1:QD x≠0
  ·rw[M3 h1]at h;exact absurd h h1
  rw[M2 h1]at h;by_cases h2:30<l.length
  ·rw[M3 h2]at h;omega
  ·omega)
 rw[←hR,←hX]at a0;rw[←hQ]at ar br bs ha;rw[←hV];have HS:=yh hS;have HL:=yh hl;clear hR hX hV hQ hS hl;obtain⟨AA,nn,cl,B,m,df,D,nd,cd,E,ne,ce,C,nb,cb⟩:=p;go_enter func53,ntmps53;go_upto_region 0 with(fail)
 go_cut [3,4,6,7,8] (fun p p2 p3 p4 p5 I=>∃g h z q,yp p g∧yp p2 h∧yp p3 z∧yp p4 q∧p5=.int .i64 0∧w.heap.size≤z∧w.heap.size≤q∧z≠q∧
  Blk I g (Qa x ⟨AA,nn,cl,B,m,df,D,nd,cd,E,ne,ce,C,nb,cb⟩) 32∧Blk I h #[.slice A n cap,.int .i64 wr] 39∧Blk I z #[.slice none 0 0,.int .i64 0] 39∧Blk I q #[.int .i64 0,.int .i64 0] 55∧yw w I)
 case first=>
  clear a0 ar HV HS HL da;go_wp2_with fail;go_meet;exact⟨_,_,_,_,rfl,rfl,rfl,rfl,rfl,by omega,by omega,by omega,((Blk.new w _ _).old _).old _ |>.old _,((Blk.new1 w _ _ _).old _).old _,(Blk.new2 w _ _ _ _).old _,Blk.new3 w _ _ _ _ _,(X0 _ _ _ _).alloc (by simp;omega) _⟩
 obtain⟨g,h,z,q,rfl,rfl,rfl,rfl,rfl,hz,hq,ag,hG,hH,hZ,hQ,aN⟩:=hcut;obtain⟨W1,rfl⟩:=yE wc;have HT:=yh (fun X (hX:yw W1 X)=>aN.trans (hX.mono aN.size));have HG:=yh (fun X (hX:yw W1 X)=>hG.bel hX);have HH:=yh (fun X (hX:yw W1 X)=>hH.bel hX);have HZ:=yh (fun X (hX:yw W1 X)=>hZ.bel hX);have HQ:=yh (fun X (hX:yw W1 X)=>hQ.bel hX);have ai:=yh (fun X (hX:yw W1 X)=>HL.bel (HT X hX));have cY:=hZ.lt;have cN:=hQ.lt;have cP:=aN.size
 have ah:=yh (show ∀V u u2,yw W1 V→yw w ((V.setRow z u).setRow q u2)from fun V u u2 hX=>
  ((HT V hX).trans ((((yj z q V).setRow (.inl (.inl rfl)) u).setRow (.inl (.inr rfl)) u2).below (B:=w.heap.size) (HT V hX).size (fun k hk e=>by omega))))
 have am:=yh (show ∀(E':Int) V L dd N,¬E'=0→yw W1 V→StR ((V.setRow z #[.slice none 0 0,.int .i64 0]).setRow q #[.int .i64 0,.int .i64 0]) w.heap.size E' L dd N (.returned (.tuple #[.agg #[.slice none 0 0,.int .i64 0],.agg #[.int .i64 0,.int .i64 0],.int .i64 E']))∧yw w ((V.setRow z #[.slice none 0 0,.int .i64 0]).setRow q #[.int .i64 0,.int .i64 0])from fun E' V L dd N h0 hX=>
  ⟨⟨.slice none 0 0,[],⟨0,0⟩,by rw[X2a h0],(Zab h0 _).symm,by rw[Yu h0];exact Own.nil _ _ _ _ _⟩,ah V _ _ hX⟩)
 have HC:=yh (a0 _ (HS.bel aN) (HL.bel aN));have hb:yw W1 W1:=J4 _ _;clear hG hH hZ hQ aN a0 HS;go_wp2_with (first|(refine yV (.tmp 3) (HG _ hb) underlying32 ?_)|(refine yV (.tmp 4) (HH _ hb) underlying39 ?_));refine HC.mono ?_;rintro e w2 ⟨cv,bt⟩;replace hb:=hb.trans (bt.mono hb.size);have cR:=bt.size;clear HC bt;rcases cv with⟨ck,p5,rfl,rfl,cF,bj,bR,b5⟩|⟨h0,rfl⟩;rotate_left
 ·have cD:(R !=0)=true:=by simpa using h0
  have bS:=HV.trans (M3 h0);have aF:=yh bS;have H0:=yh h0;clear h0 bS;have aa:=HZ _ hb;have aj:=HQ _ hb;have Z:=Zd aj (Ne.symm ag) #[.slice none 0 0,.int .i64 0];have ak:=Zd (aa.row #[.slice none 0 0,.int .i64 0]) ag #[.int .i64 0,.int .i64 0];go_wp2_with (first|(refine yX 39 (.tmp 6) (.tmp 23) z #[.slice none 0 0,.int .i64 0] aa ?_)|(refine yX 55 (.tmp 7) (.tmp 24) q #[.int .i64 0,.int .i64 0] Z ?_));refine yq4 (.tuple #[.agg #[.slice none 0 0,.int .i64 0],.agg #[.int .i64 0,.int .i64 0],.int .i64 R]) (k:=6) (l:=7) (u:=8) ak (Z.row #[.int .i64 0,.int .i64 0]) underlying39 underlying55 ?_;rw[aF.out];exact am _ _ _ _ _ H0 hb
 have aF:=yh (HV.trans (M2 (by simp)));have HN:=yh (da rfl);clear HV da;have cG:=bj.lt;have ae:=yh bj;clear bj;have af:=yh bR;clear bR;have an:=yh b5;clear b5;have az:=yh hb;clear hb;go_upto_region 4 with(fail);go_cut [11] (fun p I=>∃o v xs,yp p o∧w2.heap.size≤o∧Blk I o #[v,.int .i64 wr] 39∧Own ZX 13 106 I w2.heap.size v l xs∧some o≠v.ownBlock∧yw w2 I)
 case first=>
  have ab:yw w2 w2.drew:=(J4 _ w2).drew
  have a2:=yh (show ∀X,yw w2 X→(fun w'=>yJ w' h 0 A n cap∧yI w' h 1 wr) X from fun X hX=>by
   have hh:=(HH _ (az.trans (hX.mono az.size)))
   exact⟨hh.cell rfl,hh.cell rfl⟩)
  have cg:=yh (fun X (hX:yw w2 X)=>V0a A n cap l X (ai _ (az.trans (hX.mono az.size))) (by have:=HN.out;omega));clear HT HG HH HZ HQ ai ah am aF HN ae af an az;refine yZ (S:=(fun w'=>yJ w' h 0 A n cap∧yI w' h 1 wr)) (a2 _ ab) fun aw=>?_;refine yT [0,1,3,4] ?_;iterate 4 (refine yS ?_;simp only[yU])
  focus
   refine yr2 2 6 (fun K k2=>?_) (fun K k6=>?_)
   repeat first
    |
     revert k2
     intro hK;go_simp
     (go_at_call 74;refine(cg _ ab).mono ?_;rintro e w6 ⟨v,xs,rfl,hO,ad⟩;obtain⟨J,n5,F,rfl,-⟩:=hO.sl Qp;(try replace hL:=fun g hg=>(hL g hg).bel ad);have cy:=ab.size;replace ab:=ab.trans (ad.mono ab.size);clear ad)
     go_wp2_with fail;refine hK.out _ _ (a2 _ ab) fun aw=>?_;clear hK K
     try simp only[yU]
     refine yT [5] ?_;iterate 1 (refine yS ?_;simp only[yU])
     first
      | refine yt1 6 (fun K k6=>?_)
      | rotate_left
    |
     revert k6
     intro hK;go_simp;refine hK.out _ _ (a2 _ (ab.alloc ab.size (.cells #[.slice none 0 0,.int .i64 0] 39))) fun aw=>?_;clear hK K
     try simp only[yU]
     (have hL:=ZG ab #[.slice none 0 0,.int .i64 0] 39;have bw:=Xz ab;replace ab:=ab.alloc ab.size (.cells #[.slice none 0 0,.int .i64 0] 39))
     first
      | refine yt1 2 (fun K k2=>?_)
      | rotate_left
   all_goals
    refine yR 7 fun K hK=>?_
    (refine wp_store_row 39 (.tmp 11) (.tmp 31) rfl _ #[.slice J n5 F,.int .i64 wr] rfl rfl 39 _ (hL _ (by simp)) (by kernel_rfl) rfl (by simp[Value.oneCell']) ?_)
    refine hK.out _ _ (a2 _ (M5 ab (bw _ (by simp)) _)) fun aw=>?_;clear hK K
    try simp only[yU]
    refine yD ?_;go_wp2_with fail;go_meet;refine⟨_,_,xs,rfl,bw _ (by simp),(hL _ (by simp)).row _,?_,?_,M5 ab (bw _ (by simp)) _⟩
    ·first
      | exact(hO.keepB Zy (fun j hj=>((Kept.refl (fun k=>k=w2.heap.size) w6).setRow (.inl rfl) _).block j (hO.lt j hj).2 (by have:=(hO.lt j hj).1;simp at this;omega))).mono Qp (by simp)
      | exact(hO.keepB Zy (fun j hj=>(((Kept.refl (fun k=>k=w6.heap.size) w6).alloc _).setRow (.inl rfl) _).block j (hO.lt j hj).2 (by have:=(hO.lt j hj).2;omega))).mono Qp (by simp)
    ·intro hj;have:=hO.lt _ hj.symm;simp at this
     try omega
 obtain⟨o,v,xs,rfl,ho,bm,bp,cM,aW⟩:=hcut;obtain⟨J,n5,F,rfl,-⟩:=bp.sl Qp;obtain⟨W3,rfl⟩:=yE wc;have cS:=aW.size;have aY:=yh (az.trans (aW.mono az.size));have a9:=yh (fun X (hX:yw W3 X)=>bm.bel hX);have bc:=yh (fun X (hX:yw W3 X)=>bp.bel hX);have ae:=yh (ae.bel aW);have af:=yh (af.bel aW);have cJ:=bm.lt;clear az aW bm bp;go_upto_region 5 with(fail);go_cut [12,10] (fun p r I=>r=.int .i64 Q.2∧∃c,yp p c∧W3.heap.size≤c∧Blk I c (QY Q.1) 53∧yw W3 I)
 case first=>
  clear HT HG HH HZ HQ ai ah am aF HN ae af an aY a9 bc;go_wp2_with fail;refine yM (ar _) fun w4 ac=>?_;have c5:=yh ac;have b7:=ac.size;clear ac;go_wp2_with (refine wpList_store_row rfl 53 (.tmp 12) (.tmp 35) rfl w4.heap.size (QY Q.1) rfl rfl 53 _ (Blk.new w4 M7 53) (by kernel_rfl) rfl (by simp[QY,Value.oneCell']) ?_);go_meet;exact⟨rfl,_,rfl,b7,(Blk.new w4 _ _).row _,c5.trans ((M5 (Qi w4 _) (J5 _) _).mono c5.size)⟩
 obtain⟨rfl,c,rfl,hc,hC,ac⟩:=hcut;obtain⟨W4,rfl⟩:=yE wc;have b7:=ac.size;have au:=yh (fun X (hX:yw W4 X)=>a9 X (ac.trans (hX.mono ac.size)));have ao:=yh (fun X (hX:yw W4 X)=>bc X (ac.trans (hX.mono ac.size)));have al:=yh (fun X (hX:yw W4 X)=>hC.bel hX);have c5:=yh (fun X (hX:yw W4 X)=>aY.trans ((ac.trans (hX.mono ac.size)).mono aY.size));have ae:=yh (ae.bel ac);have af:=yh (af.bel ac);have bu:=hC.lt;clear a9 bc hC aY ac;have cQ:W1.heap.size≤W4.heap.size:=(c5 _ (J4 _ _)).size
 have av:=yh (show ∀U (N:Ans),yw W4 U→StR ((U.setRow z #[.slice J n5 F,.int .i64 wr]).setRow q (Qt N)) w.heap.size 0 l wr N (.returned (.tuple #[.agg #[.slice J n5 F,.int .i64 wr],.agg (Qt N),.int .i64 0]))∧yw w ((U.setRow z #[.slice J n5 F,.int .i64 wr]).setRow q (Qt N))from fun U N hU=>by
  have hb:=c5 U hU;have hO:=ao U hU;have hK:=(((yj z q U).setRow (.inl (.inl rfl)) #[.slice J n5 F,.int .i64 wr]).setRow (.inl (.inr rfl)) (Qt N));have cE:=hU.size;have cX:=c5 _ (J4 _ _)
  exact⟨⟨.slice J n5 F,xs,N,by rw[Zv],(Zba _).symm,by rw[QR];exact(hO.keepB Zy (fun j hj=>hK.block j (hO.lt j hj).2 (by have:=(hO.lt j hj).1;omega))).mono Qp (by omega)⟩,ah U _ _ hb⟩)
 by_cases e0:Q.2=0;rotate_left
 ·have e1:(Q.2 !=0)=true:=by simpa using e0
  have bT:V=(l,wr,⟨Q.2,0⟩,0):=by rw[aF.out];unfold Qua;rw[M3 e0]
  have aG:=yh bT;clear bT e0;have hb:=c5 _ (J4 _ _);have aX:=au _ (J4 _ _);have aa:=HZ _ hb;have aj:=HQ _ hb;have Z:=Zd aj (Ne.symm ag) #[.slice J n5 F,.int .i64 wr];have ak:=Zd (aa.row #[.slice J n5 F,.int .i64 wr]) ag #[.int .i64 Q.2,.int .i64 0];go_wp2_with (first|(refine yV (.tmp 11) aX underlying39 ?_)|(refine yX 39 (.tmp 6) (.tmp 39) z #[.slice J n5 F,.int .i64 wr] aa ?_)|(refine yX 55 (.tmp 7) (.tmp 41) q #[.int .i64 Q.2,.int .i64 0] Z ?_));refine yq4 (.tuple #[.agg #[.slice J n5 F,.int .i64 wr],.agg #[.int .i64 Q.2,.int .i64 0],.int .i64 0]) (k:=6) (l:=7) (u:=8) ak (Z.row #[.int .i64 Q.2,.int .i64 0]) underlying39 underlying55 ?_;rw[aG.out];exact av _ ⟨Q.2,0⟩ (J4 _ _)
 have aG:=yh (show V=if l.any (QQ Q.1)=true then (if (l.getD (UD (QQ Q.1) l).toNat default).ask=Q.1 then (l,wr,(l.getD (UD (QQ Q.1) l).toNat default).ans,0)else (l,wr,⟨6,0⟩,0))else if l.length=30 then ([],0,⟨0,0⟩,2)else (l++[⟨Q.1,doA mk X Q.1⟩],(l.length:Int)+1,doA mk X Q.1,0)by rw[aF.out];unfold Qua;rw[M2 (fun c=>c e0)]);have aE:=yh (br X an e0);have ay:=yh (bs e0);have aD:=yh (ha X an e0);have aK:=yh e0;have h0:yJ W4 h 0 A n cap:=(HH _ (c5 _ (J4 _ _))).cell rfl;have bk:=(Qla A n cap l 135 #[.pointer (some ⟨c,0,none⟩)] (QQ Q.1) W4 (ai _ (c5 _ (J4 _ _))) (enters_of func135 (by kernel_rfl) rfl) (fun x2 w8 _ c9=>Vyb x2 Q.1.number c w8 ((al _ c9).cell rfl)))
 have q1:(Q.2 !=0)=false:=by simpa using e0
 have bz:=VH (p:=QQ Q.1) (l:=l);obtain⟨ix,bA⟩:=yE (UD (QQ Q.1) l);rw[←bA]at bz aG bk;have bI:=yh bk;have a7:=yh bz;have aQ:=yh bA;clear aF br bs ha e0 bk bz bA;go_wp2_with fail;refine yM bI fun w6 ad=>?_;clear bI h0 q1;have cy:=ad.size;have h0:yJ w6 h 0 A n cap:=(HH _ (c5 _ ad)).cell rfl;by_cases hf:l.any (QQ Q.1)=true
 ·have b0:0≤ix:=by have:=a7.out;rw[hf]at this;exact of_decide_eq_true this
  have bV:=Yp (p:=QQ Q.1) (l:=l) (by have:=HN.out;have:=HL.len;omega);rw[←aQ.out]at bV;obtain⟨k,rfl⟩:=Int.eq_ofNat_of_zero_le b0
  have b1:k<n:=by
   have h1:=HL.len;have h2:=aQ.out;unfold UD at h2;rw[hf]at h2;have h3:l.findIdx (QQ Q.1)<l.length:=List.findIdx_lt_length.2 (List.any_eq_true.1 hf);simp at h2;omega
  obtain⟨ba,aO,d,rfl,hx,hi,bu⟩:=(ai _ (c5 _ ad)).don b1;obtain⟨d0,d1,d2,d3,d4,d5,d6,d7,d8,d9,cm,aR,aS⟩:=Q0a bu;obtain⟨c0,c1,c2,c3,c4,F,c6,c7,c8,O,cj⟩:=AskAt.all (show AskAt w6 c Q.1 from al _ ad)
  have bZ:l.getD (k:Int).toNat default=d:=by rw[Int.toNat_natCast,J7,hx];rfl
  have ap:=yh (aG.trans (M3 hf));rw[bZ]at ap;have bC:=fun W=>XQa d.ask Q.1 W;simp only[QY]at bC;obtain⟨tv,bD⟩:=yE (UBb d.ask Q.1);rw[←bD]at bC;have be:=yh bD;clear bD;have cr:decide (0≤(k:Int))=true:=J2 (by omega);have cH:decide ((k:Int)<0)=false:=J3 (by omega);have cI:decide ((k:Int)<(n:Int))=true:=J2 (by omega);clear b0 bV hx hi bu bZ a7 aQ aG hf;go_upto_region 9 with(fail);go_cut [46] (fun p I=>p=.bool tv∧yw w6 I)
  case first=>
   clear HT HG HH HZ HQ ai ah am HN ae af an av au ao al c5 ap aE ay aD aK ar;go_quiet (fail);go_wp2_with fail;go_meet;exact⟨rfl,below_drewN (J4 _ w6) _⟩
  obtain⟨rfl,aJ⟩:=hcut;obtain⟨W7,rfl⟩:=yE wc;have c9:=ad.trans (aJ.mono ad.size);replace aR:=Qh aJ aR;replace aS:=Qh aJ aS;have hb:=c5 _ c9;have aX:=au _ c9;clear ad aJ h0 d0 d1 d2 d3 d4 d5 d6 d7 d8 d9 cm c0 c1 c2 c3 c4 F c6 c7 c8 O cj bC;cases tv
  ·have aV:V=(l,wr,⟨6,0⟩,0):=ap.trans (M2 (of_decide_eq_false be.out.symm));have aq:=yh aV;clear aV aR aS;have aa:=HZ _ hb;have aj:=HQ _ hb;have Z:=Zd aj (Ne.symm ag) #[.slice J n5 F,.int .i64 wr];have ak:=Zd (aa.row #[.slice J n5 F,.int .i64 wr]) ag #[.int .i64 6,.int .i64 0];go_wp2_with (first|(refine yV (.tmp 11) aX underlying39 ?_)|(refine yX 39 (.tmp 6) (.tmp 69) z #[.slice J n5 F,.int .i64 wr] aa ?_)|(refine yX 55 (.tmp 7) (.tmp 70) q #[.int .i64 6,.int .i64 0] Z ?_));refine yq4 (.tuple #[.agg #[.slice J n5 F,.int .i64 wr],.agg #[.int .i64 6,.int .i64 0],.int .i64 0]) (k:=6) (l:=7) (u:=8) ak (Z.row #[.int .i64 6,.int .i64 0]) underlying39 underlying55 ?_;rw[aq.out];exact av _ ⟨6,0⟩ c9
  have aV:V=(l,wr,d.ans,0):=ap.trans (M3 (of_decide_eq_true be.out.symm));have aq:=yh aV;have aC:=HH _ hb;have bx:h≠z∧h≠q:=⟨fun e=>by subst e;have h1:=HZ _ hb;rw[show Blk W7 h _ _=(W7.heap[h]? = _)from rfl]at h1 aC;rw[h1]at aC;simp at aC,fun e=>by subst e;have h1:=HQ _ hb;rw[show Blk W7 h _ _=(W7.heap[h]? = _)from rfl]at h1 aC;rw[h1]at aC;simp at aC⟩
  have cp:ba<w.heap.size:=by
   obtain⟨b2,o2,x2,cn,-,-,cq⟩:=HL.don b1;have h1:=ZT (Q0a cq).1;injection cn with hA3;injection hA3 with hA4;omega
  have HK:=yh (show ∀X,Kept (fun j=>j=z∨j=q) W7 X→(fun w'=>yJ w' o 0 J n5 F∧yI w' o 1 wr∧yJ w' h 0 (some ⟨ba,aO,none⟩) n cap∧yI w' ba (aO+k*13+11) d.ans.errno∧yI w' ba (aO+k*13+12) d.ans.owed) X from fun X hX=>by
   have hg:=aX.kept hX (by omega);have hn:=aC.kept hX (by rintro(e|e);exact bx.1 e;exact bx.2 e)
   exact⟨hg.cell rfl,hg.cell rfl,hn.cell rfl,Z2a hX (show ¬(ba=z∨ba=q)by omega) aR,Z2a hX (show ¬(ba=z∨ba=q)by omega) aS⟩)
  have aB:=hb.drew;have aa:=HZ _ aB;have aj:=HQ _ aB;have Z:=Zd aj (Ne.symm ag) #[.slice J n5 F,.int .i64 wr];have ak:=Zd (aa.row #[.slice J n5 F,.int .i64 wr]) ag (Qt d.ans);have bd:=yh (av W7.drew d.ans c9.drew);have ax:=yj z q W7;go_upto_region 10 with(fail);clear HT HG HH HZ HQ ai ah am HN ae af an av au ao al c5 ap aE ay aD aK ar aV aR aS aC bx aX hb aB cr cp be;refine yZ (S:=(fun w'=>yJ w' o 0 J n5 F∧yI w' o 1 wr∧yJ w' h 0 (some ⟨ba,aO,none⟩) n cap∧yI w' ba (aO+k*13+11) d.ans.errno∧yI w' ba (aO+k*13+12) d.ans.owed)) (HK _ ax.drew) fun aw=>?_;refine yT [0,1,2,3,4,5,6] ?_;iterate 7 (refine yS ?_;simp only[yU])
  refine yR 7 fun K hK=>?_
  (refine yY 39 (.tmp 6) (.tmp 59) _ #[.slice J n5 F,.int .i64 wr] aa ?_)
  refine hK.out _ _ (HK _ (ax.drew.setRow (.inl (.inl rfl)) _)) fun aw=>?_;clear hK K
  try simp only[yU]
  refine yR 8 fun K hK=>?_
  (refine yY 55 (.tmp 7) (.tmp 65) _ (Qt d.ans) Z ?_)
  refine hK.out _ _ (HK _ ((ax.drew.setRow (.inl (.inl rfl)) _).setRow (.inl (.inr rfl)) _)) fun aw=>?_;clear hK K
  try simp only[yU]
  refine yT [9] ?_;iterate 1 (refine yS ?_;simp only[yU])
  refine yD ?_;clear HK ax;go_wp2_with fail;refine yq4 (.tuple #[.agg #[.slice J n5 F,.int .i64 wr],.agg (Qt d.ans),.int .i64 0]) (k:=6) (l:=7) (u:=8) ak (Z.row (Qt d.ans)) underlying39 underlying55 ?_;rw[aq.out];exact bd
 have bY:l.any (QQ Q.1)=false:=by cases hq:l.any (QQ Q.1);rfl;exact absurd hq hf
 obtain rfl:ix=-1:=by rw[aQ.out];exact ZK bY
 have ap:=yh (aG.trans (M2 hf));clear aQ a7 aG hf bY;go_upto_region 9 with(fail);go_cut [46] (fun p I=>p=.bool false∧yw w6 I)
 case first=>
  clear HT HG HH HZ HQ ai ah am HN ae af an av au ao al c5 ap aE ay aD aK ar;go_quiet (fail);go_wp2_with fail;go_meet;exact⟨rfl,below_drewN (J4 _ w6) _⟩
 obtain⟨rfl,aJ⟩:=hcut;obtain⟨W7,rfl⟩:=yE wc;have c9:=ad.trans (aJ.mono ad.size);clear ad aJ h0;have cT:=c9.size;have h0:yJ W7 h 0 A n cap:=(HH _ (c5 _ c9)).cell rfl;by_cases q30:n=30
 ·have cc:((n:Int)==30)=true:=by rw[q30];rfl
  have aq:=yh (ap.trans (M3 (by rw[HL.out.len];exact q30)));have hb:=c5 _ c9;have aa:=HZ _ hb;have aj:=HQ _ hb;have Z:=Zd aj (Ne.symm ag) #[.slice none 0 0,.int .i64 0];have ak:=Zd (aa.row #[.slice none 0 0,.int .i64 0]) ag #[.int .i64 0,.int .i64 0];clear q30;go_wp2_with (first|(refine yX 39 (.tmp 6) (.tmp 76) z #[.slice none 0 0,.int .i64 0] aa ?_)|(refine yX 55 (.tmp 7) (.tmp 77) q #[.int .i64 0,.int .i64 0] Z ?_));refine yq4 (.tuple #[.agg #[.slice none 0 0,.int .i64 0],.agg #[.int .i64 0,.int .i64 0],.int .i64 2]) (k:=6) (l:=7) (u:=8) ak (Z.row #[.int .i64 0,.int .i64 0]) underlying39 underlying55 ?_;rw[aq.out];exact am _ _ _ _ _ (by decide) hb
 have cc:((n:Int)==30)=false:=by
  have:¬(n:Int)=30:=by omega
  simpa using this
 have aq:=yh (ap.trans (M2 (by rw[HL.out.len];exact q30)));clear ap q30;have bX:=al _ c9;have bi:=QQb HM HR X p5 Q.1 ck W1.heap.size W7 (af.bel c9) (by have:=(c5 _ c9).size;omega) (ae.bel c9) aE ay.2.2.1;obtain⟨AN,bf⟩:=yE (doA mk X Q.1);rw[←bf]at bi aq;have a6:=yh bf;clear bf;have bH:=yh bi;clear bi;go_upto_region 15 with(fail);go_cut [14] (fun p I=>∃r,yp p r∧W7.heap.size≤r∧Blk I r (Qt AN) 55∧Kept (fun k=>k=ck) W7 I)
 case first=>
  clear HT HG HH HZ HQ ai ah am HN ae af an av au ao al c5 aq aE ay aD aK ar;go_wp2_with (refine yV (.tmp 12) bX underlying53 ?_);refine bH.mono ?_;rintro e w9 ⟨rfl,-,aA⟩;have bJ:=yh aA;clear aA;go_wp2_with fail;go_meet;exact⟨_,rfl,bJ.size,Blk.new w9 _ _,bJ.alloc _⟩
 obtain⟨r,rfl,hr,a3,aM⟩:=hcut;obtain⟨Y,rfl⟩:=yE wc;have aU:=(au _ c9).kept aM (by omega);have bq:=(ao _ c9).keepB Zy (fun j hj=>aM.block j ((ao _ c9).lt j hj).2 (by have:=((ao _ c9).lt j hj).1;omega));have bh:=(al _ c9).kept aM (by omega);clear bH h0 cc bX;obtain⟨x0,x1,x2,x3,x4,x5,x6,x7,x8,x9,de⟩:=AskAt.all (show AskAt Y c Q.1 from bh);have o0:yJ Y o 0 J n5 F:=aU.cell rfl;have r0:yI Y r 0 AN.errno:=a3.cell rfl;have r1:yI Y r 1 AN.owed:=a3.cell rfl;have bg:=aD.out;rw[←a6.out]at bg;have bP:V2a ⟨Q.1,AN⟩:=⟨ay,bg⟩;have ct:=HL.len;have cu:=HN.out;have a1:=yh (bq.below Qp (Qi Y (.cells (Vk ⟨Q.1,AN⟩) 106)));have cU:=aM.size;have bK:=yh (Zyc Y All ⟨Q.1,AN⟩ 106 bP trivial)
 have bW:(l.length+1)*104≤140737488355328:=by omega
 have cx:w2.heap.size≤Y.heap.size:=by omega
 have b9:w2.heap.size≤(Y.alloc (.cells (Vk ⟨Q.1,AN⟩) 106)).heap.size:=Nat.le_trans cx (by simp);have bG:=yh bh;have aP:=yh a3;have a8:=yh aU;have cA:=aU.free 0;clear x0 x1 x2 x3 x4 x5 x6 x7 x8 x9 de r0 r1 bh bg bP;have b4:∀s,(Value.slice J n5 F).ownBlock=some s→s≠o:=fun s hs e=>bq.neTy aU (by decide) (by rw[hs,e]);have cK:=aU.lt
 have b6:r≠o:=by omega
 have bL:=yh b4;clear b4 bq a3;go_upto_region 16 with(fail);go_cut [] (fun I=>∃A9 n9 O xs,n9=l.length+1∧Own ZX 13 106 I w2.heap.size (.slice A9 n9 O) (l++[⟨Q.1,AN⟩]) xs∧Blk I o #[.slice A9 n9 O,.int .i64 wr] 39∧Blk I r (Qt AN) 55∧Kept (fun j=>j=o∨w2.heap.size≤j) Y I)
 case first=>
  clear HT HG HH HZ HQ ai ah am HN ae af an av au ao al c5 aq aE ay aD aK ar a6 HL ct cu;obtain⟨x0,x1,x2,x3,x4,x5,x6,x7,x8,x9,de⟩:=AskAt.all (show AskAt Y c Q.1 from bG);have o0:yJ Y o 0 J n5 F:=a8.cell rfl;have r0:yI Y r 0 AN.errno:=aP.cell rfl;have r1:yI Y r 1 AN.owed:=aP.cell rfl;go_wp2_with (at_builtin;refine QC (t:=37) (e:=106) (bytes:=104) rfl (.tmp 82) (.tmp 86) rfl Q1a Qp rfl a1 rfl bK (fun _ _ hc=>hc) bW (by omega) b9 ?_;intro v' w' cC bB bv co;obtain⟨A9,n9,O,cz,b8⟩:=bB.sl Qp;subst cz;have bb:=yh (show(l++[(⟨Q.1,AN⟩:Don)]).length=n9 from b8.len);clear b8;have bN:=yh bB;have aL:=yh bv;have aZ:=yh ((a8.bel (Qi Y (.cells (Vk ⟨Q.1,AN⟩) 106))).grown bv (fun e=>bL o e.symm rfl));have m9:yJ w' o 0 J n5 F:=aZ.cell (j:=0) rfl;have f9:=aZ.free 0;clear bB bv co);go_meet;have aA:Kept (fun j=>j=o∨w2.heap.size≤j) (Y.alloc (.cells (Vk ⟨Q.1,AN⟩) 106)) w':=⟨aL.os,aL.tape,aL.output,aL.size,fun j hj hn=>aL.block j hj (fun e=>hn (.inr (a1.lt j e.symm).1))⟩;have a4:∀s,(Value.slice A9 n9 O).ownBlock=some s→s≠o:=fun s hs e=>bN.neTy aZ (by decide) (by rw[hs,e]);have cw:=(aP.bel (Qi Y (.cells (Vk ⟨Q.1,AN⟩) 106))).grown aL (fun e=>a1.neTy (aP.bel (Qi Y (.cells (Vk ⟨Q.1,AN⟩) 106))) (by decide) e.symm);have db:=VX w' o [(0,.slice A9 n9 O)];refine⟨A9,n9,O,cC,by rw[←bb.out,J9];rfl,ZM Zy bN (a:=⟨o,0,none⟩) (fun e=>a4 o e rfl) _,aZ.set (j:=0) _,cw.kept db b6,((Kept.refl (fun j=>j=o∨w2.heap.size≤j) Y).alloc _).trans (aA.trans (db.mono fun j _ e=>.inl e))⟩
 obtain⟨A9,n9,O,bE,b3,bo,aI,bO,aA⟩:=hcut;obtain⟨W9,rfl⟩:=yE wc;have o0:yJ W9 o 0 A9 n9 O:=aI.cell rfl;have o1:yI W9 o 1 wr:=aI.cell rfl;have cB:=aI.free 1;have cV:=aA.size;have bU:yw W1 W9:=((c5 _ c9).trans (aM.below (B:=W1.heap.size) (c5 _ c9).size (fun j hj e=>by omega))).trans (aA.below (B:=W1.heap.size) (by have:=(c5 _ c9).size;omega) (fun j hj e=>by omega));have cL:=aI.lt;have a4:∀s,(Value.slice A9 n9 O).ownBlock=some s→s≠o:=fun s hs e=>bo.neTy aI (by decide) (by rw[hs,e]);have ch:=yh aI;have cf:=yh bO;have bM:=yh bo;clear bo;have bF:=yh bU;have ci:=yh a4;have bb:=yh b3;clear aI bO aA aM c9 bU a4 cA bW b9 b3 a1 bK bG aP a8 bL;go_upto_region 17 with(fail);go_cut [] (fun I=>Blk I o #[.slice A9 n9 O,.int .i64 (n9:Int)] 39∧Kept (fun j=>j=o) W9 I)
 case first=>as_aux_lemma=>
  go_wp2_with fail;go_meet;exact⟨ch.set (j:=1) _,VX W9 o [(1,.int .i64 (n9:Int))]⟩
 obtain⟨bl,aT⟩:=hcut;obtain⟨aH,rfl⟩:=yE wc;have cW:=aT.size;have a5:=cf.kept aT b6;have bQ:Own ZX 13 106 aH w2.heap.size (.slice A9 n9 O) (l++[⟨Q.1,AN⟩]) bE:=bM.keepB Zy (fun j hj=>aT.block j (bM.lt j hj).2 (ci j hj));have hb:=bF.trans (aT.below (B:=W1.heap.size) bF.size (fun j hj e=>by omega));have cO:=a5.lt
 have ca:¬(o=z∨o=q):=by omega
 have dc:¬(r=z∨r=q):=by omega
 have HK:=yh (show ∀X,Kept (fun j=>j=z∨j=q) aH X→(fun w'=>yJ w' o 0 A9 n9 O∧yI w' o 1 (n9:Int)∧yI w' r 0 AN.errno∧yI w' r 1 AN.owed) X from fun X hX=>
  ⟨(bl.kept hX ca).cell rfl,(bl.kept hX ca).cell rfl,(a5.kept hX dc).cell rfl,(a5.kept hX dc).cell rfl⟩)
 have aB:=hb.drew;have aa:=HZ _ aB;have aj:=HQ _ aB;have Z:=Zd aj (Ne.symm ag) #[.slice A9 n9 O,.int .i64 (n9:Int)];have ak:=Zd (aa.row #[.slice A9 n9 O,.int .i64 (n9:Int)]) ag (Qt AN)
 have bd:=yh (show StR ((aH.drew.setRow z #[.slice A9 n9 O,.int .i64 (n9:Int)]).setRow q (Qt AN)) w.heap.size 0 (l++[⟨Q.1,AN⟩]) ((l.length:Int)+1) AN (.returned (.tuple #[.agg #[.slice A9 n9 O,.int .i64 (n9:Int)],.agg (Qt AN),.int .i64 0]))∧yw w ((aH.drew.setRow z #[.slice A9 n9 O,.int .i64 (n9:Int)]).setRow q (Qt AN))from by
  have hK:=(((yj z q aH.drew).setRow (.inl (.inl rfl)) #[.slice A9 n9 O,.int .i64 (n9:Int)]).setRow (.inl (.inr rfl)) (Qt AN));have bn:Own ZX 13 106 aH.drew w2.heap.size (.slice A9 n9 O) (l++[⟨Q.1,AN⟩]) bE:=bQ.keepB Zy (fun _ _=>rfl)
  exact⟨⟨.slice A9 n9 O,bE,AN,by rw[Zv,bb.out];rfl,(Zba _).symm,by rw[QR];exact(bn.keepB Zy (fun j hj=>hK.block j (bn.lt j hj).2 (by have:=(bn.lt j hj).1;omega))).mono Qp (by omega)⟩,ah _ _ _ aB⟩)
 have ax:=yj z q aH;clear bl aT a5 bQ hb aB o0 o1 cB;go_upto_region 18 with(fail);clear HT HG HH HZ HQ ai ah am HN ae af an av au ao al c5 aE ay aD aK ar a6 HL;refine yZ (S:=(fun w'=>yJ w' o 0 A9 n9 O∧yI w' o 1 (n9:Int)∧yI w' r 0 AN.errno∧yI w' r 1 AN.owed)) (HK _ ax.drew) fun aw=>?_;refine yT [0,1] ?_;iterate 2 (refine yS ?_;simp only[yU])
 refine yR 2 fun K hK=>?_
 (refine yY 39 (.tmp 6) (.tmp 93) _ #[.slice A9 n9 O,.int .i64 (n9:Int)] aa ?_)
 refine hK.out _ _ (HK _ (ax.drew.setRow (.inl (.inl rfl)) _)) fun aw=>?_;clear hK K
 try simp only[yU]
 refine yR 3 fun K hK=>?_
 (refine yY 55 (.tmp 7) (.tmp 94) _ (Qt AN) Z ?_)
 refine hK.out _ _ (HK _ ((ax.drew.setRow (.inl (.inl rfl)) _).setRow (.inl (.inr rfl)) _)) fun aw=>?_;clear hK K
 try simp only[yU]
 refine yT [4] ?_;iterate 1 (refine yS ?_;simp only[yU])
 refine yD ?_;clear HK ax;go_wp2_with fail;refine yq4 (.tuple #[.agg #[.slice A9 n9 O,.int .i64 (n9:Int)],.agg (Qt AN),.int .i64 0]) (k:=6) (l:=7) (u:=8) ak (Z.row (Qt AN)) underlying39 underlying55 ?_;rw[aq.out];exact bd
def Qrb (x:Sai) (a:Ask):Prop:=a.kind=1∧BkIn (Zr x a)
theorem Vla:YN Qrb mkN:=fun x a _ h=>(Vra (x:=x) (b:=Zr x a) (k:=1) h).2.2.2
def Qs:Sai:=⟨Z0,VP,2,40,[],false⟩
def VF:Ask:=⟨1,1,5,2,true,1,0,0,2,0,0⟩
def Z3:Ans:=⟨0,800⟩
def YG:Don:=⟨VF,Z3⟩
def bk5:Bkg:=⟨5,1,2,2,true,1,0,0,2,0,[]⟩
def YR:Bkg:=⟨5,1,2,2,true,1,0,0,2,0,[⟨2,1,800⟩]⟩
theorem UUb (c:Int):ZZ Qs.bks c=true:=(XW (show spF (spL Qs.bks c)=some []from rfl)).1
theorem YXa:UB 0 []=true:=Y6 ⟨[],⟨by decide,by decide,by decide⟩,rfl⟩
theorem QUb:QX Qs=0:=by
 unfold QX
 rw[M2 (by
  unfold Um;simp only[List.any_eq_true,not_exists,not_and,List.mem_range];intro c A
  rw[UUb];simp),show QU Qs.bks Qs.ship.legs.toNat=[0,0,0]by decide,M2 (by decide),show UC Qs=[]from rfl,show Zl Qs=[]from rfl,show([]:List Int).length=0 from rfl,YXa]
 rfl
theorem Ura:QD Qs=0:=by
 unfold QD
 rw[show Z9 Qs.ship=0 from YCb,M2 (by simp),show ZI Qs.fares Qs.ship.cats.length Qs.ship.legs=0 by decide,M2 (by simp),M2 (by decide),show Xy Qs=0 by
  unfold Xy;rw[M2 (by decide),show Qn (Vb Qs) Qs.bks.length=0 from rfl,M2 (by simp)]
  rfl,M2 (by simp),QUb]
 rfl
theorem VYb:Zr Qs VF=bk5:=by kernel_rfl
theorem QUc:U7 Qs bk5={ Qs with bks:=[YR] }:=by kernel_rfl
theorem Yfb (c:Nat)(A:c<3):ZZ [YR] (c:Int)=true:=by
 rcases c with _|_|_|c
 ·exact(XW (show spF (spL [YR] 0)=some []by decide)).1
 ·exact(XW (show spF (spL [YR] 1)=some [⟨0,2⟩]by decide)).1
 ·exact(XW (show spF (spL [YR] 2)=some []by decide)).1
 ·omega
theorem Vsb:QX { Qs with bks:=[YR] } = 0:=by
 unfold QX
 rw[M2 (by
  unfold Um;simp only[List.any_eq_true,not_exists,not_and,List.mem_range];intro c A
  rw[Yfb c A];simp),show QU ({ Qs with bks:=[YR] } : Sai).bks ({ Qs with bks:=[YR] } : Sai).ship.legs.toNat=[2,2,0]by decide,M2 (by decide),show UC { Qs with bks:=[YR] } = []by decide,show Zl { Qs with bks:=[YR] } = []by decide,show([]:List Int).length=0 from rfl,YXa]
 rfl
theorem ZIc:U6 Qs bk5 1=0:=by
 unfold U6 ZPa VSa;rw[Ura,M2 (by simp),M2 (by decide),M2 (by decide),show ofE Qs.ship bk5=0 by decide,M2 (by simp),M2 (by decide),M2 (by decide),M2 (by decide),show Q4 Qs (UU Qs bk5)={ Qs with bks:=[YR] }from QUc,Vsb]
theorem QXc:mkN.e Qs VF=0:=by show U6 Qs (Zr Qs VF) 1=0;rw[VYb,ZIc]
theorem QYc:mkN.x Qs VF={ Qs with bks:=[YR] }:=by show U7 Qs (Zr Qs VF)=_;rw[VYb,QUc]
theorem QVc:doX mkN Qs VF={ Qs with bks:=[YR] }:=by unfold doX;rw[M3 QXc,QYc]
theorem V8b:doA mkN Qs VF=Z3:=by
 unfold doA;rw[M3 QXc,QYc]
 kernel_rfl
theorem YUb:ZWb Qs VF=0:=by unfold ZWb;rw[Ura,M2 (by simp)];decide
theorem ZUb:QS VF=0:=by decide
theorem YBa:Ue (YGa VF)=(VF,0):=by kernel_rfl
theorem Qkc:US mkN Qs [] 0=0:=by unfold US;rw[Ura,M2 (by simp),M2 (by decide),M2 (by decide)];rfl
theorem Qlc:XH mkN Qs []=Qs:=rfl
theorem Uqc:opn mkN Qs [] [YG]=({ Qs with bks:=[YR] },0):=by
 unfold opn;rw[M2 (by rw[show YG.ask=VF from rfl,ZUb];simp),M2 (by decide),show YG.ask=VF from rfl,show YG.ans=Z3 from rfl,M3 V8b,QVc]
 rfl
theorem Udb:US mkN Qs [YG] 1=0:=by unfold US;rw[Ura,M2 (by simp),M2 (by decide),M2 (by decide),Uqc]
theorem Ueb:XH mkN Qs [YG]={ Qs with bks:=[YR] }:=by unfold XH;rw[Uqc]
theorem Utc:XK mkN Qs [] 0 (YGa VF)=([YG],1,Z3,0):=by
 unfold XK;rw[M2 (by rw[Qkc];simp),Qlc,YBa];unfold Qua;rw[M2 (by simp),M2 (by simp),M2 (by simp),show doA mkN Qs VF=Z3 from V8b]
 rfl
theorem Uuc:XK mkN Qs [YG] 1 (YGa VF)=([YG],1,Z3,0):=by
 unfold XK;rw[M2 (by rw[Udb];simp),Ueb,YBa];unfold Qua;rw[M2 (by simp),M3 (by decide)]
 rfl
theorem XPa:YB VF:=by unfold YB;refine⟨.of ?_ ?_,.of ?_ ?_,.of ?_ ?_,.of ?_ ?_,.of ?_ ?_,.of ?_ ?_,.of ?_ ?_,.of ?_ ?_,.of ?_ ?_,.of ?_ ?_⟩<;>decide
theorem QCa {y:Sai}(h:QD y=0):Qrb y VF:=⟨rfl,YS XPa (by
 have A:=Ql.1 (Zm h).bs.ship.legs
 exact .of (by omega) (by omega))⟩
def In9 (a:Int):Prop:=0≤a∧a≤9
theorem n9 {a:Int}(h:(0≤a∧a≤9):=by decide):In9 a:=h
theorem ZQ {c:Prop}[Decidable c]{a b:Int}(h:In9 a)(A:In9 b):In9 (if c then a else b):=by split<;>assumption
theorem QFa {f:Nat→Int}(h:∀i,In9 (f i)):∀n,In9 (Qq f n)
 | 0=>by show In9 0;exact n9
 | n+1=>ZQ (h n) (QFa h n)
theorem Yk (l:List Entry):In9 (Qe l):=by
 have A:∀n,In9 (Qq (Zs l) n):=QFa fun i=>by
  unfold Zs
  first|exact ZQ (ZQ n9 (ZQ n9 (ZQ n9 n9))) (ZQ n9 n9)|(repeat' split)<;>first|exact n9|(unfold Zq at *;(repeat' split)<;>first|exact n9|omega)
 have D:∀n,In9 (Qq (U2 l) n):=QFa fun i=>by
  unfold U2
  (repeat' split)<;>exact n9
 exact ZQ n9 (ZQ (A _) (D _))
theorem QHc (s:Span)(n:Int):In9 (VS s n):=ZQ n9 (ZQ n9 n9)
theorem Y4b (x:Shp)(b:Bkg):In9 (kindE x b):=ZQ (ZQ n9 (ZQ n9 (ZQ n9 (ZQ n9 n9)))) (ZQ n9 (ZQ n9 (ZQ n9 n9)))
theorem Q0c (x:Shp)(b:Bkg):In9 (ofE x b):=ZQ n9 (ZQ n9 (ZQ (QHc _ _) (ZQ (Y4b _ _) (ZQ n9 (ZQ n9 (Yk _))))))
theorem Ufb (x:Sai):In9 (QX x):=by unfold QX;exact ZQ n9 (ZQ n9 (ZQ n9 n9))
theorem Ztc (x:Sai)(b:Bkg):In9 (VSa x b):=by unfold VSa;exact ZQ n9 (ZQ n9 (ZQ n9 (Ufb _)))
theorem Zsb {x:Sai}(h:QD x=0)(b:Bkg)(k:Int):In9 (U6 x b k):=by
 unfold U6 ZPa;rw[M2 (by rw[h];simp)];exact ZQ n9 (ZQ n9 (ZQ (Q0c _ _) (Ztc _ _)))
theorem In9.inI {a:Int}(h:In9 a):InI a:=.of (by have:=h.1;omega) (by have:=h.2;omega)
theorem Xab {X:Sai}(h:QD X=0)(t:Int):InI (owA X t):=by
 have D:=Zm h;unfold owA;by_cases q:ZA X.bks t=true
 ·rw[M3 q];obtain⟨b,A,_,_,_⟩:=Xo (QP D.bs.rise) q
  have E:ZW X t=b:=by unfold ZW;rw[J7,A];rfl
  rw[E];have:=Xb (D.bs.bk b (J6 A)).fol (fun _=>true);exact .of (by show _≤ZO _ _;omega) (by show ZO _ _≤_;omega)
 ·rw[M2 q];exact UJ
theorem ZNb {y:Sai}{a:Ask}(h:QD y=0)(A:Qrb y a):InI (doA mkN y a).errno∧InI (doA mkN y a).owed:=by
 unfold doA;by_cases q:mkN.e y a=0
 ·rw[M3 q];exact⟨UJ,Xab (Vla y a A q) a.id⟩
 ·rw[M2 q];exact⟨In9.inI (Zsb h (Zr y a) 1),UJ⟩
theorem V5b:crE 1 1 0=0∧crN 1 1 0=1:=by decide
end Go.Proofs.YtjdcokpmgionjaaGreat
