/-
  Laws and contracts.
-/
import Derived.Test.YtjdcokpmgionjaaGreatBun22
import Derived.Test.YtjdcokpmgionjaaGreatBun27
import Derived.BigQuiet
set_option linter.unusedSimpArgs false
set_option linter.unusedVariables false
set_option maxRecDepth 100000
set_option maxHeartbeats 20000000
namespace Go.Proofs.YtjdcokpmgionjaaGreat
open Proofs.Tryz Go.RowKit Go.Shelf
def Qac (x:Sai) (a:Ask):Prop:=Qpa a∧InI x.ship.legs
abbrev XWa (g c:Nat) (x:Sai) (A:Option Addr) (n cap:Nat) (B:Option Addr) (m cap2:Nat) (D:Option Addr) (nd cd:Nat) (E:Option Addr) (ne ce:Nat) (C:Option Addr) (nb cb:Nat) (a:Ask) (w':World):Prop:=yI w' g 0 x.ship.legs∧yI w' g 1 x.ship.souls∧yJ w' g 2 A n cap∧yJ w' g 3 B m cap2∧yJ w' g 4 D nd cd∧yI w' g 5 x.fares.alone∧yI w' g 6 x.fares.third∧yJ w' g 7 E ne ce∧yI w' g 8 x.fares.down∧yI w' g 9 x.day∧yI w' g 10 x.leaves∧yJ w' g 11 C nb cb∧w'.cell? ⟨g,12,none⟩=some (.bool x.closed)∧yI w' c 0 a.number∧yI w' c 1 a.kind∧yI w' c 2 a.id∧yI w' c 3 a.guests∧w'.cell? ⟨c,4,none⟩=some (.bool a.level)∧yI w' c 5 a.cabin∧yI w' c 6 a.category∧yI w' c 7 a.frm∧yI w' c 8 a.upto∧yI w' c 9 a.til∧yI w' c 10 a.amount
theorem Ulc {g c:Nat}{x:Sai}{A:Option Addr}{n cap:Nat}{B:Option Addr}{m X:Nat}{D:Option Addr}{Q I:Nat}{E:Option Addr}{U J:Nat}{C:Option Addr}{O F:Nat}{a:Ask}{w':World}{t u:TypeId}(V:Blk w' g (Qa x ⟨A,n,cap,B,m,X,D,Q,I,E,U,J,C,O,F⟩) t)(W:Blk w' c (Zf a) u):XWa g c x A n cap B m X D Q I E U J C O F a w':=⟨V.cell rfl,V.cell rfl,V.cell rfl,V.cell rfl,V.cell rfl,V.cell rfl,V.cell rfl,V.cell rfl,V.cell rfl,V.cell rfl,V.cell rfl,V.cell rfl,V.cell rfl,W.cell rfl,W.cell rfl,W.cell rfl,W.cell rfl,W.cell rfl,W.cell rfl,W.cell rfl,W.cell rfl,W.cell rfl,W.cell rfl,W.cell rfl⟩
noncomputable def mkA:Mk:=⟨fun x a=>if a.kind=1 then UT x (Zo x a)else if a.kind=2 then UT x (Zo x a)else if a.kind=3 then Y6 x a.id else if a.kind=4 then Y4 x a.id a.amount else if a.kind=5 then Y2 x a.id else if a.kind=6 then Y3 x a.id a.cabin else if a.kind=7 then UG x a.til else VU x,fun x a=>if a.kind=1 then US x (Zo x a) 1 else if a.kind=2 then US x (Zo x a) 2 else if a.kind=3 then Zta x a.id else if a.kind=4 then Zka x a.id a.amount else if a.kind=5 then Zea x a.id else if a.kind=6 then Zia x a.id a.cabin else if a.kind=7 then Qna x a.til else X0 x⟩
def Qkc (x:Sai) (a:Ask):Prop:=Qac x a∧1≤a.kind∧a.kind≤8
theorem Ywa {x:Sai}{a:Ask}(h:a.kind=1):mkA.x x a=UT x (Zo x a)∧mkA.e x a=US x (Zo x a) 1:=by simp[mkA,h]
theorem VOa {x:Sai}{a:Ask}(h:a.kind=2):mkA.x x a=UT x (Zo x a)∧mkA.e x a=US x (Zo x a) 2:=by simp[mkA,h]
theorem VPa {x:Sai}{a:Ask}(h:a.kind=3):mkA.x x a=Y6 x a.id∧mkA.e x a=Zta x a.id:=by simp[mkA,h]
theorem VQa {x:Sai}{a:Ask}(h:a.kind=4):mkA.x x a=Y4 x a.id a.amount∧mkA.e x a=Zka x a.id a.amount:=by simp[mkA,h]
theorem VRa {x:Sai}{a:Ask}(h:a.kind=5):mkA.x x a=Y2 x a.id∧mkA.e x a=Zea x a.id:=by simp[mkA,h]
theorem VSa {x:Sai}{a:Ask}(h:a.kind=6):mkA.x x a=Y3 x a.id a.cabin∧mkA.e x a=Zia x a.id a.cabin:=by simp[mkA,h]
theorem VTa {x:Sai}{a:Ask}(h:a.kind=7):mkA.x x a=UG x a.til∧mkA.e x a=Qna x a.til:=by simp[mkA,h]
theorem VUa {x:Sai}{a:Ask}(h:a.kind=8):mkA.x x a=VU x∧mkA.e x a=X0 x:=by simp[mkA,h]
theorem UL:MadeC (fun x a=>(2≤a.kind∧a.kind≤8)∧Qac x a) mkA:=by
 intro x p a g w hS hG ⟨hkk,hA,hl⟩
 show Calls _ _ _ _ fun e w'=>Yn w' w.heap.size (mkA.e x a) (mkA.x x a) e∧_
 obtain⟨R,hR⟩:=yE (mkA.e x a);obtain⟨Y,hY⟩:=yE (mkA.x x a);rw[←hR,←hY];have aa:=yh hR;have ab:=yh hY;have ah:=yh hkk;have HA:=yh hA;have ai:=yh hl;have HS:=yh hS;have HG:=yh (fun X (O:yw w X)=>hG.bel O);have aC:=hG.lt;clear hR hY hA hl hS hG hkk;obtain⟨A,n,cap,B,m,Z,D,nd,cd,E,ne,ce,C,nb,cb⟩:=p;go_enter func172,ntmps172;go_upto_region 0 with(fail);go_cut [3,4,5] (fun p p2 p3 wx=>∃c z,yp p c∧yp p2 z∧p3=.int .i64 0∧w.heap.size≤z∧w.heap.size≤c∧c≠z∧AskAt wx c a∧Blk wx z M9 32∧yw w wx)
 case first=>
  clear HG HS aa ab ah HA ai;go_wp2_with fail;go_meet;exact⟨_,_,rfl,rfl,rfl,by omega,by omega,by omega,QB _ _ _,QC _ _ _,Zl _ _ _⟩
 obtain⟨c,z,rfl,rfl,rfl,hz,aB,ay,hC,hZ,hb⟩:=hcut;obtain⟨J,rfl⟩:=yE wc;have aE:=hZ.lt
 have az:g≠z:=by omega
 have Q:=yh (show ∀X,Kept (fun k=>k=z) J X→(XWa g c x A n cap B m Z D nd cd E ne ce C nb cb a) X from fun X O=>by
  have hg:=(HG _ hb).kept O az;have hc:Blk X c (Zf a) 53:=Blk.kept hC O ay
  exact Ulc hg hc)
 have c1:yI J c 1 a.kind:=hC.all.2.1;have HB:=yh hb;clear hb;have HZ:=yh hZ;clear hZ;have HT:=yh (fun X (O:yw J X)=>HB.trans (O.mono HB.size));clear hC;have ar:=fun X (O:yw J X)=>Kept.of_below (S:=fun k=>k=z) O (fun k hk h=>by omega);have U:=yh ar;clear ar;rcases(show a.kind=2∨a.kind=3∨a.kind=4∨a.kind=5∨a.kind=6∨a.kind=7∨a.kind=8 from by have:=ah.out;omega)with hk | hk | hk | hk | hk | hk | hk
 focus
  obtain⟨bo,aj⟩:=yE (Zo x a);have hI:=Yt HA ai;have hn:=fun X O=>XVa x ⟨A,n,cap,B,m,Z,D,nd,cd,E,ne,ce,C,nb,cb⟩ bo none 0 0 X O (by rw[aj,YK];exact Sl.nil _ _ _ _) (by rw[aj];exact hI);have ak:=fun X O=>ZAa x ⟨A,n,cap,B,m,Z,D,nd,cd,E,ne,ce,C,nb,cb⟩ a g X O;rw[←aj]at ak;have e1:=aa.trans (VOa hk).2;have e2:=ab.trans (VOa hk).1;rw[←aj]at e1 e2;rw[←e1,←e2]at hn;simp only[Qa]at hn;simp only[Zf]at ak;have an:=yh ak;clear ak aj hI e1 e2;have aI:=yh hn
  have q1:(a.kind == 1)=false:=by rw[hk];rfl
  have q2:(a.kind == 2)=true:=by rw[hk];rfl
  clear hn hk;go_upto_region 5 with(fail);clear c1 q1 q2;have aG:yw J J.drew:=(J4 _ J).drew;refine yZ (S:=(XWa g c x A n cap B m Z D nd cd E ne ce C nb cb a)) (Q _ (U _ aG)) fun aH=>?_;refine yT [0,1,2,3,4,5] ?_;iterate 6 (refine yS ?_;simp only[yU])
  refine yR 6 fun K hK=>?_;go_simp
  (go_at_call 223;refine yM (an _ (HG _ (HT _ aG))) fun w6 ap=>?_;replace aG:=aG.trans (ap.mono aG.size);clear ap)
  go_wp2_with fail;refine hK.out _ _ (Q _ (U _ aG)) fun aH=>?_;clear hK K
  try simp only[yU]
  refine yR 7 fun K hK=>?_;go_simp
  (go_at_call 33;refine(aI _ (HS.bel (HT _ aG))).mono ?_;rintro e w7 ⟨⟨y,I,rfl,W,V⟩,F⟩;have ag:=aG.size;replace aG:=aG.trans (F.mono aG.size);have HO:=yh V;have HY:=yh W;clear F V W)
  go_wp2_with fail;refine hK.out _ _ (Q _ (U _ aG)) fun aH=>?_;clear hK K
  try simp only[yU]
  refine yT [8,9] ?_;iterate 2 (refine yS ?_;simp only[yU])
  refine yR 10 fun K hK=>?_
  (refine yY 32 (.tmp 4) (.tmp 33) _ (Qa y I) (HZ.bel aG) ?_)
  refine hK.out _ _ (Q _ ((U _ aG).setRow (.inl rfl) _)) fun aH=>?_;clear hK K
  try simp only[yU]
  refine yT [11] ?_;iterate 1 (refine yS ?_;simp only[yU])
  refine yD ?_;clear an
 rotate_left
 focus
  have hn:=fun X O=>U9b x ⟨A,n,cap,B,m,Z,D,nd,cd,E,ne,ce,C,nb,cb⟩ a.id X O HA.2.2.1;rw[←aa.out.trans (VPa hk).2,←ab.out.trans (VPa hk).1]at hn;simp only[Qa]at hn;have aI:=yh hn
  have q1:(a.kind == 1)=false:=by rw[hk];rfl
  have q2:(a.kind == 2)=false:=by rw[hk];rfl
  have q3:(a.kind == 3)=true:=by rw[hk];rfl
  clear hn hk;go_upto_region 7 with(fail);clear c1 q1 q2 q3;have aG:yw J J.drew:=(J4 _ J).drew;refine yZ (S:=(XWa g c x A n cap B m Z D nd cd E ne ce C nb cb a)) (Q _ (U _ aG)) fun aH=>?_;refine yT [0,1,2,3,4,5] ?_;iterate 6 (refine yS ?_;simp only[yU])
  refine yR 6 fun K hK=>?_;go_simp
  (go_at_call 34;refine(aI _ (HS.bel (HT _ aG))).mono ?_;rintro e w7 ⟨⟨y,I,rfl,W,V⟩,F⟩;have ag:=aG.size;replace aG:=aG.trans (F.mono aG.size);have HO:=yh V;have HY:=yh W;clear F V W)
  go_wp2_with fail;refine hK.out _ _ (Q _ (U _ aG)) fun aH=>?_;clear hK K
  try simp only[yU]
  refine yT [7,8] ?_;iterate 2 (refine yS ?_;simp only[yU])
  refine yR 9 fun K hK=>?_
  (refine yY 32 (.tmp 4) (.tmp 44) _ (Qa y I) (HZ.bel aG) ?_)
  refine hK.out _ _ (Q _ ((U _ aG).setRow (.inl rfl) _)) fun aH=>?_;clear hK K
  try simp only[yU]
  refine yT [10] ?_;iterate 1 (refine yS ?_;simp only[yU])
  refine yD ?_
 rotate_left
 focus
  have hn:=fun X O=>X5b x ⟨A,n,cap,B,m,Z,D,nd,cd,E,ne,ce,C,nb,cb⟩ a.id a.amount X O HA.2.2.1 HA.2.2.2.2.2.2.2.2.2;rw[←aa.out.trans (VQa hk).2,←ab.out.trans (VQa hk).1]at hn;simp only[Qa]at hn;have aI:=yh hn
  have q1:(a.kind == 1)=false:=by rw[hk];rfl
  have q2:(a.kind == 2)=false:=by rw[hk];rfl
  have q3:(a.kind == 3)=false:=by rw[hk];rfl
  have q4:(a.kind == 4)=true:=by rw[hk];rfl
  clear hn hk;go_upto_region 9 with(fail);clear c1 q1 q2 q3 q4;have aG:yw J J.drew:=(J4 _ J).drew;refine yZ (S:=(XWa g c x A n cap B m Z D nd cd E ne ce C nb cb a)) (Q _ (U _ aG)) fun aH=>?_;refine yT [0,1,2,3,4,5,6,7] ?_;iterate 8 (refine yS ?_;simp only[yU])
  refine yR 8 fun K hK=>?_;go_simp
  (go_at_call 35;refine(aI _ (HS.bel (HT _ aG))).mono ?_;rintro e w7 ⟨⟨y,I,rfl,W,V⟩,F⟩;have ag:=aG.size;replace aG:=aG.trans (F.mono aG.size);have HO:=yh V;have HY:=yh W;clear F V W)
  go_wp2_with fail;refine hK.out _ _ (Q _ (U _ aG)) fun aH=>?_;clear hK K
  try simp only[yU]
  refine yT [9,10] ?_;iterate 2 (refine yS ?_;simp only[yU])
  refine yR 11 fun K hK=>?_
  (refine yY 32 (.tmp 4) (.tmp 57) _ (Qa y I) (HZ.bel aG) ?_)
  refine hK.out _ _ (Q _ ((U _ aG).setRow (.inl rfl) _)) fun aH=>?_;clear hK K
  try simp only[yU]
  refine yT [12] ?_;iterate 1 (refine yS ?_;simp only[yU])
  refine yD ?_
 rotate_left
 focus
  have hn:=fun X O=>XPa x ⟨A,n,cap,B,m,Z,D,nd,cd,E,ne,ce,C,nb,cb⟩ a.id X O HA.2.2.1;rw[←aa.out.trans (VRa hk).2,←ab.out.trans (VRa hk).1]at hn;simp only[Qa]at hn;have aI:=yh hn
  have q1:(a.kind == 1)=false:=by rw[hk];rfl
  have q2:(a.kind == 2)=false:=by rw[hk];rfl
  have q3:(a.kind == 3)=false:=by rw[hk];rfl
  have q4:(a.kind == 4)=false:=by rw[hk];rfl
  have q5:(a.kind == 5)=true:=by rw[hk];rfl
  clear hn hk;go_upto_region 11 with(fail);clear c1 q1 q2 q3 q4 q5;have aG:yw J J.drew:=(J4 _ J).drew;refine yZ (S:=(XWa g c x A n cap B m Z D nd cd E ne ce C nb cb a)) (Q _ (U _ aG)) fun aH=>?_;refine yT [0,1,2,3,4,5] ?_;iterate 6 (refine yS ?_;simp only[yU])
  refine yR 6 fun K hK=>?_;go_simp
  (go_at_call 36;refine(aI _ (HS.bel (HT _ aG))).mono ?_;rintro e w7 ⟨⟨y,I,rfl,W,V⟩,F⟩;have ag:=aG.size;replace aG:=aG.trans (F.mono aG.size);have HO:=yh V;have HY:=yh W;clear F V W)
  go_wp2_with fail;refine hK.out _ _ (Q _ (U _ aG)) fun aH=>?_;clear hK K
  try simp only[yU]
  refine yT [7,8] ?_;iterate 2 (refine yS ?_;simp only[yU])
  refine yR 9 fun K hK=>?_
  (refine yY 32 (.tmp 4) (.tmp 68) _ (Qa y I) (HZ.bel aG) ?_)
  refine hK.out _ _ (Q _ ((U _ aG).setRow (.inl rfl) _)) fun aH=>?_;clear hK K
  try simp only[yU]
  refine yT [10] ?_;iterate 1 (refine yS ?_;simp only[yU])
  refine yD ?_
 rotate_left
 focus
  have hn:=fun X O=>U5b x ⟨A,n,cap,B,m,Z,D,nd,cd,E,ne,ce,C,nb,cb⟩ a.id a.cabin X O HA.2.2.1 HA.2.2.2.2.1;rw[←aa.out.trans (VSa hk).2,←ab.out.trans (VSa hk).1]at hn;simp only[Qa]at hn;have aI:=yh hn
  have q1:(a.kind == 1)=false:=by rw[hk];rfl
  have q2:(a.kind == 2)=false:=by rw[hk];rfl
  have q3:(a.kind == 3)=false:=by rw[hk];rfl
  have q4:(a.kind == 4)=false:=by rw[hk];rfl
  have q5:(a.kind == 5)=false:=by rw[hk];rfl
  have q6:(a.kind == 6)=true:=by rw[hk];rfl
  clear hn hk;go_upto_region 13 with(fail);clear c1 q1 q2 q3 q4 q5 q6;have aG:yw J J.drew:=(J4 _ J).drew;refine yZ (S:=(XWa g c x A n cap B m Z D nd cd E ne ce C nb cb a)) (Q _ (U _ aG)) fun aH=>?_;refine yT [0,1,2,3,4,5,6,7] ?_;iterate 8 (refine yS ?_;simp only[yU])
  refine yR 8 fun K hK=>?_;go_simp
  (go_at_call 37;refine(aI _ (HS.bel (HT _ aG))).mono ?_;rintro e w7 ⟨⟨y,I,rfl,W,V⟩,F⟩;have ag:=aG.size;replace aG:=aG.trans (F.mono aG.size);have HO:=yh V;have HY:=yh W;clear F V W)
  go_wp2_with fail;refine hK.out _ _ (Q _ (U _ aG)) fun aH=>?_;clear hK K
  try simp only[yU]
  refine yT [9,10] ?_;iterate 2 (refine yS ?_;simp only[yU])
  refine yR 11 fun K hK=>?_
  (refine yY 32 (.tmp 4) (.tmp 81) _ (Qa y I) (HZ.bel aG) ?_)
  refine hK.out _ _ (Q _ ((U _ aG).setRow (.inl rfl) _)) fun aH=>?_;clear hK K
  try simp only[yU]
  refine yT [12] ?_;iterate 1 (refine yS ?_;simp only[yU])
  refine yD ?_
 rotate_left
 focus
  have hn:=fun X O=>Vbb x ⟨A,n,cap,B,m,Z,D,nd,cd,E,ne,ce,C,nb,cb⟩ a.til X O ;rw[←aa.out.trans (VTa hk).2,←ab.out.trans (VTa hk).1]at hn;simp only[Qa]at hn;have aI:=yh hn
  have q1:(a.kind == 1)=false:=by rw[hk];rfl
  have q2:(a.kind == 2)=false:=by rw[hk];rfl
  have q3:(a.kind == 3)=false:=by rw[hk];rfl
  have q4:(a.kind == 4)=false:=by rw[hk];rfl
  have q5:(a.kind == 5)=false:=by rw[hk];rfl
  have q6:(a.kind == 6)=false:=by rw[hk];rfl
  have q7:(a.kind == 7)=true:=by rw[hk];rfl
  clear hn hk;go_upto_region 15 with(fail);clear c1 q1 q2 q3 q4 q5 q6 q7;go_cut [6,8] (fun q e wx=>∃s y I,yp q s∧e=.int .i64 R∧J.heap.size≤s∧Blk wx s (Qa y I) 32∧y=okS R Y∧SaiO wx J.heap.size y I∧yw J wx)
  case first=>
   have aG:yw J J.drew:=(J4 _ J).drew;refine yZ (S:=(XWa g c x A n cap B m Z D nd cd E ne ce C nb cb a)) (Q _ (U _ aG)) fun aH=>?_;refine yT [0,1,2,3,4,5] ?_;iterate 6 (refine yS ?_;simp only[yU])
   focus
    refine yr2 6 11 (fun K k6=>?_) (fun K av=>?_)
    repeat first
     |
      revert k6
      intro hK;go_simp
      (go_at_call 38;(try have aA:=fun g hg=>Blk.lt (hL g hg));refine(aI _ (HS.bel (HT _ aG))).mono ?_;rintro e w7 ⟨⟨y,I,v,xs,rfl,W,V,-⟩,F⟩;have ag:=aG.size;(try replace hL:=fun g hg=>(hL g hg).bel F);replace aG:=aG.trans (F.mono aG.size);have HO:=yh V;have HY:=yh W;clear F V W)
      go_wp2_with fail;refine hK.out _ _ (Q _ (U _ aG)) fun aH=>?_;clear hK K
      try simp only[yU]
      refine yT [7,8,9,10] ?_;iterate 4 (refine yS ?_;simp only[yU])
      first
       | refine yt1 11 (fun K av=>?_)
       | rotate_left
     |
      revert av
      intro hK;go_simp;refine hK.out _ _ (Q _ (U _ (aG.alloc aG.size (.cells M9 32)))) fun aH=>?_;clear hK K
      try simp only[yU]
      (have hL:=ZA aG M9 32;have am:=Xi aG;(try have ax:=Qi w7 (.cells M9 32));replace aG:=aG.alloc aG.size (.cells M9 32))
      first
       | refine yt1 6 (fun K k6=>?_)
       | rotate_left
    all_goals
     refine yR 12 fun K hK=>?_
     (refine wp_store_row 32 (.tmp 6) (.tmp 93) rfl _ (Qa y I) rfl rfl 32 _ (hL _ (by simp)) (by kernel_rfl) rfl (by simp[Value.oneCell']) ?_)
     refine hK.out _ _ (Q _ (U _ (M5 aG (am _ (by simp)) _))) fun aH=>?_;clear hK K
     try simp only[yU]
     refine yT [13,14] ?_;iterate 2 (refine yS ?_;simp only[yU])
     refine yD ?_;go_wp2_with fail;go_meet;refine⟨_,y,I,rfl,rfl,am _ (by simp),(hL _ (by simp)).row _,HY,?_,M5 aG (am _ (by simp)) _⟩
     first | exact(HO.mono ag).bel (M5 ax (J5 _) _) | exact(HO.kept ((Kept.refl (fun k=>k=_) w7).setRow (.inl rfl) _) (fun k hk e=>by have:=aA _ rfl;have h2:J.drew.heap.size=J.heap.size:=rfl;omega)).mono ag
  obtain⟨s,y,I,rfl,rfl,aD,aw,W,V,al⟩:=hcut;obtain⟨W2,rfl⟩:=yE wc;have af:=HZ.bel al;have HY:=yh W;have HO:=yh V;have ae:Kept (fun k=>k=z) _ (World.setRow _ z (Qa y I)):=(Kept.refl (fun k=>k=z) W2).setRow (.inl rfl) _;have F:=HT _ al;have ad:=yh ae;clear ae;have ac:=yh F;clear F;have au:=HB.size;clear Q U aa ab ah HA ai al HT HB HG HS aI W V;go_wp2_with (first | (refine yV (.tmp 6) aw underlying32 ?_) | (refine yX 32 (.tmp 4) (.tmp 96) z (Qa y I) af ?_));refine yq2 (.tuple #[.agg (Qa y I),.int .i64 R]) (k:=4) (u:=5) (af.row _) underlying32 ?_;exact⟨⟨y,I,rfl,HY,(HO.kept ad (fun k hk e=>by omega)).mono (by omega)⟩,ac.trans (ad.below (B:=w.heap.size) ac.size (fun k hk e=>by omega))⟩
 focus
  have hn:=fun X O=>ZQb x ⟨A,n,cap,B,m,Z,D,nd,cd,E,ne,ce,C,nb,cb⟩ X O ;rw[←aa.out.trans (VUa hk).2,←ab.out.trans (VUa hk).1]at hn;simp only[Qa]at hn;have aI:=yh hn
  have q1:(a.kind == 1)=false:=by rw[hk];rfl
  have q2:(a.kind == 2)=false:=by rw[hk];rfl
  have q3:(a.kind == 3)=false:=by rw[hk];rfl
  have q4:(a.kind == 4)=false:=by rw[hk];rfl
  have q5:(a.kind == 5)=false:=by rw[hk];rfl
  have q6:(a.kind == 6)=false:=by rw[hk];rfl
  have q7:(a.kind == 7)=false:=by rw[hk];rfl
  clear hn hk;go_upto_region 17 with(fail);clear c1 q1 q2 q3 q4 q5 q6 q7;have hg:=HG _ HB;have ao:=yh (HS.bel HB);clear Q U aa ab ah HA ai;go_wp2_with (refine wpList_load_row rfl 32 (.tmp 100) rfl g rfl 129 _ (0,0) _ hg underlying32 rfl (by kernel_rfl) ?_);refine(aI _ ao).mono ?_;rintro e w7 ⟨⟨y,I,rfl,W,V⟩,F⟩;have HO:=yh V;have HY:=yh W;have af:=HZ.bel F;have ae:Kept (fun k=>k=z) _ (World.setRow _ z (Qa y I)):=(Kept.refl (fun k=>k=z) w7).setRow (.inl rfl) _;have aq:=HT _ F;have ad:=yh ae;clear ae;have ac:=yh aq;clear aq;have au:=HB.size;clear F HT HB HG HS ao aI W V hg;go_wp2_with (refine yX 32 (.tmp 4) (.tmp 103) z (Qa y I) af ?_);refine yq2 (.tuple #[.agg (Qa y I),.int .i64 R]) (k:=4) (u:=5) (af.row _) underlying32 ?_;exact⟨⟨y,I,rfl,HY,(HO.kept ad (fun k hk e=>by omega)).mono (by omega)⟩,ac.trans (ad.below (B:=w.heap.size) ac.size (fun k hk e=>by omega))⟩
 all_goals
  have af:=HZ.bel aG;have ae:Kept (fun k=>k=z) _ (World.setRow _ z (Qa y I)):=(Kept.refl (fun k=>k=z) w7).setRow (.inl rfl) _;have F:=HT _ aG;have ad:=yh ae;clear ae;have ac:=yh F;clear F;have au:=HB.size;clear Q U aG HT HB HG HS aI aa ab ah HA ai;go_wp2_with fail;refine yq2 (.tuple #[.agg (Qa y I),.int .i64 R]) (k:=4) (u:=5) (af.row _) underlying32 ?_;exact⟨⟨y,I,rfl,HY,(HO.kept ad (fun k hk e=>by omega)).mono (by omega)⟩,ac.trans (ad.below (B:=w.heap.size) ac.size (fun k hk e=>by omega))⟩
theorem Uea {a:Ask}(h:1≤a.kind∧a.kind≤8):a.kind=1∨a.kind=2∨a.kind=3∨a.kind=4∨a.kind=5∨a.kind=6∨a.kind=7∨a.kind=8:=by omega
theorem MadeC.to {P:Sai→Ask→Prop}{mk A:Mk}(H:MadeC P mk){x:Sai}{a:Ask}(E:P x a)(h:A.x x a=mk.x x a∧A.e x a=mk.e x a){p:SaiV}{g:Nat}{w:World}(F:SaiR w x p)(D:Blk w g (Qa x p) 129) :
  Calls prog 172 #[.pointer (some ⟨g,0,none⟩),.agg (Zf a)] w fun e w'=>Yn w' w.heap.size (A.e x a) (A.x x a) e∧yw w w':=by
 rw[h.1,h.2];exact H x p a g w F D E
theorem VUb:MadeC Qkc mkA:=by
 intro x p a g w D A ⟨ho,hk⟩;rcases Uea hk with h | h | h | h | h | h | h | h
 ·exact XN.to ⟨h,Yt ho.1 ho.2⟩ (Ywa h) D A
 ·exact UL x p a g w D A ⟨⟨by omega,by omega⟩,ho⟩
 ·exact UL x p a g w D A ⟨⟨by omega,by omega⟩,ho⟩
 ·exact UL x p a g w D A ⟨⟨by omega,by omega⟩,ho⟩
 ·exact UL x p a g w D A ⟨⟨by omega,by omega⟩,ho⟩
 ·exact UL x p a g w D A ⟨⟨by omega,by omega⟩,ho⟩
 ·exact UL x p a g w D A ⟨⟨by omega,by omega⟩,ho⟩
 ·exact UL x p a g w D A ⟨⟨by omega,by omega⟩,ho⟩
theorem QBc {x:Sai}{a:Ask}(I:1≤a.kind∧a.kind≤8)(h:mkA.e x a=0):QG (mkA.x x a)=0∧(mkA.x x a).ship=x.ship∧(mkA.x x a).fares=x.fares:=by
 rcases Uea I with q | q | q | q | q | q | q | q
 ·rw[(Ywa q).2]at h;rw[(Ywa q).1];exact⟨(UMa h).2.2.2,rfl,rfl⟩
 ·rw[(VOa q).2]at h;rw[(VOa q).1];exact⟨(UMa h).2.2.2,rfl,rfl⟩
 ·rw[(VPa q).2]at h;rw[(VPa q).1];obtain⟨D,k,b,c,_,_,_,A,_⟩:=Q2b h;exact⟨D,by rw[A];rfl,by rw[A];rfl⟩
 ·rw[(VQa q).2]at h;rw[(VQa q).1];obtain⟨D,k,b,c,_,_,_,A,_⟩:=QMb h;exact⟨D,by rw[A];rfl,by rw[A];rfl⟩
 ·rw[(VRa q).2]at h;rw[(VRa q).1];obtain⟨D,k,b,c,_,_,_,A,_⟩:=Qsb h;exact⟨D,by rw[A];rfl,by rw[A];rfl⟩
 ·rw[(VSa q).2]at h;rw[(VSa q).1];obtain⟨D,k,b,c,_,_,_,A,_⟩:=QBb h;exact⟨D,by rw[A];rfl,by rw[A];rfl⟩
 ·rw[(VTa q).2]at h;rw[(VTa q).1];have E:=UXb h;exact⟨Q6b E.1 E.2.1,rfl,rfl⟩
 ·rw[(VUa q).2]at h;rw[(VUa q).1];have E:=Qjb h;have F:=Va (Zj E.1) x.bks.length (J5 _);exact⟨Yba E.1,F.ship,F.fares⟩
theorem V9a:Yo Qkc mkA:=fun _ _ A h=>(QBc A.2 h).1
theorem X3a {a:Ask}(h:Zi a=0):1≤a.kind∧a.kind≤8:=by
 unfold Zi at h;cases q:Qd a.kind 1 8
 ·rw[M3 q]at h;omega
 ·exact Qm.1 q
theorem Vfb {x:Sai}{a:Ask}(h:QG x=0)(D:Qpa a)(A:Zi a=0):Qkc x a:=⟨⟨D,by
 have E:=Qm.1 (Zj h).bs.ship.legs
 exact .of (by omega) (by omega)⟩,X3a A⟩
theorem Vka {D:Func}{p q:Tmp}{ty tz:TypeId}(h:D.results=#[.cell p ty,.cell q tz])(A:Array Value)(P:Program)(w:World) :
  (results D A).run P w=((asAddr (A.getD p undef)).run P w).andThen fun a E=>((loadVar ty a).run P E).andThen fun x F=>((asAddr (A.getD q undef)).run P F).andThen fun b I=>((loadVar tz b).run P I).andThen fun y J=>.ok (.tuple #[x,y]) J:=by
 simp only[results,h];simp[Sem.run_bind,Result.andThen]
theorem Blk.retCC {F:Func}{k l:Tmp}{ty tz t s:TypeId}(U:F.results=#[.cell k ty,.cell l tz]){D:Array Value}{w:World}{g h:Nat}{cs A:Array Value}{d E:TypeDesc}(V:Blk w g cs t)(W:Blk w h A s)(Z:D.getD k undef=.pointer (some ⟨g,0,none⟩))(hq:D.getD l undef=.pointer (some ⟨h,0,none⟩))
  (hu:Tryz.prog.underlying ty=some d) (O:(match d with | .struct _ | .array _ _=>true | _=>false)=true) (X:(Tryz.prog.info? ty).map (·.size)=some cs.size)
  (aa:Tryz.prog.underlying tz=some E) (Q:(match E with | .struct _ | .array _ _=>true | _=>false)=true) (Y:(Tryz.prog.info? tz).map (·.size)=some A.size):(results F D).run prog w=.ok (.tuple #[.agg cs,.agg A]) w:=by
 have I:=V.ld hu O X;have J:=W.ld aa Q Y;rw[Vka (p:=k) (q:=l) (ty:=ty) (tz:=tz) U,Z,hq];simp only[asAddr,Sem.run_pure,Result.andThen,I,J]
def stR (a:Ask):Int:=if 0 < a.til then 1 else 2
theorem VAa {a:Ask}(h:Zi a=0):Yc a=true∧(QP a.kind).all (Xa a)=true:=by
 unfold Zi at h;cases h1:Qd a.kind 1 8
 ·rw[M3 h1]at h;omega
 rw[M2 (by rw[h1];simp)]at h;cases h2:Qd a.number 1 65535
 ·rw[M3 h2]at h;omega
 rw[M2 (by rw[h2];simp)]at h;cases h3:Yc a
 ·rw[M3 h3]at h;omega
 rw[M2 (by rw[h3];simp)]at h;refine⟨rfl,?_⟩;cases h4:(QP a.kind).all (Xa a)
 ·rw[M2 (by rw[h4];simp)]at h;omega
 ·rfl
theorem ZUa {a:Ask}(h:Zi a=0)(E:a.kind=1∨a.kind=2∨a.kind=7):0≤a.til:=by
 have A:=List.all_eq_true.1 (VAa h).2 UAa (by unfold QP;rcases E with q | q | q<;>rw[q]<;>simp);have D:Qd a.til 0 65535=true:=A;exact(Qm.1 D).1
theorem X8b {a:Ask}(h:Zi a=0)(E:a.kind=1):a.category=0:=by
 have D:=of_decide_eq_true (VAa h).1;have A:=congrArg Ask.category D;simp only[Vf,E,QP,if_true,zf,List.foldl,QXa,pId,Xm,YD,V2a,pTo,Xz,UAa]at A;exact A.trans rfl
theorem Qjc {a:Ask}(h:0≤a.til):stR a=stD a:=by
 unfold stR stD;by_cases q:a.til=0
 ·rw[M3 q,M2 (by omega)]
 ·rw[M2 q,M3 (by omega)]
theorem Ycb {x:Sai}{a:Ask}(h:Zi a=0)(A:a.kind=1):(⟨a.id,1,stR a,a.guests,a.level,a.cabin,0,a.frm,a.upto,a.til,[]⟩:Bkg)=Zo x a:=by
 unfold Zo;rw[M2 (by omega),Qjc (ZUa h (.inl A)),X8b h A]
theorem Ydb {x:Sai}{a:Ask}(h:Zi a=0)(A:a.kind=2):(⟨a.id,2,stR a,a.guests,a.level,-1,a.category,0,x.ship.legs,a.til,[]⟩:Bkg)=Zo x a:=by
 unfold Zo;rw[M3 A,Qjc (ZUa h (.inr (.inl A)))]
theorem SaiR.bkg {w:World}{x:Sai}{p:SaiV}(h:SaiR w x p){k:Nat}{b:Bkg}(J:x.bks[k]? = some b):∃D I A F E,p.C=some ⟨D,I,none⟩∧x.bks.length=p.nb∧(∀j u,(Qj b (.slice A F E)).toList[j]? = some u→w.cell? ⟨D,I+k*11+j,none⟩=some u)∧
  Sl Ql 3 w All A F E b.fol∧BkIn b:=by
 have V:=h.bks.len;have X:=(J0.1 J).1;obtain⟨D,I,b',A,F,E,O,W,hF,Q,U⟩:=h.bks.bkg (show k < p.nb by omega)
 obtain rfl:b'=b:=by rw[W]at J;injection J
 exact⟨D,I,A,F,E,O,V,U,hF,Q⟩
theorem SaiR.apart {y:Sai}{E:SaiV}{W:World}{z:Nat}{cs:Array Value}{t:TypeId}(U:Blk W z cs t)(h:∀us,SaiR (W.setRow z us) y E){k:Nat}{b:Bkg}(O:y.bks[k]? = some b){A V:Nat}(J:E.C=some ⟨A,V,none⟩):A≠z:=by
 rintro rfl;obtain⟨Y,aa,X,n3,Z,D,-,Q,-⟩:=(h #[]).bkg O;rw[J]at D;injection D with D;injection D with e1 e2;subst e1 e2;have F:=Q 0 (.int .i64 b.id) rfl;have I:(W.setRow A #[]).heap[A]? = some (.cells #[] t (0,0)):=U.row #[];simp[World.cell?,I]at F
def QZc (K:World→Prop) (w w':World) (X:Sai) (N:Ans) (e:Ending):Prop:=∃p',e=.returned (.tuple #[.agg (Qa X p'),.agg (QD N)])∧∀V,K V→NewSame w w' V→SaiR V X p'
theorem Qnc (K:World→Prop)(x:Sai)(p:SaiV)(a:Ask)(L:List (List Value))(w:World)(aG:∀V V',K V→yw V V'→K V')(aC:∀V,K V→SaiR V x p)(aK:∀V,K V→Pts ZJ V L x.bks)(bG:K w)(bH:Sl (ZS 11) 11 w All p.C p.nb p.cb L)
  (hx:QG x=0) (hA:Qpa a) (hc:Zi a=0) :
  Calls prog 52 #[.agg (Qa x p),.agg (Zf a)] w fun e w'=>QZc K w w' (doX mkA x a) (doA mkA x a) e∧yw w w':=by
 have ho:=Zj hx;have hP:=Vfb hx hA hc;obtain⟨R,hR⟩:=yE (mkA.e x a);obtain⟨Y,hY⟩:=yE (mkA.x x a);obtain⟨DX,bb⟩:=yE (doX mkA x a);obtain⟨DA,ba⟩:=yE (doA mkA x a)
 have aY:=yh (show R=0→DX=Y∧DA=⟨0,owA Y a.id⟩∧QG Y=0 from fun q=>by
  rw[hR]at q
  refine⟨by rw[bb,hY];exact M3 q,by rw[ba,hY];exact M3 q,by rw[hY];exact V9a x a hP q⟩)
 have aF:=yh (show ¬R=0→DX=x∧DA=⟨R,0⟩from fun q=>by
  rw[hR]at q ⊢
  exact⟨by rw[bb];exact M2 q,by rw[ba];exact M2 q⟩)
 rw[←bb,←ba];have ak:=yh (fun V (hV:yw w V)=>aG w V bG hV);have aE:=yh aC;have a5:=yh (fun V (hV:yw w V)=>aC V (ak V hV));have an:=yh (fun V (hV:yw w V)=>bH.bel hV)
 have aQ:=yh (fun(q:a.kind=1) V (hV:yw w V)=>show Calls prog 30 #[.agg (Qa x p),.agg (Qj ⟨a.id,1,stR a,a.guests,a.level,a.cabin,0,a.frm,a.upto,a.til,[]⟩ (.slice none 0 0)),.int .i64 1] V fun e w'=>YV K V w' R Y e∧yw V w' from by
  rw[Ycb (x:=x) hc q];have:=XYa K x p (Zo x a) none 0 0 1 L V aG aC aK (ak V hV) (an V hV) (by rw[YK];exact Sl.nil _ _ _ _) (Yt hA hP.1.2) ho;rw[hR,hY,(Ywa q).1,(Ywa q).2];unfold US;rw[M2 (by simpa using hx)]
  exact this)
 have aR:=yh (fun(q:a.kind=2) V (hV:yw w V)=>show Calls prog 30 #[.agg (Qa x p),.agg (Qj ⟨a.id,2,stR a,a.guests,a.level,-1,a.category,0,x.ship.legs,a.til,[]⟩ (.slice none 0 0)),.int .i64 2] V fun e w'=>YV K V w' R Y e∧yw V w' from by
  rw[Ydb (x:=x) hc q];have:=XYa K x p (Zo x a) none 0 0 2 L V aG aC aK (ak V hV) (an V hV) (by rw[YK];exact Sl.nil _ _ _ _) (Yt hA hP.1.2) ho;rw[hR,hY,(VOa q).1,(VOa q).2];unfold US;rw[M2 (by simpa using hx)]
  exact this)
 have aS:=yh (fun(q:a.kind=3) V (hV:yw w V)=>show Calls prog 127 #[.agg (Qa x p),.int .i64 a.id] V fun e w'=>YV K V w' R Y e∧yw V w' from by
  rw[hR,(VPa q).2];unfold Zta;rw[Xqa hx]
  exact U8b K x p a.id Y L V aG aC aK (ak V hV) (an V hV) ho (by rw[hY,(VPa q).1]))
 have aT:=yh (fun(q:a.kind=4) V (hV:yw w V)=>show Calls prog 128 #[.agg (Qa x p),.int .i64 a.id,.int .i64 a.amount] V fun e w'=>YV K V w' R Y e∧yw V w' from by
  rw[hR,(VQa q).2];unfold Zka;rw[Xqa hx]
  exact X4b K x p a.id a.amount Y L V aG aC aK (ak V hV) (an V hV) ho (by rw[hY,(VQa q).1]))
 have aU:=yh (fun(q:a.kind=5) V (hV:yw w V)=>show Calls prog 129 #[.agg (Qa x p),.int .i64 a.id] V fun e w'=>YV K V w' R Y e∧yw V w' from by
  rw[hR,(VRa q).2];unfold Zea;rw[Xqa hx]
  exact ZKa K x p a.id Y L V aG aC aK (ak V hV) (an V hV) ho (by rw[hY,(VRa q).1]))
 have aV:=yh (fun(q:a.kind=6) V (hV:yw w V)=>show Calls prog 130 #[.agg (Qa x p),.int .i64 a.id,.int .i64 a.cabin] V fun e w'=>YV K V w' R Y e∧yw V w' from by
  rw[hR,(VSa q).2];unfold Zia;rw[Xqa hx]
  exact U4b K x p a.id a.cabin Y L V aG aC aK (ak V hV) (an V hV) ho hA.2.2.2.2.1 (by rw[hY,(VSa q).1]))
 have aW:=yh (fun(q:a.kind=7) V (hV:yw w V) (h1:¬9999 < a.til)=>show Calls prog 131 #[.agg (Qa x p),.int .i64 a.til] V fun e w'=>Qcc K V w' Y (USa x a.til) e∧yw V w' from by
  rw[hY,(VTa q).1]
  exact Vab K x p a.til L V aG aC aK (ak V hV) (an V hV) ho ⟨ZUa hc (.inr (.inr q)),by omega⟩)
 have aN:=yh (fun(q:a.kind=7)=>show R=if 9999 < a.til then 3 else if a.til≤x.day then 4 else 0 from by
  have ht:=ZUa hc (.inr (.inr q));rw[hR,(VTa q).2];unfold Qna;rw[M2 (by simpa using hx)];by_cases h1:9999 < a.til
  ·rw[M3 h1,M3 (QK (by omega))]
  ·rw[M2 h1,M2 (by rw[Qm.2 (by omega)];simp)])
 have aX:=yh (fun(q:a.kind=8) V (hV:yw w V)=>show Calls prog 132 #[.agg (Qa x p)] V fun e w'=>Qbc K V w' Y e∧yw V w' from by
  rw[hY,(VUa q).1]
  exact ZPb K x p L V aG aC aK (ak V hV) (an V hV) ho)
 have aO:=yh (fun(q:a.kind=8)=>show R=if x.closed=true then 4 else 0 from by
  rw[hR,(VUa q).2];unfold X0
  rw[M2 (by simpa using hx)])
 have aP:=yh (X3a hc);clear hR hY bb ba hP ho aG aC aK bG bH hx hc hA;obtain⟨A,n,cap,B,m,cu,D,nd,cd,E,ne,ce,C,nb,cb⟩:=p;go_enter func52,ntmps52;go_upto_region 0 with(fail);go_cut [2,3,4,5] (fun p1 p2 p3 p4 wx=>∃g c I J,yp p1 g∧yp p2 c∧yp p3 I∧yp p4 J∧w.heap.size≤g∧g < c∧c < I∧I < J∧Blk wx g (Qa x ⟨A,n,cap,B,m,cu,D,nd,cd,E,ne,ce,C,nb,cb⟩) 32∧Blk wx c (Zf a) 53∧Blk wx I M9 32∧Blk wx J #[.int .i64 0,.int .i64 0] 55∧yw w wx)
 case first=>
  clear aY aF ak aE a5 an aQ aR aS aT aU aV aW aX aN aO aP;go_wp2_with fail;go_meet;exact⟨_,_,_,_,rfl,rfl,rfl,rfl,J5 _,by omega,by omega,by omega,(Blk.old (U6 _ _ _ _) _),(Blk.old (U7 _ _ _ _) _),(Blk.old (U8 _ _ _ _) _),Blk.new3 _ _ _ _ _ _,(Yg _ _ _ _).alloc (by simp;omega) _⟩
 obtain⟨g,c,I,J,rfl,rfl,rfl,rfl,b9,ca,b8,bW,hG,hC,aA,av,hb⟩:=hcut;obtain⟨W1,rfl⟩:=yE wc;have b7:=av.lt;obtain⟨c0,c1,c2,c3,c4,c5,c6,c7,c8,c9,bj⟩:=AskAt.all hC;go_upto_region 1 with(fail);go_cut [6] (fun p1 wx=>∃h,yp p1 h∧W1.heap.size≤h∧Blk wx h (Qj ⟨a.id,1,2,a.guests,a.level,a.cabin,0,a.frm,a.upto,a.til,[]⟩ (.slice none 0 0)) 63∧yw W1 wx)
 case first=>
  clear aY aF ak aE a5 an aQ aR aS aT aU aV aW aX aN aO aP hG hC aA av hb;go_wp2_with fail;go_meet;exact⟨_,rfl,J5 _,Blk.new W1 _ _,Qi _ _⟩
 obtain⟨h,rfl,cw,hH,a0⟩:=hcut;obtain⟨W2,rfl⟩:=yE wc;have cf:=a0.size;have cc:=hH.lt;replace hG:=hG.bel a0;replace hC:=AskAt.bel hC a0;replace aA:=aA.bel a0;replace av:=av.bel a0;replace hb:=hb.trans (a0.mono hb.size);clear c0 c1 c2 c3 c4 c5 c6 c7 c8 c9 bj a0;have c9:=(AskAt.all hC).2.2.2.2.2.2.2.2.2.1;go_upto_if 25 with(fail);go_cut [] (fun wx=>Blk wx h (Qj ⟨a.id,1,stR a,a.guests,a.level,a.cabin,0,a.frm,a.upto,a.til,[]⟩ (.slice none 0 0)) 63∧Kept (fun j=>j=h) W2 wx)
 case first=>
  have hK:=fun(v:Value)=>(Kept.refl (fun j=>j=h) W2).setCell (p:=⟨h,2,none⟩) (.inl rfl) v;have h1:=hH.set (j:=2) (.int .i64 1);have y2:yI W2 h 2 2:=hH.cell rfl;have f2:=hH.free 2;by_cases ht:0 < a.til
  ·have bv:stR a=1:=M3 ht;have d1:decide (0 < a.til)=true:=J2 ht;clear aY aF ak aE a5 an aQ aR aS aT aU aV aW aX aN aO aP hG aA av hb;go_wp2_with fail;go_meet;exact⟨by rw[bv];exact h1,hK _⟩
  ·have bv:stR a=2:=M2 ht;have d1:decide (0 < a.til)=false:=J3 ht;clear aY aF ak aE a5 an aQ aR aS aT aU aV aW aX aN aO aP hG aA av hb;go_wp2_with fail;go_meet;exact⟨by rw[bv];exact hH,Kept.refl _ _⟩
 obtain⟨bn,aZ⟩:=hcut;obtain⟨W3,rfl⟩:=yE wc;have cg:=aZ.size;replace hG:=hG.kept aZ (by omega);replace hC:=AskAt.kept hC aZ (by omega);replace aA:=aA.kept aZ (by omega);replace av:=av.kept aZ (by omega);replace hb:=hb.trans (aZ.below (B:=w.heap.size) hb.size (fun j hj e=>by omega));clear c9 aZ hH;go_upto_region 4 with(fail);go_cut [7] (fun p1 wx=>∃z,yp p1 z∧W3.heap.size≤z∧Blk wx z (Qa x ⟨A,n,cap,B,m,cu,D,nd,cd,E,ne,ce,C,nb,cb⟩) 32∧yw W3 wx)
 case first=>
  have O:=hG;clear aY aF ak aE a5 an aQ aR aS aT aU aV aW aX aN aO aP hG hC aA av hb bn;go_wp2_with (first | (refine yV (.tmp 2) O underlying32 ?_) | (refine yX 32 (.tmp 7) (.tmp 27) W3.heap.size (Qa x ⟨A,n,cap,B,m,cu,D,nd,cd,E,ne,ce,C,nb,cb⟩) (Blk.new W3 M9 32) ?_));go_meet;exact⟨_,rfl,J5 _,(Blk.new W3 _ _).row _,M5 (Qi W3 _) (J5 _) _⟩
 obtain⟨z,rfl,ck,hZ,aL⟩:=hcut;obtain⟨W4,rfl⟩:=yE wc;have ch:=aL.size;have cl:=hZ.lt;replace hG:=hG.bel aL;replace hC:=AskAt.bel hC aL;replace aA:=aA.bel aL;replace av:=av.bel aL;have hH:=bn.bel aL;replace hb:=hb.trans (aL.mono hb.size);clear aL bn;have c1:=(AskAt.all hC).2.1;have HB:=yh hb;have HG:=yh hG;have HC:=yh hC;have a7:=yh aA;have a8:=yh av;have HZ:=yh hZ;have HH:=yh hH;clear hb hG hC aA av hZ hH;have ah:=yh (fun X (v:Array Value)=>(Kept.refl (fun j=>j=z∨j=h) X).setRow (.inl (.inl rfl)) v);have aD:=HB.size;have ah:=yh (fun X (v:Array Value)=>(Kept.refl (fun j=>j=z∨j=h) X).setRow (.inl (.inl rfl)) v);have aD:=HB.size;have ah:=yh (fun X (v:Array Value)=>(Kept.refl (fun j=>j=z∨j=h) X).setRow (.inl (.inl rfl)) v);have aD:=HB.size;have ah:=yh (fun X (v:Array Value)=>(Kept.refl (fun j=>j=z∨j=h) X).setRow (.inl (.inl rfl)) v);have aD:=HB.size;have ah:=yh (fun X (v:Array Value)=>(Kept.refl (fun j=>j=z∨j=h) X).setRow (.inl (.inl rfl)) v);have aD:=HB.size;have ah:=yh (fun X (v:Array Value)=>(Kept.refl (fun j=>j=z∨j=h) X).setRow (.inl (.inl rfl)) v);have aD:=HB.size;have ah:=yh (fun X (v:Array Value)=>(Kept.refl (fun j=>j=z∨j=h) X).setRow (.inl (.inl rfl)) v);have aD:=HB.size;have ah:=yh (fun X (v:Array Value)=>(Kept.refl (fun j=>j=z∨j=h) X).setRow (.inl (.inl rfl)) v);have aD:=HB.size;have ah:=yh (fun X (v:Array Value)=>(Kept.refl (fun j=>j=z∨j=h) X).setRow (.inl (.inl rfl)) v);have aD:=HB.size;have ah:=yh (fun X (v:Array Value)=>(Kept.refl (fun j=>j=z∨j=h) X).setRow (.inl (.inl rfl)) v);have aD:=HB.size;have ah:=yh (fun X (v:Array Value)=>(Kept.refl (fun j=>j=z∨j=h) X).setRow (.inl (.inl rfl)) v);have aD:=HB.size;rcases Uea aP.out with q | q | q | q | q | q | q | q
 focus
  have q1:(a.kind == 1)=true:=by rw[q];rfl
  go_upto_region 8 with(fail);have ct:=yh (aQ q _ HB);have O:=HG.out;have hh:=HH.out;go_wp2_with (first | (refine yV (.tmp 2) O underlying32 ?_) | (refine yV (.tmp 6) hh underlying63 ?_));refine ct.mono ?_;rintro e W ⟨⟨y,p',rfl,hy,hk⟩,cr⟩;have HQ:=yh hk;have aj:=yh hy;have U:=yh (HZ.bel cr);have Q:=yh cr;clear hk cr ct O hh hy q1 q;have al:=Q.size;have cq:=yh (ah W (Qa y p'));have aa:=yh ((Kept.of_below Q (fun j hj F=>absurd F (by omega))).trans cq);have ad:=yh (show R=0→y=Y∧∀V,K V→NewSame W4 (W.setRow z (Qa y p')) V→SaiR V y p' from fun q0=>⟨by rw[aj.out,q0];rfl,fun V h1 F=>HQ V h1 (fun j b1 Z=>(F j (by omega) (Nat.lt_of_lt_of_le Z cq.size)).trans (cq.block j Z (by omega)))⟩);have ag:=yh (U.row (Qa y p'));go_upto_region 31 with(refine yX 32 (.tmp 7) (.tmp 36) z (Qa y p') U ?_);obtain⟨W8,ac⟩:=yE (W.setRow z (Qa y p'));rw[←ac]at aa ad ag ⊢;clear ac cq U Q HQ aj al
 rotate_left
 focus
  have q1:(a.kind == 1)=false:=by rw[q];rfl
  have q2:(a.kind == 2)=true:=by rw[q];rfl
  have c6:=(AskAt.all HC).2.2.2.2.2.2.1;have y1:yI W4 h 1 1:=HH.cell rfl;have y5:yI W4 h 5 a.cabin:=HH.cell rfl;have y6:yI W4 h 6 0:=HH.cell rfl;have f1:=HH.free 1;have f5:=HH.free 5;have f6:=HH.free 6;go_upto_region 10 with(fail);go_cut [] (fun wx=>Blk wx h (Qj ⟨a.id,2,stR a,a.guests,a.level,-1,a.category,a.frm,a.upto,a.til,[]⟩ (.slice none 0 0)) 63∧Kept (fun j=>j=h) W4 wx)
  case first=>
   go_region;go_wp2_with fail;go_meet;exact⟨((HH.set (j:=1) (.int .i64 2)).set (j:=5) (.int .i64 (-1))).set (j:=6) (.int .i64 a.category),((((Kept.refl (fun j=>j=h) W4).setCell (p:=⟨h,1,none⟩) (.inl rfl) _).setCell (p:=⟨h,5,none⟩) (.inl rfl) _).setCell (p:=⟨h,6,none⟩) (.inl rfl) _).drew⟩
  obtain⟨a6,bp⟩:=hcut;obtain⟨W5,rfl⟩:=yE wc;clear c6 y1 y5 y6 f1 f5 f6;have g0:yI W5 g 0 x.ship.legs:=(HG.kept bp (by omega)).cell rfl;have y7:yI W5 h 7 a.frm:=a6.cell rfl;have y8:yI W5 h 8 a.upto:=a6.cell rfl;have f7:=a6.free 7;have f8:=a6.free 8;have h1:=(a6.set (j:=7) (.int .i64 0)).set (j:=8) (.int .i64 x.ship.legs);have bF:=(bp.setCell (p:=⟨h,7,none⟩) (.inl rfl) (.int .i64 0)).setCell (p:=⟨h,8,none⟩) (.inl rfl) (.int .i64 x.ship.legs);have bA:=yh h1;have a4:=yh bF;clear a6 bp h1 bF;go_upto_region 12 with(fail);obtain⟨W6,bI⟩:=yE ((W5.setCell ⟨h,7,none⟩ (.int .i64 0)).setCell ⟨h,8,none⟩ (.int .i64 x.ship.legs));rw[←bI]at bA a4 ⊢;clear bI g0 y7 y8 f7 f8;have bV:=yh (HZ.kept a4 (fun e=>by omega));have ci:=a4.size;go_upto_region 12 with(fail);have ct:=yh (aR q _ (HB.trans (a4.below (B:=w.heap.size) HB.size (fun j hj e=>by omega))));have O:=(HG.kept a4 (fun e=>by omega));have hh:=bA.out;go_wp2_with (first | (refine yV (.tmp 2) O underlying32 ?_) | (refine yV (.tmp 6) hh underlying63 ?_));refine ct.mono ?_;rintro e W ⟨⟨y,p',rfl,hy,hk⟩,cr⟩;have HQ:=yh hk;have aj:=yh hy;have U:=yh (bV.bel cr);have Q:=yh cr;clear hk cr ct O hh hy q1 q2 q;have al:=Q.size;have cq:=yh (ah W (Qa y p'));have aa:=yh ((a4.mono (fun _ _ e=>Or.inr e)).trans ((Kept.of_below Q (fun j hj F=>absurd F (by omega))).trans cq));have ad:=yh (show R=0→y=Y∧∀V,K V→NewSame W4 (W.setRow z (Qa y p')) V→SaiR V y p' from fun q0=>⟨by rw[aj.out,q0];rfl,fun V h1 F=>HQ V h1 (fun j b1 Z=>(F j (by omega) (Nat.lt_of_lt_of_le Z cq.size)).trans (cq.block j Z (by omega)))⟩);have ag:=yh (U.row (Qa y p'));go_upto_region 31 with(refine yX 32 (.tmp 7) (.tmp 54) z (Qa y p') U ?_);obtain⟨W8,ac⟩:=yE (W.setRow z (Qa y p'));rw[←ac]at aa ad ag ⊢;clear ac cq U Q HQ aj al
 rotate_left
 focus
  have q1:(a.kind == 1)=false:=by rw[q];rfl
  have q2:(a.kind == 2)=false:=by rw[q];rfl
  have q3:(a.kind == 3)=true:=by rw[q];rfl
  have c2:=(AskAt.all HC).2.2.1;go_upto_region 14 with(fail);have ct:=yh (aS q _ HB);have O:=HG.out;go_wp2_with (refine yV (.tmp 2) O underlying32 ?_);refine ct.mono ?_;rintro e W ⟨⟨y,p',rfl,hy,hk⟩,cr⟩;have HQ:=yh hk;have aj:=yh hy;have U:=yh (HZ.bel cr);have Q:=yh cr;clear hk cr ct O hy q1 q2 q3 q c2;have al:=Q.size;have cq:=yh (ah W (Qa y p'));have aa:=yh ((Kept.of_below Q (fun j hj F=>absurd F (by omega))).trans cq);have ad:=yh (show R=0→y=Y∧∀V,K V→NewSame W4 (W.setRow z (Qa y p')) V→SaiR V y p' from fun q0=>⟨by rw[aj.out,q0];rfl,fun V h1 F=>HQ V h1 (fun j b1 Z=>(F j (by omega) (Nat.lt_of_lt_of_le Z cq.size)).trans (cq.block j Z (by omega)))⟩);have ag:=yh (U.row (Qa y p'));go_upto_region 31 with(refine yX 32 (.tmp 7) (.tmp 63) z (Qa y p') U ?_);obtain⟨W8,ac⟩:=yE (W.setRow z (Qa y p'));rw[←ac]at aa ad ag ⊢;clear ac cq U Q HQ aj al
 rotate_left
 focus
  have q1:(a.kind == 1)=false:=by rw[q];rfl
  have q2:(a.kind == 2)=false:=by rw[q];rfl
  have q3:(a.kind == 3)=false:=by rw[q];rfl
  have q4:(a.kind == 4)=true:=by rw[q];rfl
  have c2:=(AskAt.all HC).2.2.1;have bj:=(AskAt.all HC).2.2.2.2.2.2.2.2.2.2;go_upto_region 16 with(fail);have ct:=yh (aT q _ HB);have O:=HG.out;go_wp2_with (refine yV (.tmp 2) O underlying32 ?_);refine ct.mono ?_;rintro e W ⟨⟨y,p',rfl,hy,hk⟩,cr⟩;have HQ:=yh hk;have aj:=yh hy;have U:=yh (HZ.bel cr);have Q:=yh cr;clear hk cr ct O hy q1 q2 q3 q4 q c2 bj;have al:=Q.size;have cq:=yh (ah W (Qa y p'));have aa:=yh ((Kept.of_below Q (fun j hj F=>absurd F (by omega))).trans cq);have ad:=yh (show R=0→y=Y∧∀V,K V→NewSame W4 (W.setRow z (Qa y p')) V→SaiR V y p' from fun q0=>⟨by rw[aj.out,q0];rfl,fun V h1 F=>HQ V h1 (fun j b1 Z=>(F j (by omega) (Nat.lt_of_lt_of_le Z cq.size)).trans (cq.block j Z (by omega)))⟩);have ag:=yh (U.row (Qa y p'));go_upto_region 31 with(refine yX 32 (.tmp 7) (.tmp 74) z (Qa y p') U ?_);obtain⟨W8,ac⟩:=yE (W.setRow z (Qa y p'));rw[←ac]at aa ad ag ⊢;clear ac cq U Q HQ aj al
 rotate_left
 focus
  have q1:(a.kind == 1)=false:=by rw[q];rfl
  have q2:(a.kind == 2)=false:=by rw[q];rfl
  have q3:(a.kind == 3)=false:=by rw[q];rfl
  have q4:(a.kind == 4)=false:=by rw[q];rfl
  have q5:(a.kind == 5)=true:=by rw[q];rfl
  have c2:=(AskAt.all HC).2.2.1;go_upto_region 18 with(fail);have ct:=yh (aU q _ HB);have O:=HG.out;go_wp2_with (refine yV (.tmp 2) O underlying32 ?_);refine ct.mono ?_;rintro e W ⟨⟨y,p',rfl,hy,hk⟩,cr⟩;have HQ:=yh hk;have aj:=yh hy;have U:=yh (HZ.bel cr);have Q:=yh cr;clear hk cr ct O hy q1 q2 q3 q4 q5 q c2;have al:=Q.size;have cq:=yh (ah W (Qa y p'));have aa:=yh ((Kept.of_below Q (fun j hj F=>absurd F (by omega))).trans cq);have ad:=yh (show R=0→y=Y∧∀V,K V→NewSame W4 (W.setRow z (Qa y p')) V→SaiR V y p' from fun q0=>⟨by rw[aj.out,q0];rfl,fun V h1 F=>HQ V h1 (fun j b1 Z=>(F j (by omega) (Nat.lt_of_lt_of_le Z cq.size)).trans (cq.block j Z (by omega)))⟩);have ag:=yh (U.row (Qa y p'));go_upto_region 31 with(refine yX 32 (.tmp 7) (.tmp 83) z (Qa y p') U ?_);obtain⟨W8,ac⟩:=yE (W.setRow z (Qa y p'));rw[←ac]at aa ad ag ⊢;clear ac cq U Q HQ aj al
 rotate_left
 focus
  have q1:(a.kind == 1)=false:=by rw[q];rfl
  have q2:(a.kind == 2)=false:=by rw[q];rfl
  have q3:(a.kind == 3)=false:=by rw[q];rfl
  have q4:(a.kind == 4)=false:=by rw[q];rfl
  have q5:(a.kind == 5)=false:=by rw[q];rfl
  have q6:(a.kind == 6)=true:=by rw[q];rfl
  have c2:=(AskAt.all HC).2.2.1;have c5:=(AskAt.all HC).2.2.2.2.2.1;go_upto_region 20 with(fail);have ct:=yh (aV q _ HB);have O:=HG.out;go_wp2_with (refine yV (.tmp 2) O underlying32 ?_);refine ct.mono ?_;rintro e W ⟨⟨y,p',rfl,hy,hk⟩,cr⟩;have HQ:=yh hk;have aj:=yh hy;have U:=yh (HZ.bel cr);have Q:=yh cr;clear hk cr ct O hy q1 q2 q3 q4 q5 q6 q c2 c5;have al:=Q.size;have cq:=yh (ah W (Qa y p'));have aa:=yh ((Kept.of_below Q (fun j hj F=>absurd F (by omega))).trans cq);have ad:=yh (show R=0→y=Y∧∀V,K V→NewSame W4 (W.setRow z (Qa y p')) V→SaiR V y p' from fun q0=>⟨by rw[aj.out,q0];rfl,fun V h1 F=>HQ V h1 (fun j b1 Z=>(F j (by omega) (Nat.lt_of_lt_of_le Z cq.size)).trans (cq.block j Z (by omega)))⟩);have ag:=yh (U.row (Qa y p'));go_upto_region 31 with(refine yX 32 (.tmp 7) (.tmp 94) z (Qa y p') U ?_);obtain⟨W8,ac⟩:=yE (W.setRow z (Qa y p'));rw[←ac]at aa ad ag ⊢;clear ac cq U Q HQ aj al
 rotate_left
 all_goals
  first
   |
    have aJ:=yh (HG.kept aa (fun e=>by omega));have ay:=yh (a7.kept aa (fun e=>by omega));have az:=yh (a8.kept aa (fun e=>by omega));have aI:=yh (fun u v=>HB.trans ((((aa.mono (fun _ _ e=>Or.inl e)).setRow (S:=fun j=>(j=z∨j=h)∨(j=I∨j=J)) (.inl (.inr (.inl rfl))) u).setRow (.inl (.inr (.inr rfl))) v).below (B:=w.heap.size) HB.size (fun j hj e=>by omega)));by_cases q0:R=0;rotate_left
    ·have q1:(R != 0)=true:=by simpa using q0
     obtain⟨e1,e2⟩:=aF q0;obtain rfl:x=DX:=e1.symm;subst e2;clear q0;have O:=aJ.out;have ae:=ay.out;have af:=ZD az (show J≠I by omega) (Qa x ⟨A,n,cap,B,m,cu,D,nd,cd,E,ne,ce,C,nb,cb⟩);have HF:=yh (aI (Qa x ⟨A,n,cap,B,m,cu,D,nd,cd,E,ne,ce,C,nb,cb⟩) (QD ⟨R,0⟩));go_wp2_with (first | (refine yV (.tmp 2) O underlying32 ?_) | (refine yX 32 (.tmp 4) (.tmp 121) I (Qa x ⟨A,n,cap,B,m,cu,D,nd,cd,E,ne,ce,C,nb,cb⟩) ae ?_) | (refine yX 55 (.tmp 5) (.tmp 123) J (QD ⟨R,0⟩) af ?_));refine yq5 (.tuple #[.agg (Qa x ⟨A,n,cap,B,m,cu,D,nd,cd,E,ne,ce,C,nb,cb⟩),.agg (QD ⟨R,0⟩)]) (k:=4) (l:=5) (ZD (ae.row _) (show I≠J by omega) _) (af.row _) underlying32 underlying55 ?_;exact⟨⟨_,rfl,fun V h1 _=>aE V h1⟩,HF⟩
    obtain rfl:0=R:=q0.symm;clear aJ ay az aI
   | skip
 focus
  have q1:(a.kind == 1)=false:=by rw[q];rfl
  have q2:(a.kind == 2)=false:=by rw[q];rfl
  have q3:(a.kind == 3)=false:=by rw[q];rfl
  have q4:(a.kind == 4)=false:=by rw[q];rfl
  have q5:(a.kind == 5)=false:=by rw[q];rfl
  have q6:(a.kind == 6)=false:=by rw[q];rfl
  have q7:(a.kind == 7)=true:=by rw[q];rfl
  have c9:=(AskAt.all HC).2.2.2.2.2.2.2.2.2.1;have g9:yI W4 g 9 x.day:=HG.cell rfl;have HE:=yh (aN q);have aJ:=HG;have ay:=a7;have az:=a8;have aI:=yh (fun u v=>HB.trans ((((Kept.refl (fun j=>j=I∨j=J) W4).setRow (.inl (.inl rfl)) u).setRow (.inl (.inr rfl)) v).below (B:=w.heap.size) HB.size (fun j hj e=>by omega)));by_cases t1:9999 < a.til
  ·have d1:decide (9999 < a.til)=true:=J2 t1
   obtain rfl:3=R:=by rw[HE.out,M3 t1]
   obtain⟨e1,e2⟩:=aF (by decide);obtain rfl:x=DX:=e1.symm;subst e2;clear q HE;have O:=aJ.out;have ae:=ay.out;have af:=ZD az (show J≠I by omega) (Qa x ⟨A,n,cap,B,m,cu,D,nd,cd,E,ne,ce,C,nb,cb⟩);have HF:=yh (aI (Qa x ⟨A,n,cap,B,m,cu,D,nd,cd,E,ne,ce,C,nb,cb⟩) (QD ⟨3,0⟩));go_wp2_with (first | (refine yV (.tmp 2) O underlying32 ?_) | (refine yX 32 (.tmp 4) (.tmp 121) I (Qa x ⟨A,n,cap,B,m,cu,D,nd,cd,E,ne,ce,C,nb,cb⟩) ae ?_) | (refine yX 55 (.tmp 5) (.tmp 123) J (QD ⟨3,0⟩) af ?_));refine yq5 (.tuple #[.agg (Qa x ⟨A,n,cap,B,m,cu,D,nd,cd,E,ne,ce,C,nb,cb⟩),.agg (QD ⟨3,0⟩)]) (k:=4) (l:=5) (ZD (ae.row _) (show I≠J by omega) _) (af.row _) underlying32 underlying55 ?_;exact⟨⟨_,rfl,fun V h1 _=>aE V h1⟩,HF⟩
  have h1:=t1;have d1:decide (9999 < a.til)=false:=J3 t1;by_cases t2:a.til≤x.day
  ·have d2:decide (a.til≤x.day)=true:=J2 t2
   obtain rfl:4=R:=by rw[HE.out,M2 t1,M3 t2]
   obtain⟨e1,e2⟩:=aF (by decide);obtain rfl:x=DX:=e1.symm;subst e2;clear q HE;have O:=aJ.out;have ae:=ay.out;have af:=ZD az (show J≠I by omega) (Qa x ⟨A,n,cap,B,m,cu,D,nd,cd,E,ne,ce,C,nb,cb⟩);have HF:=yh (aI (Qa x ⟨A,n,cap,B,m,cu,D,nd,cd,E,ne,ce,C,nb,cb⟩) (QD ⟨4,0⟩));go_wp2_with (first | (refine yV (.tmp 2) O underlying32 ?_) | (refine yX 32 (.tmp 4) (.tmp 121) I (Qa x ⟨A,n,cap,B,m,cu,D,nd,cd,E,ne,ce,C,nb,cb⟩) ae ?_) | (refine yX 55 (.tmp 5) (.tmp 123) J (QD ⟨4,0⟩) af ?_));refine yq5 (.tuple #[.agg (Qa x ⟨A,n,cap,B,m,cu,D,nd,cd,E,ne,ce,C,nb,cb⟩),.agg (QD ⟨4,0⟩)]) (k:=4) (l:=5) (ZD (ae.row _) (show I≠J by omega) _) (af.row _) underlying32 underlying55 ?_;exact⟨⟨_,rfl,fun V h1 _=>aE V h1⟩,HF⟩
  have d2:decide (a.til≤x.day)=false:=J3 t2
  obtain rfl:0=R:=by rw[HE.out,M2 t1,M2 t2]
  go_upto_region 26 with(fail);have ct:=yh (aW q _ HB h1);have O:=HG.out;go_wp2_with (refine yV (.tmp 2) O underlying32 ?_);refine ct.mono ?_;rintro e W ⟨⟨p',v,xs,rfl,hk,-⟩,cr⟩;have HQ:=yh hk;have U:=yh (HZ.bel cr);have Q:=yh cr;clear hk cr ct O q1 q2 q3 q4 q5 q6 q7 q c9 g9 d1 d2 h1 t1 t2 HE aJ ay az aI;have al:=Q.size;have cq:=yh (ah W (Qa Y p'));have aa:=yh ((Kept.of_below Q (fun j hj F=>absurd F (by omega))).trans cq);have ad:=yh (show(0:Int)=0→Y=Y∧∀V,K V→NewSame W4 (W.setRow z (Qa Y p')) V→SaiR V Y p' from fun q0=>⟨rfl,fun V h1 F=>HQ V h1 (fun j b1 Z=>(F j (by omega) (Nat.lt_of_lt_of_le Z cq.size)).trans (cq.block j Z (by omega)))⟩);have ag:=yh (U.row (Qa Y p'));go_upto_region 31 with(refine yX 32 (.tmp 7) (.tmp 111) z (Qa Y p') U ?_);obtain⟨W8,ac⟩:=yE (W.setRow z (Qa Y p'));rw[←ac]at aa ad ag ⊢;clear ac cq U Q HQ al;obtain⟨y,a2⟩:=yE Y;rw[←a2]at ag;replace ad:=yh (show(0:Int)=0→y=Y∧∀V,K V→NewSame W4 W8 V→SaiR V y p' from fun q0=>by rw[a2];exact⟨rfl,(ad (by trivial)).2⟩);clear a2
 rotate_left
 focus
  have q1:(a.kind == 1)=false:=by rw[q];rfl
  have q2:(a.kind == 2)=false:=by rw[q];rfl
  have q3:(a.kind == 3)=false:=by rw[q];rfl
  have q4:(a.kind == 4)=false:=by rw[q];rfl
  have q5:(a.kind == 5)=false:=by rw[q];rfl
  have q6:(a.kind == 6)=false:=by rw[q];rfl
  have q7:(a.kind == 7)=false:=by rw[q];rfl
  have q8:(a.kind == 8)=true:=by rw[q];rfl
  have bl:W4.cell? ⟨g,12,none⟩=some (.bool x.closed):=HG.cell rfl;have HE:=yh (aO q);have aJ:=HG;have ay:=a7;have az:=a8;have aI:=yh (fun u v=>HB.trans ((((Kept.refl (fun j=>j=I∨j=J) W4).setRow (.inl (.inl rfl)) u).setRow (.inl (.inr rfl)) v).below (B:=w.heap.size) HB.size (fun j hj e=>by omega)));cases hcl:x.closed;rotate_left
  ·rw[hcl]at bl
   obtain rfl:4=R:=by rw[HE.out,hcl];rfl
   clear hcl;obtain⟨e1,e2⟩:=aF (by decide);obtain rfl:x=DX:=e1.symm;subst e2;clear q HE;have O:=aJ.out;have ae:=ay.out;have af:=ZD az (show J≠I by omega) (Qa x ⟨A,n,cap,B,m,cu,D,nd,cd,E,ne,ce,C,nb,cb⟩);have HF:=yh (aI (Qa x ⟨A,n,cap,B,m,cu,D,nd,cd,E,ne,ce,C,nb,cb⟩) (QD ⟨4,0⟩));go_wp2_with (first | (refine yV (.tmp 2) O underlying32 ?_) | (refine yX 32 (.tmp 4) (.tmp 121) I (Qa x ⟨A,n,cap,B,m,cu,D,nd,cd,E,ne,ce,C,nb,cb⟩) ae ?_) | (refine yX 55 (.tmp 5) (.tmp 123) J (QD ⟨4,0⟩) af ?_));refine yq5 (.tuple #[.agg (Qa x ⟨A,n,cap,B,m,cu,D,nd,cd,E,ne,ce,C,nb,cb⟩),.agg (QD ⟨4,0⟩)]) (k:=4) (l:=5) (ZD (ae.row _) (show I≠J by omega) _) (af.row _) underlying32 underlying55 ?_;exact⟨⟨_,rfl,fun V h1 _=>aE V h1⟩,HF⟩
  obtain rfl:0=R:=by rw[HE.out,hcl];rfl
  rw[hcl]at bl;have b3:=yh hcl;clear hcl;go_upto_region 30 with(fail);have ct:=yh (aX q _ HB);have O:=HG.out;go_wp2_with (refine yV (.tmp 2) O underlying32 ?_);refine ct.mono ?_;rintro e W ⟨⟨p',rfl,hk⟩,cr⟩;have HQ:=yh hk;have U:=yh (HZ.bel cr);have Q:=yh cr;clear hk cr ct O q1 q2 q3 q4 q5 q6 q7 q8 q  bl HE aJ ay az aI;have al:=Q.size;have cq:=yh (ah W (Qa Y p'));have aa:=yh ((Kept.of_below Q (fun j hj F=>absurd F (by omega))).trans cq);have ad:=yh (show(0:Int)=0→Y=Y∧∀V,K V→NewSame W4 (W.setRow z (Qa Y p')) V→SaiR V Y p' from fun q0=>⟨rfl,fun V h1 F=>HQ V h1 (fun j b1 Z=>(F j (by omega) (Nat.lt_of_lt_of_le Z cq.size)).trans (cq.block j Z (by omega)))⟩);have ag:=yh (U.row (Qa Y p'));go_upto_region 31 with(refine yX 32 (.tmp 7) (.tmp 118) z (Qa Y p') U ?_);obtain⟨W8,ac⟩:=yE (W.setRow z (Qa Y p'));rw[←ac]at aa ad ag ⊢;clear ac cq U Q HQ al;obtain⟨y,a2⟩:=yE Y;rw[←a2]at ag;replace ad:=yh (show(0:Int)=0→y=Y∧∀V,K V→NewSame W4 W8 V→SaiR V y p' from fun q0=>by rw[a2];exact⟨rfl,(ad (by trivial)).2⟩);clear a2
 rotate_left
 all_goals
  obtain⟨cv,bg⟩:=ad (by trivial);obtain rfl:y=Y:=cv;obtain⟨e1,e2,bS⟩:=aY (by trivial);obtain rfl:y=DX:=e1.symm;have bd:=yh (HB.trans (aa.below (B:=w.heap.size) HB.size (fun j hj e=>by omega)));have bB:=yh (bg W8 (ak _ bd) (NewSame.refl _ _));have bf:=yh (Zj bS);have bD:=yh bg;have ay:=yh (a7.kept aa (fun e=>by omega));have az:=yh (a8.kept aa (fun e=>by omega));have be:=yh e2
  have cm:z≠I∧z≠J:=by omega
  have cj:=aa.size;have c2:yI W8 c 2 a.id:=(AskAt.all (AskAt.kept HC aa (fun e=>by omega))).2.2.1;clear e1 e2 bS bg ad aY aF HG HC a7 a8 HZ HH ah aE a5 an aP aD aQ aR aS aT aU aV aW aX aN aO;obtain⟨ai,bq⟩:=yE (atI y.bks a.id);have bt:=Xp y p' a.id W8 bB.bks;rw[←bq]at bt;have bx:=yh bt;have bc:=yh bq;clear bt bq;obtain⟨A',n',ao,B',m',ap,D',aw,ar,E',ax,au,C',am,aq⟩:=p';have hz:=ag.out;go_wp2_with (refine yV (.tmp 7) hz underlying32 ?_);refine yM bx fun w9 a1=>?_;obtain⟨W9,bY⟩:=yE w9;subst bY;have bE:=yh (ag.bel a1);have bh:=yh (ay.bel a1);have bi:=yh (az.bel a1);have bQ:=a1.size;have bw:=yh (bd.trans (a1.mono bd.size));have bT:=yh a1
  have a3:=yh (show ∀X,Kept (fun j=>j=I∨j=J) W9 X→yw w X∧SaiR X y ⟨A',n',ao,B',m',ap,D',aw,ar,E',ax,au,C',am,aq⟩∧∀V,K V→NewSame w X V→SaiR V y ⟨A',n',ao,B',m',ap,D',aw,ar,E',ax,au,C',am,aq⟩from fun X hX=>by
   have bJ:=bw.trans (hX.below (B:=w.heap.size) bw.size (fun j hj e=>by omega))
   have bP:∀V,NewSame w X V→NewSame W4 W8 V:=fun V F j b1 Z=>by
    have b0:j < X.heap.size:=Nat.lt_of_lt_of_le Z (Nat.le_trans bQ hX.size);rw[F j (by omega) b0,hX.block j (Nat.lt_of_lt_of_le Z bQ) (by omega)];exact bT.block j Z
   exact⟨bJ,bD X (ak _ bJ) (bP X (NewSame.refl _ _)),fun V h1 F=>bD V h1 (bP V F)⟩)
  clear c2 hz bx ag ay az a1 bB;by_cases hid:Zu y.bks a.id=true;rotate_left
  ·obtain rfl : -1=ai:=by rw[bc.out];exact(Q1c (by simpa using hid)).symm
   obtain rfl:⟨0,0⟩=DA:=by rw[be.out];unfold owA;rw[M2 hid]
   have hz:=bE.out;have ae:=bh.out;have af:=ZD bi (show J≠I by omega) (Qa y ⟨A',n',ao,B',m',ap,D',aw,ar,E',ax,au,C',am,aq⟩);clear hid;go_wp2_with (first | (refine yV (.tmp 7) hz underlying32 ?_) | (refine yX 32 (.tmp 4) (.tmp 130) I (Qa y ⟨A',n',ao,B',m',ap,D',aw,ar,E',ax,au,C',am,aq⟩) ae ?_) | (refine yX 55 (.tmp 5) (.tmp 131) J (QD ⟨0,0⟩) af ?_));refine yq5 (.tuple #[.agg (Qa y ⟨A',n',ao,B',m',ap,D',aw,ar,E',ax,au,C',am,aq⟩),.agg (QD ⟨0,0⟩)]) (k:=4) (l:=5) (ZD (ae.row _) (show I≠J by omega) _) (af.row _) underlying32 underlying55 ?_;obtain⟨f1,-,f3⟩:=a3 _ (((Kept.refl (fun j=>j=I∨j=J) W9).setRow (.inl (.inl rfl)) (Qa y ⟨A',n',ao,B',m',ap,D',aw,ar,E',ax,au,C',am,aq⟩)).setRow (.inl (.inr rfl)) (QD ⟨0,0⟩));exact⟨⟨_,rfl,f3⟩,f1⟩
  obtain⟨b,aM,-,bM,br⟩:=VX (QN bf.bs.rise) hid
  obtain rfl:⟨0,Zt b.fol⟩=DA:=by rw[be.out];unfold owA ZM;rw[M3 hid,J7,aM];rfl
  obtain⟨k,hk⟩:=yE (Za y.bks a.id);rw[←hk]at aM bM br
  obtain rfl:(k:Int)=ai:=by rw[bc.out];exact br.symm
  obtain⟨-,bR,-⟩:=a3 W9 (Kept.refl _ _);obtain⟨ab,aB,A3,n3,c3,hC,bL,bK,-,-⟩:=bR.bkg aM;obtain rfl:C'=some ⟨ab,aB,none⟩:=hC;have bN:ab≠I:=SaiR.apart bh (fun us=>(a3 _ ((Kept.refl (fun j=>j=I∨j=J) W9).setRow (.inl (.inl rfl)) us)).2.1) aM rfl;have bO:ab≠J:=SaiR.apart bi (fun us=>(a3 _ ((Kept.refl (fun j=>j=I∨j=J) W9).setRow (.inl (.inr rfl)) us)).2.1) aM rfl
  have bz:=yh (show ∀X,Kept (fun j=>j=I∨j=J) W9 X→yJ X ab (aB+k*11+10) A3 n3 c3∧Sl Ql 3 X All A3 n3 c3 b.fol from fun X hX=>by
   have e2:yJ X ab (aB+k*11+10) A3 n3 c3:=VFa hX (fun e=>by rcases e with e | e;exact bN e;exact bO e) (bK 10 _ rfl);obtain⟨-,hs,-⟩:=a3 X hX;obtain⟨b4,co,b2,cn,b5,bm,-,bZ,bX,-⟩:=hs.bkg aM;injection bm with bm;injection bm with e3 e4;subst e3 e4;have e5:=(bZ 10 _ rfl).symm.trans e2;injection e5 with e5;injection e5 with e6 e7 e8;subst e6 e7 e8
   exact⟨e2,bX⟩)
  have a9:=yh (show ∀X,Kept (fun j=>j=I∨j=J) W9 X→(fun w'=>(yI w' z 0 y.ship.legs∧yI w' z 1 y.ship.souls∧yJ w' z 2 A' n' ao∧yJ w' z 3 B' m' ap∧yJ w' z 4 D' aw ar∧yI w' z 5 y.fares.alone∧yI w' z 6 y.fares.third∧yJ w' z 7 E' ax au∧yI w' z 8 y.fares.down∧yI w' z 9 y.day∧yI w' z 10 y.leaves∧yJ w' z 11 (some ⟨ab,aB,none⟩) am aq∧w'.cell? ⟨z,12,none⟩=some (.bool y.closed))∧yJ w' ab (aB+k*11+10) A3 n3 c3) X from fun X hX=>⟨YG (bE.kept hX (fun e=>by omega)),(bz X hX).1⟩);have bC:=yh (fun X h=>U5 A3 n3 c3 b.fol 0 X h (ZY (bf.bs.bk b (J6 aM)).fol));have bu:=bC.out;rw[Vr]at bu;have bU:=yh bu;have b6:=bW
  have cy:k < am:=by have h9:y.bks.length=am:=bL;omega
  have cx:(0:Int)≤(k:Int):=by omega
  have aH:Kept (fun j=>j=I∨j=J) W9 W9.drew:=(Kept.refl _ W9).drew;have ae:Blk W9.drew I M9 32:=bh.bel ((J4 _ W9).drew);have af:Blk W9.drew J #[.int .i64 0,.int .i64 0] 55:=bi.bel ((J4 _ W9).drew);clear hid br bM hk bR bK bN bO bL aM bC bu be bc bf;go_upto_region 36 with(fail);refine yZ (S:=(fun w'=>(yI w' z 0 y.ship.legs∧yI w' z 1 y.ship.souls∧yJ w' z 2 A' n' ao∧yJ w' z 3 B' m' ap∧yJ w' z 4 D' aw ar∧yI w' z 5 y.fares.alone∧yI w' z 6 y.fares.third∧yJ w' z 7 E' ax au∧yI w' z 8 y.fares.down∧yI w' z 9 y.day∧yI w' z 10 y.leaves∧yJ w' z 11 (some ⟨ab,aB,none⟩) am aq∧w'.cell? ⟨z,12,none⟩=some (.bool y.closed))∧yJ w' ab (aB+k*11+10) A3 n3 c3)) (a9 _ aH) fun bo=>?_;refine yT [0,1,2,3,4,5,6] ?_;iterate 7 (refine yS ?_;simp only[yU])
  refine yR 7 fun K hK=>?_;go_simp
  (go_at_call 133;refine yN (bU _ (bz _ aH).2) ?_)
  go_wp2_with fail;refine hK.out _ _ (a9 _ aH) fun bo=>?_;clear hK K
  try simp only[yU]
  refine yT [8] ?_;iterate 1 (refine yS ?_;simp only[yU])
  refine yR 9 fun K hK=>?_
  (refine yY 32 (.tmp 4) (.tmp 132) _ (Qa y ⟨A',n',ao,B',m',ap,D',aw,ar,E',ax,au,(some ⟨ab,aB,none⟩),am,aq⟩) ae ?_)
  refine hK.out _ _ (a9 _ (aH.setRow (.inl (.inl rfl)) _)) fun bo=>?_;clear hK K
  try simp only[yU]
  (replace aH:=aH.setRow (.inl (.inl rfl)) (Qa y ⟨A',n',ao,B',m',ap,D',aw,ar,E',ax,au,(some ⟨ab,aB,none⟩),am,aq⟩);replace af:=ZD af (show J≠I by omega) (Qa y ⟨A',n',ao,B',m',ap,D',aw,ar,E',ax,au,(some ⟨ab,aB,none⟩),am,aq⟩);replace ae:=ae.row (Qa y ⟨A',n',ao,B',m',ap,D',aw,ar,E',ax,au,(some ⟨ab,aB,none⟩),am,aq⟩))
  refine yR 10 fun K hK=>?_
  (refine yY 55 (.tmp 5) (.tmp 140) _ (QD ⟨0,Zt b.fol⟩) af ?_)
  refine hK.out _ _ (a9 _ (aH.setRow (.inl (.inr rfl)) _)) fun bo=>?_;clear hK K
  try simp only[yU]
  (replace aH:=aH.setRow (.inl (.inr rfl)) (QD ⟨0,Zt b.fol⟩);replace ae:=ZD ae (show I≠J by omega) (QD ⟨0,Zt b.fol⟩);replace af:=af.row (QD ⟨0,Zt b.fol⟩))
  refine yD ?_;go_wp2_with fail;refine yq5 (.tuple #[.agg (Qa y ⟨A',n',ao,B',m',ap,D',aw,ar,E',ax,au,(some ⟨ab,aB,none⟩),am,aq⟩),.agg (QD ⟨0,Zt b.fol⟩)]) (k:=4) (l:=5) ae af underlying32 underlying55 ?_;obtain⟨f1,-,f3⟩:=a3 _ aH;exact⟨⟨_,rfl,f3⟩,f1⟩
end Go.Proofs.YtjdcokpmgionjaaGreat
