/-
  Laws and contracts.
-/
import Derived.Test.YtjdcokpmgionjaaGreatBun20
set_option linter.unusedSimpArgs false
set_option linter.unusedVariables false
set_option maxRecDepth 100000
set_option maxHeartbeats 20000000
namespace Go.Proofs.YtjdcokpmgionjaaGreat
open Proofs.Tryz Go.RowKit Go.Shelf
def QRc (x:Sai) (a:Ask):Prop:=YB a∧InI x.ship.legs
abbrev Yoa (g c:Nat) (x:Sai) (A:Option Addr) (n cap:Nat) (B:Option Addr) (m cap2:Nat) (D:Option Addr) (nd cd:Nat) (E:Option Addr) (ne ce:Nat) (C:Option Addr) (nb cb:Nat) (a:Ask) (w':World):Prop:=yI w' g 0 x.ship.legs∧yI w' g 1 x.ship.souls∧yJ w' g 2 A n cap∧yJ w' g 3 B m cap2∧yJ w' g 4 D nd cd∧yI w' g 5 x.fares.alone∧yI w' g 6 x.fares.third∧yJ w' g 7 E ne ce∧yI w' g 8 x.fares.down∧yI w' g 9 x.day∧yI w' g 10 x.leaves∧yJ w' g 11 C nb cb∧w'.cell? ⟨g,12,none⟩=some (.bool x.closed)∧yI w' c 0 a.number∧yI w' c 1 a.kind∧yI w' c 2 a.id∧yI w' c 3 a.guests∧w'.cell? ⟨c,4,none⟩=some (.bool a.level)∧yI w' c 5 a.cabin∧yI w' c 6 a.category∧yI w' c 7 a.frm∧yI w' c 8 a.upto∧yI w' c 9 a.til∧yI w' c 10 a.amount
theorem U5c {g c:Nat}{x:Sai}{A:Option Addr}{n cap:Nat}{B:Option Addr}{m X:Nat}{D:Option Addr}{Q I:Nat}{E:Option Addr}{U J:Nat}{C:Option Addr}{O F:Nat}{a:Ask}{w':World}{t u:TypeId}(V:Blk w' g (Qa x ⟨A,n,cap,B,m,X,D,Q,I,E,U,J,C,O,F⟩) t)(W:Blk w' c (QY a) u):Yoa g c x A n cap B m X D Q I E U J C O F a w':=⟨V.cell rfl,V.cell rfl,V.cell rfl,V.cell rfl,V.cell rfl,V.cell rfl,V.cell rfl,V.cell rfl,V.cell rfl,V.cell rfl,V.cell rfl,V.cell rfl,V.cell rfl,W.cell rfl,W.cell rfl,W.cell rfl,W.cell rfl,W.cell rfl,W.cell rfl,W.cell rfl,W.cell rfl,W.cell rfl,W.cell rfl,W.cell rfl⟩
noncomputable def mkA:Mk:=⟨fun x a=>if a.kind=1 then U7 x (Zr x a)else if a.kind=2 then U7 x (Zr x a)else if a.kind=3 then Qwa x a.id else if a.kind=4 then Qta x a.id a.amount else if a.kind=5 then Qqa x a.id else if a.kind=6 then Qsa x a.id a.cabin else if a.kind=7 then UV x a.til else Xm x,fun x a=>if a.kind=1 then U6 x (Zr x a) 1 else if a.kind=2 then U6 x (Zr x a) 2 else if a.kind=3 then ZTa x a.id else if a.kind=4 then ZKa x a.id a.amount else if a.kind=5 then ZCa x a.id else if a.kind=6 then ZGa x a.id a.cabin else if a.kind=7 then Y4 x a.til else XB x⟩
def YGb (x:Sai) (a:Ask):Prop:=QRc x a∧1≤a.kind∧a.kind≤8
theorem Xra {x:Sai}{a:Ask}(h:a.kind=1):mkA.x x a=U7 x (Zr x a)∧mkA.e x a=U6 x (Zr x a) 1:=by simp[mkA,h]
theorem U7a {x:Sai}{a:Ask}(h:a.kind=2):mkA.x x a=U7 x (Zr x a)∧mkA.e x a=U6 x (Zr x a) 2:=by simp[mkA,h]
theorem U8a {x:Sai}{a:Ask}(h:a.kind=3):mkA.x x a=Qwa x a.id∧mkA.e x a=ZTa x a.id:=by simp[mkA,h]
theorem U9a {x:Sai}{a:Ask}(h:a.kind=4):mkA.x x a=Qta x a.id a.amount∧mkA.e x a=ZKa x a.id a.amount:=by simp[mkA,h]
theorem Vaa {x:Sai}{a:Ask}(h:a.kind=5):mkA.x x a=Qqa x a.id∧mkA.e x a=ZCa x a.id:=by simp[mkA,h]
theorem Vba {x:Sai}{a:Ask}(h:a.kind=6):mkA.x x a=Qsa x a.id a.cabin∧mkA.e x a=ZGa x a.id a.cabin:=by simp[mkA,h]
theorem Vca {x:Sai}{a:Ask}(h:a.kind=7):mkA.x x a=UV x a.til∧mkA.e x a=Y4 x a.til:=by simp[mkA,h]
theorem Vda {x:Sai}{a:Ask}(h:a.kind=8):mkA.x x a=Xm x∧mkA.e x a=XB x:=by simp[mkA,h]
theorem U0:MadeC (fun x a=>(2≤a.kind∧a.kind≤8)∧QRc x a) mkA:=by
 intro x p a g w hS hG ⟨hkk,hA,hl⟩
 show Calls _ _ _ _ fun e w'=>YM w' w.heap.size (mkA.e x a) (mkA.x x a) e∧_
 obtain⟨R,hR⟩:=yE (mkA.e x a);obtain⟨Y,hY⟩:=yE (mkA.x x a);rw[←hR,←hY];have aa:=yh hR;have ab:=yh hY;have ah:=yh hkk;have HA:=yh hA;have ai:=yh hl;have HS:=yh hS;have HG:=yh (fun X (O:yw w X)=>hG.bel O);have aC:=hG.lt;clear hR hY hA hl hS hG hkk;obtain⟨A,n,cap,B,m,Z,D,nd,cd,E,ne,ce,C,nb,cb⟩:=p;go_enter func172,ntmps172;go_upto_region 0 with(fail);go_cut [3,4,5] (fun p p2 p3 wx=>∃c z,yp p c∧yp p2 z∧p3=.int .i64 0∧w.heap.size≤z∧w.heap.size≤c∧c≠z∧AskAt wx c a∧Blk wx z M9 32∧yw w wx)
 case first=>
  clear HG HS aa ab ah HA ai;go_wp2_with fail;go_meet;exact⟨_,_,rfl,rfl,rfl,by omega,by omega,by omega,QE _ _ _,QF _ _ _,Zo _ _ _⟩
 obtain⟨c,z,rfl,rfl,rfl,hz,aB,ay,hC,hZ,hb⟩:=hcut;obtain⟨J,rfl⟩:=yE wc;have aE:=hZ.lt
 have az:g≠z:=by omega
 have Q:=yh (show ∀X,Kept (fun k=>k=z) J X→(Yoa g c x A n cap B m Z D nd cd E ne ce C nb cb a) X from fun X O=>by
  have hg:=(HG _ hb).kept O az;have hc:Blk X c (QY a) 53:=Blk.kept hC O ay
  exact U5c hg hc)
 have c1:yI J c 1 a.kind:=hC.all.2.1;have HB:=yh hb;clear hb;have HZ:=yh hZ;clear hZ;have HT:=yh (fun X (O:yw J X)=>HB.trans (O.mono HB.size));clear hC;have ar:=fun X (O:yw J X)=>Kept.of_below (S:=fun k=>k=z) O (fun k hk h=>by omega);have U:=yh ar;clear ar;rcases(show a.kind=2∨a.kind=3∨a.kind=4∨a.kind=5∨a.kind=6∨a.kind=7∨a.kind=8 from by have:=ah.out;omega)with hk|hk|hk|hk|hk|hk|hk
 focus
  obtain⟨bo,aj⟩:=yE (Zr x a);have hI:=YS HA ai;have hn:=fun X O=>Yna x ⟨A,n,cap,B,m,Z,D,nd,cd,E,ne,ce,C,nb,cb⟩ bo none 0 0 X O (by rw[aj,Y7];exact Sl.nil _ _ _ _) (by rw[aj];exact hI);have ak:=fun X O=>Z1a x ⟨A,n,cap,B,m,Z,D,nd,cd,E,ne,ce,C,nb,cb⟩ a g X O;rw[←aj]at ak;have e1:=aa.trans (U7a hk).2;have e2:=ab.trans (U7a hk).1;rw[←aj]at e1 e2;rw[←e1,←e2]at hn;simp only[Qa]at hn;simp only[QY]at ak;have an:=yh ak;clear ak aj hI e1 e2;have aI:=yh hn
  have q1:(a.kind==1)=false:=by rw[hk];rfl
  have q2:(a.kind==2)=true:=by rw[hk];rfl
  clear hn hk;go_upto_region 5 with(fail);clear c1 q1 q2;have aG:yw J J.drew:=(J4 _ J).drew;refine yZ (S:=(Yoa g c x A n cap B m Z D nd cd E ne ce C nb cb a)) (Q _ (U _ aG)) fun aH=>?_;refine yT [0,1,2,3,4,5] ?_;iterate 6 (refine yS ?_;simp only[yU])
  refine yR 6 fun K hK=>?_;go_simp
  (go_at_call 223;refine yM (an _ (HG _ (HT _ aG))) fun w6 ap=>?_;replace aG:=aG.trans (ap.mono aG.size);clear ap)
  go_wp2_with fail;refine hK.out _ _ (Q _ (U _ aG)) fun aH=>?_;clear hK K
  try simp only[yU]
  refine yR 7 fun K hK=>?_;go_simp
  (go_at_call 33;refine(aI _ (HS.bel (HT _ aG))).mono ?_;rintro e w7 ⟨⟨y,I,rfl,W,V⟩,F⟩;have ag:=aG.size;replace aG:=aG.trans (F.mono aG.size);have HO:=yh V;have HY:=yh W;clear F V W)
  go_wp2_with fail;refine hK.out _ _ (Q _ (U _ aG)) fun aH=>?_;clear hK K
  try simp only[yU]
  refine yT [8,9] ?_;iterate 2 (refine yS ?_;simp only[yU])
  refine yR 10 fun K hK=>?_
  (refine yY 32 (.tmp 4) (.tmp 33) _ (Qa y I) (HZ.bel aG) ?_)
  refine hK.out _ _ (Q _ ((U _ aG).setRow (.inl rfl) _)) fun aH=>?_;clear hK K
  try simp only[yU]
  refine yT [11] ?_;iterate 1 (refine yS ?_;simp only[yU])
  refine yD ?_;clear an
 rotate_left
 focus
  have hn:=fun X O=>VOb x ⟨A,n,cap,B,m,Z,D,nd,cd,E,ne,ce,C,nb,cb⟩ a.id X O HA.2.2.1;rw[←aa.out.trans (U8a hk).2,←ab.out.trans (U8a hk).1]at hn;simp only[Qa]at hn;have aI:=yh hn
  have q1:(a.kind==1)=false:=by rw[hk];rfl
  have q2:(a.kind==2)=false:=by rw[hk];rfl
  have q3:(a.kind==3)=true:=by rw[hk];rfl
  clear hn hk;go_upto_region 7 with(fail);clear c1 q1 q2 q3;have aG:yw J J.drew:=(J4 _ J).drew;refine yZ (S:=(Yoa g c x A n cap B m Z D nd cd E ne ce C nb cb a)) (Q _ (U _ aG)) fun aH=>?_;refine yT [0,1,2,3,4,5] ?_;iterate 6 (refine yS ?_;simp only[yU])
  refine yR 6 fun K hK=>?_;go_simp
  (go_at_call 34;refine(aI _ (HS.bel (HT _ aG))).mono ?_;rintro e w7 ⟨⟨y,I,rfl,W,V⟩,F⟩;have ag:=aG.size;replace aG:=aG.trans (F.mono aG.size);have HO:=yh V;have HY:=yh W;clear F V W)
  go_wp2_with fail;refine hK.out _ _ (Q _ (U _ aG)) fun aH=>?_;clear hK K
  try simp only[yU]
  refine yT [7,8] ?_;iterate 2 (refine yS ?_;simp only[yU])
  refine yR 9 fun K hK=>?_
  (refine yY 32 (.tmp 4) (.tmp 44) _ (Qa y I) (HZ.bel aG) ?_)
  refine hK.out _ _ (Q _ ((U _ aG).setRow (.inl rfl) _)) fun aH=>?_;clear hK K
  try simp only[yU]
  refine yT [10] ?_;iterate 1 (refine yS ?_;simp only[yU])
  refine yD ?_
 rotate_left
 focus
  have hn:=fun X O=>YKb x ⟨A,n,cap,B,m,Z,D,nd,cd,E,ne,ce,C,nb,cb⟩ a.id a.amount X O HA.2.2.1 HA.2.2.2.2.2.2.2.2.2;rw[←aa.out.trans (U9a hk).2,←ab.out.trans (U9a hk).1]at hn;simp only[Qa]at hn;have aI:=yh hn
  have q1:(a.kind==1)=false:=by rw[hk];rfl
  have q2:(a.kind==2)=false:=by rw[hk];rfl
  have q3:(a.kind==3)=false:=by rw[hk];rfl
  have q4:(a.kind==4)=true:=by rw[hk];rfl
  clear hn hk;go_upto_region 9 with(fail);clear c1 q1 q2 q3 q4;have aG:yw J J.drew:=(J4 _ J).drew;refine yZ (S:=(Yoa g c x A n cap B m Z D nd cd E ne ce C nb cb a)) (Q _ (U _ aG)) fun aH=>?_;refine yT [0,1,2,3,4,5,6,7] ?_;iterate 8 (refine yS ?_;simp only[yU])
  refine yR 8 fun K hK=>?_;go_simp
  (go_at_call 35;refine(aI _ (HS.bel (HT _ aG))).mono ?_;rintro e w7 ⟨⟨y,I,rfl,W,V⟩,F⟩;have ag:=aG.size;replace aG:=aG.trans (F.mono aG.size);have HO:=yh V;have HY:=yh W;clear F V W)
  go_wp2_with fail;refine hK.out _ _ (Q _ (U _ aG)) fun aH=>?_;clear hK K
  try simp only[yU]
  refine yT [9,10] ?_;iterate 2 (refine yS ?_;simp only[yU])
  refine yR 11 fun K hK=>?_
  (refine yY 32 (.tmp 4) (.tmp 57) _ (Qa y I) (HZ.bel aG) ?_)
  refine hK.out _ _ (Q _ ((U _ aG).setRow (.inl rfl) _)) fun aH=>?_;clear hK K
  try simp only[yU]
  refine yT [12] ?_;iterate 1 (refine yS ?_;simp only[yU])
  refine yD ?_
 rotate_left
 focus
  have hn:=fun X O=>Yha x ⟨A,n,cap,B,m,Z,D,nd,cd,E,ne,ce,C,nb,cb⟩ a.id X O HA.2.2.1;rw[←aa.out.trans (Vaa hk).2,←ab.out.trans (Vaa hk).1]at hn;simp only[Qa]at hn;have aI:=yh hn
  have q1:(a.kind==1)=false:=by rw[hk];rfl
  have q2:(a.kind==2)=false:=by rw[hk];rfl
  have q3:(a.kind==3)=false:=by rw[hk];rfl
  have q4:(a.kind==4)=false:=by rw[hk];rfl
  have q5:(a.kind==5)=true:=by rw[hk];rfl
  clear hn hk;go_upto_region 11 with(fail);clear c1 q1 q2 q3 q4 q5;have aG:yw J J.drew:=(J4 _ J).drew;refine yZ (S:=(Yoa g c x A n cap B m Z D nd cd E ne ce C nb cb a)) (Q _ (U _ aG)) fun aH=>?_;refine yT [0,1,2,3,4,5] ?_;iterate 6 (refine yS ?_;simp only[yU])
  refine yR 6 fun K hK=>?_;go_simp
  (go_at_call 36;refine(aI _ (HS.bel (HT _ aG))).mono ?_;rintro e w7 ⟨⟨y,I,rfl,W,V⟩,F⟩;have ag:=aG.size;replace aG:=aG.trans (F.mono aG.size);have HO:=yh V;have HY:=yh W;clear F V W)
  go_wp2_with fail;refine hK.out _ _ (Q _ (U _ aG)) fun aH=>?_;clear hK K
  try simp only[yU]
  refine yT [7,8] ?_;iterate 2 (refine yS ?_;simp only[yU])
  refine yR 9 fun K hK=>?_
  (refine yY 32 (.tmp 4) (.tmp 68) _ (Qa y I) (HZ.bel aG) ?_)
  refine hK.out _ _ (Q _ ((U _ aG).setRow (.inl rfl) _)) fun aH=>?_;clear hK K
  try simp only[yU]
  refine yT [10] ?_;iterate 1 (refine yS ?_;simp only[yU])
  refine yD ?_
 rotate_left
 focus
  have hn:=fun X O=>VKb x ⟨A,n,cap,B,m,Z,D,nd,cd,E,ne,ce,C,nb,cb⟩ a.id a.cabin X O HA.2.2.1 HA.2.2.2.2.1;rw[←aa.out.trans (Vba hk).2,←ab.out.trans (Vba hk).1]at hn;simp only[Qa]at hn;have aI:=yh hn
  have q1:(a.kind==1)=false:=by rw[hk];rfl
  have q2:(a.kind==2)=false:=by rw[hk];rfl
  have q3:(a.kind==3)=false:=by rw[hk];rfl
  have q4:(a.kind==4)=false:=by rw[hk];rfl
  have q5:(a.kind==5)=false:=by rw[hk];rfl
  have q6:(a.kind==6)=true:=by rw[hk];rfl
  clear hn hk;go_upto_region 13 with(fail);clear c1 q1 q2 q3 q4 q5 q6;have aG:yw J J.drew:=(J4 _ J).drew;refine yZ (S:=(Yoa g c x A n cap B m Z D nd cd E ne ce C nb cb a)) (Q _ (U _ aG)) fun aH=>?_;refine yT [0,1,2,3,4,5,6,7] ?_;iterate 8 (refine yS ?_;simp only[yU])
  refine yR 8 fun K hK=>?_;go_simp
  (go_at_call 37;refine(aI _ (HS.bel (HT _ aG))).mono ?_;rintro e w7 ⟨⟨y,I,rfl,W,V⟩,F⟩;have ag:=aG.size;replace aG:=aG.trans (F.mono aG.size);have HO:=yh V;have HY:=yh W;clear F V W)
  go_wp2_with fail;refine hK.out _ _ (Q _ (U _ aG)) fun aH=>?_;clear hK K
  try simp only[yU]
  refine yT [9,10] ?_;iterate 2 (refine yS ?_;simp only[yU])
  refine yR 11 fun K hK=>?_
  (refine yY 32 (.tmp 4) (.tmp 81) _ (Qa y I) (HZ.bel aG) ?_)
  refine hK.out _ _ (Q _ ((U _ aG).setRow (.inl rfl) _)) fun aH=>?_;clear hK K
  try simp only[yU]
  refine yT [12] ?_;iterate 1 (refine yS ?_;simp only[yU])
  refine yD ?_
 rotate_left
 focus
  have hn:=fun X O=>VQb x ⟨A,n,cap,B,m,Z,D,nd,cd,E,ne,ce,C,nb,cb⟩ a.til X O ;rw[←aa.out.trans (Vca hk).2,←ab.out.trans (Vca hk).1]at hn;simp only[Qa]at hn;have aI:=yh hn
  have q1:(a.kind==1)=false:=by rw[hk];rfl
  have q2:(a.kind==2)=false:=by rw[hk];rfl
  have q3:(a.kind==3)=false:=by rw[hk];rfl
  have q4:(a.kind==4)=false:=by rw[hk];rfl
  have q5:(a.kind==5)=false:=by rw[hk];rfl
  have q6:(a.kind==6)=false:=by rw[hk];rfl
  have q7:(a.kind==7)=true:=by rw[hk];rfl
  clear hn hk;go_upto_region 15 with(fail);clear c1 q1 q2 q3 q4 q5 q6 q7;go_cut [6,8] (fun q e wx=>∃s y I,yp q s∧e=.int .i64 R∧J.heap.size≤s∧Blk wx s (Qa y I) 32∧y=okS R Y∧SaiO wx J.heap.size y I∧yw J wx)
  case first=>
   have aG:yw J J.drew:=(J4 _ J).drew;refine yZ (S:=(Yoa g c x A n cap B m Z D nd cd E ne ce C nb cb a)) (Q _ (U _ aG)) fun aH=>?_;refine yT [0,1,2,3,4,5] ?_;iterate 6 (refine yS ?_;simp only[yU])
   focus
    refine yr2 6 11 (fun K k6=>?_) (fun K av=>?_)
    repeat first
     |
      revert k6
      intro hK;go_simp
      (go_at_call 38;(try have aA:=fun g hg=>Blk.lt (hL g hg));refine(aI _ (HS.bel (HT _ aG))).mono ?_;rintro e w7 ⟨⟨y,I,v,xs,rfl,W,V,-⟩,F⟩;have ag:=aG.size;(try replace hL:=fun g hg=>(hL g hg).bel F);replace aG:=aG.trans (F.mono aG.size);have HO:=yh V;have HY:=yh W;clear F V W)
      go_wp2_with fail;refine hK.out _ _ (Q _ (U _ aG)) fun aH=>?_;clear hK K
      try simp only[yU]
      refine yT [7,8,9,10] ?_;iterate 4 (refine yS ?_;simp only[yU])
      first
       | refine yt1 11 (fun K av=>?_)
       | rotate_left
     |
      revert av
      intro hK;go_simp;refine hK.out _ _ (Q _ (U _ (aG.alloc aG.size (.cells M9 32)))) fun aH=>?_;clear hK K
      try simp only[yU]
      (have hL:=ZG aG M9 32;have am:=Xz aG;(try have ax:=Qi w7 (.cells M9 32));replace aG:=aG.alloc aG.size (.cells M9 32))
      first
       | refine yt1 6 (fun K k6=>?_)
       | rotate_left
    all_goals
     refine yR 12 fun K hK=>?_
     (refine wp_store_row 32 (.tmp 6) (.tmp 93) rfl _ (Qa y I) rfl rfl 32 _ (hL _ (by simp)) (by kernel_rfl) rfl (by simp[Value.oneCell']) ?_)
     refine hK.out _ _ (Q _ (U _ (M5 aG (am _ (by simp)) _))) fun aH=>?_;clear hK K
     try simp only[yU]
     refine yT [13,14] ?_;iterate 2 (refine yS ?_;simp only[yU])
     refine yD ?_;go_wp2_with fail;go_meet;refine⟨_,y,I,rfl,rfl,am _ (by simp),(hL _ (by simp)).row _,HY,?_,M5 aG (am _ (by simp)) _⟩
     first|exact(HO.mono ag).bel (M5 ax (J5 _) _)|exact(HO.kept ((yk _ w7).setRow (.inl rfl) _) (fun k hk e=>by have:=aA _ rfl;have h2:J.drew.heap.size=J.heap.size:=rfl;omega)).mono ag
  obtain⟨s,y,I,rfl,rfl,aD,aw,W,V,al⟩:=hcut;obtain⟨W2,rfl⟩:=yE wc;have af:=HZ.bel al;have HY:=yh W;have HO:=yh V;have ae:Kept (fun k=>k=z) _ (World.setRow _ z (Qa y I)):=(yk z W2).setRow (.inl rfl) _;have F:=HT _ al;have ad:=yh ae;clear ae;have ac:=yh F;clear F;have au:=HB.size;clear Q U aa ab ah HA ai al HT HB HG HS aI W V;go_wp2_with (first|(refine yV (.tmp 6) aw underlying32 ?_)|(refine yX 32 (.tmp 4) (.tmp 96) z (Qa y I) af ?_));refine yq2 (.tuple #[.agg (Qa y I),.int .i64 R]) (k:=4) (u:=5) (af.row _) underlying32 ?_;exact⟨⟨y,I,rfl,HY,(HO.kept ad (fun k hk e=>by omega)).mono (by omega)⟩,ac.trans (ad.below (B:=w.heap.size) ac.size (fun k hk e=>by omega))⟩
 focus
  have hn:=fun X O=>Uub x ⟨A,n,cap,B,m,Z,D,nd,cd,E,ne,ce,C,nb,cb⟩ X O ;rw[←aa.out.trans (Vda hk).2,←ab.out.trans (Vda hk).1]at hn;simp only[Qa]at hn;have aI:=yh hn
  have q1:(a.kind==1)=false:=by rw[hk];rfl
  have q2:(a.kind==2)=false:=by rw[hk];rfl
  have q3:(a.kind==3)=false:=by rw[hk];rfl
  have q4:(a.kind==4)=false:=by rw[hk];rfl
  have q5:(a.kind==5)=false:=by rw[hk];rfl
  have q6:(a.kind==6)=false:=by rw[hk];rfl
  have q7:(a.kind==7)=false:=by rw[hk];rfl
  clear hn hk;go_upto_region 17 with(fail);clear c1 q1 q2 q3 q4 q5 q6 q7;have hg:=HG _ HB;have ao:=yh (HS.bel HB);clear Q U aa ab ah HA ai;go_wp2_with (refine wpList_load_row rfl 32 (.tmp 100) rfl g rfl 129 _ (0,0) _ hg underlying32 rfl (by kernel_rfl) ?_);refine(aI _ ao).mono ?_;rintro e w7 ⟨⟨y,I,rfl,W,V⟩,F⟩;have HO:=yh V;have HY:=yh W;have af:=HZ.bel F;have ae:Kept (fun k=>k=z) _ (World.setRow _ z (Qa y I)):=(yk z w7).setRow (.inl rfl) _;have aq:=HT _ F;have ad:=yh ae;clear ae;have ac:=yh aq;clear aq;have au:=HB.size;clear F HT HB HG HS ao aI W V hg;go_wp2_with (refine yX 32 (.tmp 4) (.tmp 103) z (Qa y I) af ?_);refine yq2 (.tuple #[.agg (Qa y I),.int .i64 R]) (k:=4) (u:=5) (af.row _) underlying32 ?_;exact⟨⟨y,I,rfl,HY,(HO.kept ad (fun k hk e=>by omega)).mono (by omega)⟩,ac.trans (ad.below (B:=w.heap.size) ac.size (fun k hk e=>by omega))⟩
 all_goals
  have af:=HZ.bel aG;have ae:Kept (fun k=>k=z) _ (World.setRow _ z (Qa y I)):=(yk z w7).setRow (.inl rfl) _;have F:=HT _ aG;have ad:=yh ae;clear ae;have ac:=yh F;clear F;have au:=HB.size;clear Q U aG HT HB HG HS aI aa ab ah HA ai;go_wp2_with fail;refine yq2 (.tuple #[.agg (Qa y I),.int .i64 R]) (k:=4) (u:=5) (af.row _) underlying32 ?_;exact⟨⟨y,I,rfl,HY,(HO.kept ad (fun k hk e=>by omega)).mono (by omega)⟩,ac.trans (ad.below (B:=w.heap.size) ac.size (fun k hk e=>by omega))⟩
theorem QVa {a:Ask}(h:1≤a.kind∧a.kind≤8):a.kind=1∨a.kind=2∨a.kind=3∨a.kind=4∨a.kind=5∨a.kind=6∨a.kind=7∨a.kind=8:=by omega
theorem MadeC.to {P:Sai→Ask→Prop}{mk A:Mk}(H:MadeC P mk){x:Sai}{a:Ask}(E:P x a)(h:A.x x a=mk.x x a∧A.e x a=mk.e x a){p:SaiV}{g:Nat}{w:World}(F:SaiR w x p)(D:Blk w g (Qa x p) 129) :
  Calls prog 172 #[.pointer (some ⟨g,0,none⟩),.agg (QY a)] w fun e w'=>YM w' w.heap.size (A.e x a) (A.x x a) e∧yw w w':=by
 rw[h.1,h.2];exact H x p a g w F D E
theorem YTa:MadeC YGb mkA:=by
 intro x p a g w D A ⟨ho,hk⟩;rcases QVa hk with h|h|h|h|h|h|h|h
 ·exact X8.to ⟨h,YS ho.1 ho.2⟩ (Xra h) D A
 ·exact U0 x p a g w D A ⟨⟨by omega,by omega⟩,ho⟩
 ·exact U0 x p a g w D A ⟨⟨by omega,by omega⟩,ho⟩
 ·exact U0 x p a g w D A ⟨⟨by omega,by omega⟩,ho⟩
 ·exact U0 x p a g w D A ⟨⟨by omega,by omega⟩,ho⟩
 ·exact U0 x p a g w D A ⟨⟨by omega,by omega⟩,ho⟩
 ·exact U0 x p a g w D A ⟨⟨by omega,by omega⟩,ho⟩
 ·exact U0 x p a g w D A ⟨⟨by omega,by omega⟩,ho⟩
theorem Zfc {x:Sai}{a:Ask}(I:1≤a.kind∧a.kind≤8)(h:mkA.e x a=0):QD (mkA.x x a)=0∧(mkA.x x a).ship=x.ship∧(mkA.x x a).fares=x.fares:=by
 rcases QVa I with q|q|q|q|q|q|q|q
 ·rw[(Xra q).2]at h;rw[(Xra q).1];exact⟨(Vra h).2.2.2,rfl,rfl⟩
 ·rw[(U7a q).2]at h;rw[(U7a q).1];exact⟨(Vra h).2.2.2,rfl,rfl⟩
 ·rw[(U8a q).2]at h;rw[(U8a q).1];obtain⟨D,k,b,c,_,_,_,A,_⟩:=ZCb h;exact⟨D,by rw[A];rfl,by rw[A];rfl⟩
 ·rw[(U9a q).2]at h;rw[(U9a q).1];obtain⟨D,k,b,c,_,_,_,A,_⟩:=Zlb h;exact⟨D,by rw[A];rfl,by rw[A];rfl⟩
 ·rw[(Vaa q).2]at h;rw[(Vaa q).1];obtain⟨D,k,b,c,_,_,_,A,_⟩:=QYb h;exact⟨D,by rw[A];rfl,by rw[A];rfl⟩
 ·rw[(Vba q).2]at h;rw[(Vba q).1];obtain⟨D,k,b,c,_,_,_,A,_⟩:=Q7b h;exact⟨D,by rw[A];rfl,by rw[A];rfl⟩
 ·rw[(Vca q).2]at h;rw[(Vca q).1];have E:=VCb h;exact⟨ZGb E.1 E.2.1,rfl,rfl⟩
 ·rw[(Vda q).2]at h;rw[(Vda q).1];have E:=QMb h;have F:=Vq (Zm E.1) x.bks.length (J5 _);exact⟨YAa E.1,F.ship,F.fares⟩
theorem Yd:YN YGb mkA:=fun _ _ A h=>(Zfc A.2 h).1
theorem UPa {a:Ask}(h:QS a=0):1≤a.kind∧a.kind≤8:=by
 unfold QS at h;cases q:Qc a.kind 1 8
 ·rw[M3 q]at h;omega
 ·exact Ql.1 q
theorem Qza {x:Sai}{a:Ask}(h:QD x=0)(D:YB a)(A:QS a=0):YGb x a:=⟨⟨D,by
 have E:=Ql.1 (Zm h).bs.ship.legs
 exact .of (by omega) (by omega)⟩,UPa A⟩
theorem VTa {D:Func}{p q:Tmp}{ty tz:TypeId}(h:D.results=#[.cell p ty,.cell q tz])(A:Array Value)(P:Program)(w:World) :
  (results D A).run P w=((asAddr (A.getD p undef)).run P w).andThen fun a E=>((loadVar ty a).run P E).andThen fun x F=>((asAddr (A.getD q undef)).run P F).andThen fun b I=>((loadVar tz b).run P I).andThen fun y J=>.ok (.tuple #[x,y]) J:=by
 simp only[results,h];simp[Sem.run_bind,Result.andThen]
theorem Blk.retCC {F:Func}{k l:Tmp}{ty tz t s:TypeId}(U:F.results=#[.cell k ty,.cell l tz]){D:Array Value}{w:World}{g h:Nat}{cs A:Array Value}{d E:TypeDesc}(V:Blk w g cs t)(W:Blk w h A s)(Z:D.getD k undef=.pointer (some ⟨g,0,none⟩))(hq:D.getD l undef=.pointer (some ⟨h,0,none⟩))
  (hu:Tryz.prog.underlying ty=some d) (O:(match d with | .struct _ | .array _ _=>true|_=>false)=true) (X:(Tryz.prog.info? ty).map (·.size)=some cs.size)
  (aa:Tryz.prog.underlying tz=some E) (Q:(match E with | .struct _ | .array _ _=>true|_=>false)=true) (Y:(Tryz.prog.info? tz).map (·.size)=some A.size):(results F D).run prog w=.ok (.tuple #[.agg cs,.agg A]) w:=by
 have I:=V.ld hu O X;have J:=W.ld aa Q Y;rw[VTa (p:=k) (q:=l) (ty:=ty) (tz:=tz) U,Z,hq];simp only[asAddr,Sem.run_pure,Result.andThen,I,J]
def stR (a:Ask):Int:=if 0<a.til then 1 else 2
theorem Zxa {a:Ask}(h:QS a=0):YD a=true∧(Qr a.kind).all (VO a)=true:=by
 unfold QS at h;cases h1:Qc a.kind 1 8
 ·rw[M3 h1]at h;omega
 rw[M2 (by rw[h1];simp)]at h;cases h2:Qc a.number 1 65535
 ·rw[M3 h2]at h;omega
 rw[M2 (by rw[h2];simp)]at h;cases h3:YD a
 ·rw[M3 h3]at h;omega
 rw[M2 (by rw[h3];simp)]at h;refine⟨rfl,?_⟩;cases h4:(Qr a.kind).all (VO a)
 ·rw[M2 (by rw[h4];simp)]at h;omega
 ·rfl
theorem Uoa {a:Ask}(h:QS a=0)(E:a.kind=1∨a.kind=2∨a.kind=7):0≤a.til:=by
 have A:=List.all_eq_true.1 (Zxa h).2 ZJa (by unfold Qr;rcases E with q|q|q<;>rw[q]<;>simp);have D:Qc a.til 0 65535=true:=A;exact(Ql.1 D).1
theorem YNb {a:Ask}(h:QS a=0)(E:a.kind=1):a.category=0:=by
 have D:=of_decide_eq_true (Zxa h).1;have A:=congrArg Ask.category D;simp only[Va,E,Qr,if_true,zf,List.foldl,Y2,pId,VC,XV,Z9a,pTo,VN,ZJa]at A;exact A.trans rfl
theorem Q1c {a:Ask}(h:0≤a.til):stR a=stD a:=by
 unfold stR stD;by_cases q:a.til=0
 ·rw[M3 q,M2 (by omega)]
 ·rw[M2 q,M3 (by omega)]
theorem YRb {x:Sai}{a:Ask}(h:QS a=0)(A:a.kind=1):(⟨a.id,1,stR a,a.guests,a.level,a.cabin,0,a.frm,a.upto,a.til,[]⟩:Bkg)=Zr x a:=by
 unfold Zr;rw[M2 (by omega),Q1c (Uoa h (.inl A)),YNb h A]
theorem YSb {x:Sai}{a:Ask}(h:QS a=0)(A:a.kind=2):(⟨a.id,2,stR a,a.guests,a.level,-1,a.category,0,x.ship.legs,a.til,[]⟩:Bkg)=Zr x a:=by
 unfold Zr;rw[M3 A,Q1c (Uoa h (.inr (.inl A)))]
theorem SaiR.bkg {w:World}{x:Sai}{p:SaiV}(h:SaiR w x p){k:Nat}{b:Bkg}(J:x.bks[k]? = some b):∃D I A F E,p.C=some ⟨D,I,none⟩∧x.bks.length=p.nb∧(∀j u,(Qk b (.slice A F E)).toList[j]? = some u→w.cell? ⟨D,I+k*11+j,none⟩=some u)∧
  Sl Qm 3 w All A F E b.fol∧BkIn b:=by
 have V:=h.bks.len;have X:=(J0.1 J).1;obtain⟨D,I,b',A,F,E,O,W,hF,Q,U⟩:=h.bks.bkg (show k<p.nb by omega)
 obtain rfl:b'=b:=by rw[W]at J;injection J
 exact⟨D,I,A,F,E,O,V,U,hF,Q⟩
theorem SaiR.apart {y:Sai}{E:SaiV}{W:World}{z:Nat}{cs:Array Value}{t:TypeId}(U:Blk W z cs t)(h:∀us,SaiR (W.setRow z us) y E){k:Nat}{b:Bkg}(O:y.bks[k]? = some b){A V:Nat}(J:E.C=some ⟨A,V,none⟩):A≠z:=by
 rintro rfl;obtain⟨Y,aa,X,n3,Z,D,-,Q,-⟩:=(h #[]).bkg O;rw[J]at D;injection D with D;injection D with e1 e2;subst e1 e2;have F:=Q 0 (.int .i64 b.id) rfl;have I:(W.setRow A #[]).heap[A]? = some (.cells #[] t (0,0)):=U.row #[];simp[World.cell?,I]at F
def ZFc (K:World→Prop) (w w':World) (X:Sai) (N:Ans) (e:Ending):Prop:=∃p',e=.returned (.tuple #[.agg (Qa X p'),.agg (Qt N)])∧∀V,K V→NewSame w w' V→SaiR V X p'
theorem VFb (K:World→Prop)(x:Sai)(p:SaiV)(a:Ask)(L:List (List Value))(w:World)(aG:∀V V',K V→yw V V'→K V')(aC:∀V,K V→SaiR V x p)(aK:∀V,K V→Pts ZP V L x.bks)(bG:K w)(bH:Sl (ZY 11) 11 w All p.C p.nb p.cb L)
  (hx:QD x=0) (hA:YB a) (hc:QS a=0) :
  Calls prog 52 #[.agg (Qa x p),.agg (QY a)] w fun e w'=>ZFc K w w' (doX mkA x a) (doA mkA x a) e∧yw w w':=by
 have ho:=Zm hx;have hP:=Qza hx hA hc;obtain⟨R,hR⟩:=yE (mkA.e x a);obtain⟨Y,hY⟩:=yE (mkA.x x a);obtain⟨DX,bb⟩:=yE (doX mkA x a);obtain⟨DA,ba⟩:=yE (doA mkA x a)
 have aY:=yh (show R=0→DX=Y∧DA=⟨0,owA Y a.id⟩∧QD Y=0 from fun q=>by
  rw[hR]at q
  refine⟨by rw[bb,hY];exact M3 q,by rw[ba,hY];exact M3 q,by rw[hY];exact Yd x a hP q⟩)
 have aF:=yh (show ¬R=0→DX=x∧DA=⟨R,0⟩from fun q=>by
  rw[hR]at q ⊢
  exact⟨by rw[bb];exact M2 q,by rw[ba];exact M2 q⟩)
 rw[←bb,←ba];have ak:=yh (fun V (hV:yw w V)=>aG w V bG hV);have aE:=yh aC;have a5:=yh (fun V (hV:yw w V)=>aC V (ak V hV));have an:=yh (fun V (hV:yw w V)=>bH.bel hV)
 have aQ:=yh (fun(q:a.kind=1) V (hV:yw w V)=>show Calls prog 30 #[.agg (Qa x p),.agg (Qk ⟨a.id,1,stR a,a.guests,a.level,a.cabin,0,a.frm,a.upto,a.til,[]⟩ (.slice none 0 0)),.int .i64 1] V fun e w'=>Qia K V w' R Y e∧yw V w' from by
  rw[YRb (x:=x) hc q];have:=Ypa K x p (Zr x a) none 0 0 1 L V aG aC aK (ak V hV) (an V hV) (by rw[Y7];exact Sl.nil _ _ _ _) (YS hA hP.1.2) ho;rw[hR,hY,(Xra q).1,(Xra q).2];unfold U6;rw[M2 (by simpa using hx)]
  exact this)
 have aR:=yh (fun(q:a.kind=2) V (hV:yw w V)=>show Calls prog 30 #[.agg (Qa x p),.agg (Qk ⟨a.id,2,stR a,a.guests,a.level,-1,a.category,0,x.ship.legs,a.til,[]⟩ (.slice none 0 0)),.int .i64 2] V fun e w'=>Qia K V w' R Y e∧yw V w' from by
  rw[YSb (x:=x) hc q];have:=Ypa K x p (Zr x a) none 0 0 2 L V aG aC aK (ak V hV) (an V hV) (by rw[Y7];exact Sl.nil _ _ _ _) (YS hA hP.1.2) ho;rw[hR,hY,(U7a q).1,(U7a q).2];unfold U6;rw[M2 (by simpa using hx)]
  exact this)
 have aS:=yh (fun(q:a.kind=3) V (hV:yw w V)=>show Calls prog 127 #[.agg (Qa x p),.int .i64 a.id] V fun e w'=>Qia K V w' R Y e∧yw V w' from by
  rw[hR,(U8a q).2];unfold ZTa;rw[UTa hx]
  exact VNb K x p a.id Y L V aG aC aK (ak V hV) (an V hV) ho (by rw[hY,(U8a q).1]))
 have aT:=yh (fun(q:a.kind=4) V (hV:yw w V)=>show Calls prog 128 #[.agg (Qa x p),.int .i64 a.id,.int .i64 a.amount] V fun e w'=>Qia K V w' R Y e∧yw V w' from by
  rw[hR,(U9a q).2];unfold ZKa;rw[UTa hx]
  exact YJb K x p a.id a.amount Y L V aG aC aK (ak V hV) (an V hV) ho (by rw[hY,(U9a q).1]))
 have aU:=yh (fun(q:a.kind=5) V (hV:yw w V)=>show Calls prog 129 #[.agg (Qa x p),.int .i64 a.id] V fun e w'=>Qia K V w' R Y e∧yw V w' from by
  rw[hR,(Vaa q).2];unfold ZCa;rw[UTa hx]
  exact Ufa K x p a.id Y L V aG aC aK (ak V hV) (an V hV) ho (by rw[hY,(Vaa q).1]))
 have aV:=yh (fun(q:a.kind=6) V (hV:yw w V)=>show Calls prog 130 #[.agg (Qa x p),.int .i64 a.id,.int .i64 a.cabin] V fun e w'=>Qia K V w' R Y e∧yw V w' from by
  rw[hR,(Vba q).2];unfold ZGa;rw[UTa hx]
  exact VJb K x p a.id a.cabin Y L V aG aC aK (ak V hV) (an V hV) ho hA.2.2.2.2.1 (by rw[hY,(Vba q).1]))
 have aW:=yh (fun(q:a.kind=7) V (hV:yw w V) (h1:¬9999<a.til)=>show Calls prog 131 #[.agg (Qa x p),.int .i64 a.til] V fun e w'=>QTc K V w' Y (Vxa x a.til) e∧yw V w' from by
  rw[hY,(Vca q).1]
  exact VPb K x p a.til L V aG aC aK (ak V hV) (an V hV) ho ⟨Uoa hc (.inr (.inr q)),by omega⟩)
 have aN:=yh (fun(q:a.kind=7)=>show R=if 9999<a.til then 3 else if a.til≤x.day then 4 else 0 from by
  have ht:=Uoa hc (.inr (.inr q));rw[hR,(Vca q).2];unfold Y4;rw[M2 (by simpa using hx)];by_cases h1:9999<a.til
  ·rw[M3 h1,M3 (QM (by omega))]
  ·rw[M2 h1,M2 (by rw[Ql.2 (by omega)];simp)])
 have aX:=yh (fun(q:a.kind=8) V (hV:yw w V)=>show Calls prog 132 #[.agg (Qa x p)] V fun e w'=>QSc K V w' Y e∧yw V w' from by
  rw[hY,(Vda q).1]
  exact Utb K x p L V aG aC aK (ak V hV) (an V hV) ho)
 have aO:=yh (fun(q:a.kind=8)=>show R=if x.closed=true then 4 else 0 from by
  rw[hR,(Vda q).2];unfold XB
  rw[M2 (by simpa using hx)])
 have aP:=yh (UPa hc);clear hR hY bb ba hP ho aG aC aK bG bH hx hc hA;obtain⟨A,n,cap,B,m,cu,D,nd,cd,E,ne,ce,C,nb,cb⟩:=p;go_enter func52,ntmps52;go_upto_region 0 with(fail);go_cut [2,3,4,5] (fun p1 p2 p3 p4 wx=>∃g c I J,yp p1 g∧yp p2 c∧yp p3 I∧yp p4 J∧w.heap.size≤g∧g<c∧c<I∧I<J∧Blk wx g (Qa x ⟨A,n,cap,B,m,cu,D,nd,cd,E,ne,ce,C,nb,cb⟩) 32∧Blk wx c (QY a) 53∧Blk wx I M9 32∧Blk wx J #[.int .i64 0,.int .i64 0] 55∧yw w wx)
 case first=>
  clear aY aF ak aE a5 an aQ aR aS aT aU aV aW aX aN aO aP;go_wp2_with fail;go_meet;exact⟨_,_,_,_,rfl,rfl,rfl,rfl,J5 _,by omega,by omega,by omega,(Blk.old (Vc _ _ _ _) _),(Blk.old (Vd _ _ _ _) _),(Blk.old (Ve _ _ _ _) _),Blk.new3 _ _ _ _ _ _,(X0 _ _ _ _).alloc (by simp;omega) _⟩
 obtain⟨g,c,I,J,rfl,rfl,rfl,rfl,b9,ca,b8,bW,hG,hC,aA,av,hb⟩:=hcut;obtain⟨W1,rfl⟩:=yE wc;have b7:=av.lt;obtain⟨c0,c1,c2,c3,c4,c5,c6,c7,c8,c9,bj⟩:=AskAt.all hC;go_upto_region 1 with(fail);go_cut [6] (fun p1 wx=>∃h,yp p1 h∧W1.heap.size≤h∧Blk wx h (Qk ⟨a.id,1,2,a.guests,a.level,a.cabin,0,a.frm,a.upto,a.til,[]⟩ (.slice none 0 0)) 63∧yw W1 wx)
 case first=>
  clear aY aF ak aE a5 an aQ aR aS aT aU aV aW aX aN aO aP hG hC aA av hb;go_wp2_with fail;go_meet;exact⟨_,rfl,J5 _,Blk.new W1 _ _,Qi _ _⟩
 obtain⟨h,rfl,cw,hH,a0⟩:=hcut;obtain⟨W2,rfl⟩:=yE wc;have cf:=a0.size;have cc:=hH.lt;replace hG:=hG.bel a0;replace hC:=AskAt.bel hC a0;replace aA:=aA.bel a0;replace av:=av.bel a0;replace hb:=hb.trans (a0.mono hb.size);clear c0 c1 c2 c3 c4 c5 c6 c7 c8 c9 bj a0;have c9:=(AskAt.all hC).2.2.2.2.2.2.2.2.2.1;go_upto_if 25 with(fail);go_cut [] (fun wx=>Blk wx h (Qk ⟨a.id,1,stR a,a.guests,a.level,a.cabin,0,a.frm,a.upto,a.til,[]⟩ (.slice none 0 0)) 63∧Kept (fun j=>j=h) W2 wx)
 case first=>
  have hK:=fun(v:Value)=>(yk h W2).setCell (p:=⟨h,2,none⟩) (.inl rfl) v;have h1:=hH.set (j:=2) (.int .i64 1);have y2:yI W2 h 2 2:=hH.cell rfl;have f2:=hH.free 2;by_cases ht:0<a.til
  ·have bv:stR a=1:=M3 ht;have d1:decide (0<a.til)=true:=J2 ht;clear aY aF ak aE a5 an aQ aR aS aT aU aV aW aX aN aO aP hG aA av hb;go_wp2_with fail;go_meet;exact⟨by rw[bv];exact h1,hK _⟩
  ·have bv:stR a=2:=M2 ht;have d1:decide (0<a.til)=false:=J3 ht;clear aY aF ak aE a5 an aQ aR aS aT aU aV aW aX aN aO aP hG aA av hb;go_wp2_with fail;go_meet;exact⟨by rw[bv];exact hH,Kept.refl _ _⟩
 obtain⟨bn,aZ⟩:=hcut;obtain⟨W3,rfl⟩:=yE wc;have cg:=aZ.size;replace hG:=hG.kept aZ (by omega);replace hC:=AskAt.kept hC aZ (by omega);replace aA:=aA.kept aZ (by omega);replace av:=av.kept aZ (by omega);replace hb:=hb.trans (aZ.below (B:=w.heap.size) hb.size (fun j hj e=>by omega));clear c9 aZ hH;go_upto_region 4 with(fail);go_cut [7] (fun p1 wx=>∃z,yp p1 z∧W3.heap.size≤z∧Blk wx z (Qa x ⟨A,n,cap,B,m,cu,D,nd,cd,E,ne,ce,C,nb,cb⟩) 32∧yw W3 wx)
 case first=>
  have O:=hG;clear aY aF ak aE a5 an aQ aR aS aT aU aV aW aX aN aO aP hG hC aA av hb bn;go_wp2_with (first|(refine yV (.tmp 2) O underlying32 ?_)|(refine yX 32 (.tmp 7) (.tmp 27) W3.heap.size (Qa x ⟨A,n,cap,B,m,cu,D,nd,cd,E,ne,ce,C,nb,cb⟩) (Blk.new W3 M9 32) ?_));go_meet;exact⟨_,rfl,J5 _,(Blk.new W3 _ _).row _,M5 (Qi W3 _) (J5 _) _⟩
 obtain⟨z,rfl,ck,hZ,aL⟩:=hcut;obtain⟨W4,rfl⟩:=yE wc;have ch:=aL.size;have cl:=hZ.lt;replace hG:=hG.bel aL;replace hC:=AskAt.bel hC aL;replace aA:=aA.bel aL;replace av:=av.bel aL;have hH:=bn.bel aL;replace hb:=hb.trans (aL.mono hb.size);clear aL bn;have c1:=(AskAt.all hC).2.1;have HB:=yh hb;have HG:=yh hG;have HC:=yh hC;have a7:=yh aA;have a8:=yh av;have HZ:=yh hZ;have HH:=yh hH;clear hb hG hC aA av hZ hH;have ah:=yh (fun X (v:Array Value)=>(yj z h X).setRow (.inl (.inl rfl)) v);have aD:=HB.size;have ah:=yh (fun X (v:Array Value)=>(yj z h X).setRow (.inl (.inl rfl)) v);have aD:=HB.size;have ah:=yh (fun X (v:Array Value)=>(yj z h X).setRow (.inl (.inl rfl)) v);have aD:=HB.size;have ah:=yh (fun X (v:Array Value)=>(yj z h X).setRow (.inl (.inl rfl)) v);have aD:=HB.size;have ah:=yh (fun X (v:Array Value)=>(yj z h X).setRow (.inl (.inl rfl)) v);have aD:=HB.size;have ah:=yh (fun X (v:Array Value)=>(yj z h X).setRow (.inl (.inl rfl)) v);have aD:=HB.size;have ah:=yh (fun X (v:Array Value)=>(yj z h X).setRow (.inl (.inl rfl)) v);have aD:=HB.size;have ah:=yh (fun X (v:Array Value)=>(yj z h X).setRow (.inl (.inl rfl)) v);have aD:=HB.size;have ah:=yh (fun X (v:Array Value)=>(yj z h X).setRow (.inl (.inl rfl)) v);have aD:=HB.size;have ah:=yh (fun X (v:Array Value)=>(yj z h X).setRow (.inl (.inl rfl)) v);have aD:=HB.size;have ah:=yh (fun X (v:Array Value)=>(yj z h X).setRow (.inl (.inl rfl)) v);have aD:=HB.size;rcases QVa aP.out with q|q|q|q|q|q|q|q
 focus
  have q1:(a.kind==1)=true:=by rw[q];rfl
  go_upto_region 8 with(fail);have ct:=yh (aQ q _ HB);have O:=HG.out;have hh:=HH.out;go_wp2_with (first|(refine yV (.tmp 2) O underlying32 ?_)|(refine yV (.tmp 6) hh underlying63 ?_));refine ct.mono ?_;rintro e W ⟨⟨y,p',rfl,hy,hk⟩,cr⟩;have HQ:=yh hk;have aj:=yh hy;have U:=yh (HZ.bel cr);have Q:=yh cr;clear hk cr ct O hh hy q1 q;have al:=Q.size;have cq:=yh (ah W (Qa y p'));have aa:=yh ((Kept.of_below Q (fun j hj F=>absurd F (by omega))).trans cq);have ad:=yh (show R=0→y=Y∧∀V,K V→NewSame W4 (W.setRow z (Qa y p')) V→SaiR V y p' from fun q0=>⟨by rw[aj.out,q0];rfl,fun V h1 F=>HQ V h1 (fun j b1 Z=>(F j (by omega) (Nat.lt_of_lt_of_le Z cq.size)).trans (cq.block j Z (by omega)))⟩);have ag:=yh (U.row (Qa y p'));go_upto_region 31 with(refine yX 32 (.tmp 7) (.tmp 36) z (Qa y p') U ?_);obtain⟨W8,ac⟩:=yE (W.setRow z (Qa y p'));rw[←ac]at aa ad ag ⊢;clear ac cq U Q HQ aj al
 rotate_left
 focus
  have q1:(a.kind==1)=false:=by rw[q];rfl
  have q2:(a.kind==2)=true:=by rw[q];rfl
  have c6:=(AskAt.all HC).2.2.2.2.2.2.1;have y1:yI W4 h 1 1:=HH.cell rfl;have y5:yI W4 h 5 a.cabin:=HH.cell rfl;have y6:yI W4 h 6 0:=HH.cell rfl;have f1:=HH.free 1;have f5:=HH.free 5;have f6:=HH.free 6;go_upto_region 10 with(fail);go_cut [] (fun wx=>Blk wx h (Qk ⟨a.id,2,stR a,a.guests,a.level,-1,a.category,a.frm,a.upto,a.til,[]⟩ (.slice none 0 0)) 63∧Kept (fun j=>j=h) W4 wx)
  case first=>
   go_region;go_wp2_with fail;go_meet;exact⟨((HH.set (j:=1) (.int .i64 2)).set (j:=5) (.int .i64 (-1))).set (j:=6) (.int .i64 a.category),((((yk h W4).setCell (p:=⟨h,1,none⟩) (.inl rfl) _).setCell (p:=⟨h,5,none⟩) (.inl rfl) _).setCell (p:=⟨h,6,none⟩) (.inl rfl) _).drew⟩
  obtain⟨a6,bp⟩:=hcut;obtain⟨W5,rfl⟩:=yE wc;clear c6 y1 y5 y6 f1 f5 f6;have g0:yI W5 g 0 x.ship.legs:=(HG.kept bp (by omega)).cell rfl;have y7:yI W5 h 7 a.frm:=a6.cell rfl;have y8:yI W5 h 8 a.upto:=a6.cell rfl;have f7:=a6.free 7;have f8:=a6.free 8;have h1:=(a6.set (j:=7) (.int .i64 0)).set (j:=8) (.int .i64 x.ship.legs);have bF:=(bp.setCell (p:=⟨h,7,none⟩) (.inl rfl) (.int .i64 0)).setCell (p:=⟨h,8,none⟩) (.inl rfl) (.int .i64 x.ship.legs);have bA:=yh h1;have a4:=yh bF;clear a6 bp h1 bF;go_upto_region 12 with(fail);obtain⟨W6,bI⟩:=yE ((W5.setCell ⟨h,7,none⟩ (.int .i64 0)).setCell ⟨h,8,none⟩ (.int .i64 x.ship.legs));rw[←bI]at bA a4 ⊢;clear bI g0 y7 y8 f7 f8;have bV:=yh (HZ.kept a4 (fun e=>by omega));have ci:=a4.size;go_upto_region 12 with(fail);have ct:=yh (aR q _ (HB.trans (a4.below (B:=w.heap.size) HB.size (fun j hj e=>by omega))));have O:=(HG.kept a4 (fun e=>by omega));have hh:=bA.out;go_wp2_with (first|(refine yV (.tmp 2) O underlying32 ?_)|(refine yV (.tmp 6) hh underlying63 ?_));refine ct.mono ?_;rintro e W ⟨⟨y,p',rfl,hy,hk⟩,cr⟩;have HQ:=yh hk;have aj:=yh hy;have U:=yh (bV.bel cr);have Q:=yh cr;clear hk cr ct O hh hy q1 q2 q;have al:=Q.size;have cq:=yh (ah W (Qa y p'));have aa:=yh ((a4.mono (fun _ _ e=>Or.inr e)).trans ((Kept.of_below Q (fun j hj F=>absurd F (by omega))).trans cq));have ad:=yh (show R=0→y=Y∧∀V,K V→NewSame W4 (W.setRow z (Qa y p')) V→SaiR V y p' from fun q0=>⟨by rw[aj.out,q0];rfl,fun V h1 F=>HQ V h1 (fun j b1 Z=>(F j (by omega) (Nat.lt_of_lt_of_le Z cq.size)).trans (cq.block j Z (by omega)))⟩);have ag:=yh (U.row (Qa y p'));go_upto_region 31 with(refine yX 32 (.tmp 7) (.tmp 54) z (Qa y p') U ?_);obtain⟨W8,ac⟩:=yE (W.setRow z (Qa y p'));rw[←ac]at aa ad ag ⊢;clear ac cq U Q HQ aj al
 rotate_left
 focus
  have q1:(a.kind==1)=false:=by rw[q];rfl
  have q2:(a.kind==2)=false:=by rw[q];rfl
  have q3:(a.kind==3)=true:=by rw[q];rfl
  have c2:=(AskAt.all HC).2.2.1;go_upto_region 14 with(fail);have ct:=yh (aS q _ HB);have O:=HG.out;go_wp2_with (refine yV (.tmp 2) O underlying32 ?_);refine ct.mono ?_;rintro e W ⟨⟨y,p',rfl,hy,hk⟩,cr⟩;have HQ:=yh hk;have aj:=yh hy;have U:=yh (HZ.bel cr);have Q:=yh cr;clear hk cr ct O hy q1 q2 q3 q c2;have al:=Q.size;have cq:=yh (ah W (Qa y p'));have aa:=yh ((Kept.of_below Q (fun j hj F=>absurd F (by omega))).trans cq);have ad:=yh (show R=0→y=Y∧∀V,K V→NewSame W4 (W.setRow z (Qa y p')) V→SaiR V y p' from fun q0=>⟨by rw[aj.out,q0];rfl,fun V h1 F=>HQ V h1 (fun j b1 Z=>(F j (by omega) (Nat.lt_of_lt_of_le Z cq.size)).trans (cq.block j Z (by omega)))⟩);have ag:=yh (U.row (Qa y p'));go_upto_region 31 with(refine yX 32 (.tmp 7) (.tmp 63) z (Qa y p') U ?_);obtain⟨W8,ac⟩:=yE (W.setRow z (Qa y p'));rw[←ac]at aa ad ag ⊢;clear ac cq U Q HQ aj al
 rotate_left
 focus
  have q1:(a.kind==1)=false:=by rw[q];rfl
  have q2:(a.kind==2)=false:=by rw[q];rfl
  have q3:(a.kind==3)=false:=by rw[q];rfl
  have q4:(a.kind==4)=true:=by rw[q];rfl
  have c2:=(AskAt.all HC).2.2.1;have bj:=(AskAt.all HC).2.2.2.2.2.2.2.2.2.2;go_upto_region 16 with(fail);have ct:=yh (aT q _ HB);have O:=HG.out;go_wp2_with (refine yV (.tmp 2) O underlying32 ?_);refine ct.mono ?_;rintro e W ⟨⟨y,p',rfl,hy,hk⟩,cr⟩;have HQ:=yh hk;have aj:=yh hy;have U:=yh (HZ.bel cr);have Q:=yh cr;clear hk cr ct O hy q1 q2 q3 q4 q c2 bj;have al:=Q.size;have cq:=yh (ah W (Qa y p'));have aa:=yh ((Kept.of_below Q (fun j hj F=>absurd F (by omega))).trans cq);have ad:=yh (show R=0→y=Y∧∀V,K V→NewSame W4 (W.setRow z (Qa y p')) V→SaiR V y p' from fun q0=>⟨by rw[aj.out,q0];rfl,fun V h1 F=>HQ V h1 (fun j b1 Z=>(F j (by omega) (Nat.lt_of_lt_of_le Z cq.size)).trans (cq.block j Z (by omega)))⟩);have ag:=yh (U.row (Qa y p'));go_upto_region 31 with(refine yX 32 (.tmp 7) (.tmp 74) z (Qa y p') U ?_);obtain⟨W8,ac⟩:=yE (W.setRow z (Qa y p'));rw[←ac]at aa ad ag ⊢;clear ac cq U Q HQ aj al
 rotate_left
 focus
  have q1:(a.kind==1)=false:=by rw[q];rfl
  have q2:(a.kind==2)=false:=by rw[q];rfl
  have q3:(a.kind==3)=false:=by rw[q];rfl
  have q4:(a.kind==4)=false:=by rw[q];rfl
  have q5:(a.kind==5)=true:=by rw[q];rfl
  have c2:=(AskAt.all HC).2.2.1;go_upto_region 18 with(fail);have ct:=yh (aU q _ HB);have O:=HG.out;go_wp2_with (refine yV (.tmp 2) O underlying32 ?_);refine ct.mono ?_;rintro e W ⟨⟨y,p',rfl,hy,hk⟩,cr⟩;have HQ:=yh hk;have aj:=yh hy;have U:=yh (HZ.bel cr);have Q:=yh cr;clear hk cr ct O hy q1 q2 q3 q4 q5 q c2;have al:=Q.size;have cq:=yh (ah W (Qa y p'));have aa:=yh ((Kept.of_below Q (fun j hj F=>absurd F (by omega))).trans cq);have ad:=yh (show R=0→y=Y∧∀V,K V→NewSame W4 (W.setRow z (Qa y p')) V→SaiR V y p' from fun q0=>⟨by rw[aj.out,q0];rfl,fun V h1 F=>HQ V h1 (fun j b1 Z=>(F j (by omega) (Nat.lt_of_lt_of_le Z cq.size)).trans (cq.block j Z (by omega)))⟩);have ag:=yh (U.row (Qa y p'));go_upto_region 31 with(refine yX 32 (.tmp 7) (.tmp 83) z (Qa y p') U ?_);obtain⟨W8,ac⟩:=yE (W.setRow z (Qa y p'));rw[←ac]at aa ad ag ⊢;clear ac cq U Q HQ aj al
 rotate_left
 focus
  have q1:(a.kind==1)=false:=by rw[q];rfl
  have q2:(a.kind==2)=false:=by rw[q];rfl
  have q3:(a.kind==3)=false:=by rw[q];rfl
  have q4:(a.kind==4)=false:=by rw[q];rfl
  have q5:(a.kind==5)=false:=by rw[q];rfl
  have q6:(a.kind==6)=true:=by rw[q];rfl
  have c2:=(AskAt.all HC).2.2.1;have c5:=(AskAt.all HC).2.2.2.2.2.1;go_upto_region 20 with(fail);have ct:=yh (aV q _ HB);have O:=HG.out;go_wp2_with (refine yV (.tmp 2) O underlying32 ?_);refine ct.mono ?_;rintro e W ⟨⟨y,p',rfl,hy,hk⟩,cr⟩;have HQ:=yh hk;have aj:=yh hy;have U:=yh (HZ.bel cr);have Q:=yh cr;clear hk cr ct O hy q1 q2 q3 q4 q5 q6 q c2 c5;have al:=Q.size;have cq:=yh (ah W (Qa y p'));have aa:=yh ((Kept.of_below Q (fun j hj F=>absurd F (by omega))).trans cq);have ad:=yh (show R=0→y=Y∧∀V,K V→NewSame W4 (W.setRow z (Qa y p')) V→SaiR V y p' from fun q0=>⟨by rw[aj.out,q0];rfl,fun V h1 F=>HQ V h1 (fun j b1 Z=>(F j (by omega) (Nat.lt_of_lt_of_le Z cq.size)).trans (cq.block j Z (by omega)))⟩);have ag:=yh (U.row (Qa y p'));go_upto_region 31 with(refine yX 32 (.tmp 7) (.tmp 94) z (Qa y p') U ?_);obtain⟨W8,ac⟩:=yE (W.setRow z (Qa y p'));rw[←ac]at aa ad ag ⊢;clear ac cq U Q HQ aj al
 rotate_left
 all_goals
  first
   |
    have aJ:=yh (HG.kept aa (fun e=>by omega));have ay:=yh (a7.kept aa (fun e=>by omega));have az:=yh (a8.kept aa (fun e=>by omega));have aI:=yh (fun u v=>HB.trans ((((aa.mono (fun _ _ e=>Or.inl e)).setRow (S:=fun j=>(j=z∨j=h)∨(j=I∨j=J)) (.inl (.inr (.inl rfl))) u).setRow (.inl (.inr (.inr rfl))) v).below (B:=w.heap.size) HB.size (fun j hj e=>by omega)));by_cases q0:R=0;rotate_left
    ·have q1:(R !=0)=true:=by simpa using q0
     obtain⟨e1,e2⟩:=aF q0;obtain rfl:x=DX:=e1.symm;subst e2;clear q0;have O:=aJ.out;have ae:=ay.out;have af:=Zd az (show J≠I by omega) (Qa x ⟨A,n,cap,B,m,cu,D,nd,cd,E,ne,ce,C,nb,cb⟩);have HF:=yh (aI (Qa x ⟨A,n,cap,B,m,cu,D,nd,cd,E,ne,ce,C,nb,cb⟩) (Qt ⟨R,0⟩));go_wp2_with (first|(refine yV (.tmp 2) O underlying32 ?_)|(refine yX 32 (.tmp 4) (.tmp 121) I (Qa x ⟨A,n,cap,B,m,cu,D,nd,cd,E,ne,ce,C,nb,cb⟩) ae ?_)|(refine yX 55 (.tmp 5) (.tmp 123) J (Qt ⟨R,0⟩) af ?_));refine yq5 (.tuple #[.agg (Qa x ⟨A,n,cap,B,m,cu,D,nd,cd,E,ne,ce,C,nb,cb⟩),.agg (Qt ⟨R,0⟩)]) (k:=4) (l:=5) (Zd (ae.row _) (show I≠J by omega) _) (af.row _) underlying32 underlying55 ?_;exact⟨⟨_,rfl,fun V h1 _=>aE V h1⟩,HF⟩
    obtain rfl:0=R:=q0.symm;clear aJ ay az aI
   | skip
 focus
  have q1:(a.kind==1)=false:=by rw[q];rfl
  have q2:(a.kind==2)=false:=by rw[q];rfl
  have q3:(a.kind==3)=false:=by rw[q];rfl
  have q4:(a.kind==4)=false:=by rw[q];rfl
  have q5:(a.kind==5)=false:=by rw[q];rfl
  have q6:(a.kind==6)=false:=by rw[q];rfl
  have q7:(a.kind==7)=true:=by rw[q];rfl
  have c9:=(AskAt.all HC).2.2.2.2.2.2.2.2.2.1;have g9:yI W4 g 9 x.day:=HG.cell rfl;have HE:=yh (aN q);have aJ:=HG;have ay:=a7;have az:=a8;have aI:=yh (fun u v=>HB.trans ((((yj I J W4).setRow (.inl (.inl rfl)) u).setRow (.inl (.inr rfl)) v).below (B:=w.heap.size) HB.size (fun j hj e=>by omega)));by_cases t1:9999<a.til
  ·have d1:decide (9999<a.til)=true:=J2 t1
   obtain rfl:3=R:=by rw[HE.out,M3 t1]
   obtain⟨e1,e2⟩:=aF (by decide);obtain rfl:x=DX:=e1.symm;subst e2;clear q HE;have O:=aJ.out;have ae:=ay.out;have af:=Zd az (show J≠I by omega) (Qa x ⟨A,n,cap,B,m,cu,D,nd,cd,E,ne,ce,C,nb,cb⟩);have HF:=yh (aI (Qa x ⟨A,n,cap,B,m,cu,D,nd,cd,E,ne,ce,C,nb,cb⟩) (Qt ⟨3,0⟩));go_wp2_with (first|(refine yV (.tmp 2) O underlying32 ?_)|(refine yX 32 (.tmp 4) (.tmp 121) I (Qa x ⟨A,n,cap,B,m,cu,D,nd,cd,E,ne,ce,C,nb,cb⟩) ae ?_)|(refine yX 55 (.tmp 5) (.tmp 123) J (Qt ⟨3,0⟩) af ?_));refine yq5 (.tuple #[.agg (Qa x ⟨A,n,cap,B,m,cu,D,nd,cd,E,ne,ce,C,nb,cb⟩),.agg (Qt ⟨3,0⟩)]) (k:=4) (l:=5) (Zd (ae.row _) (show I≠J by omega) _) (af.row _) underlying32 underlying55 ?_;exact⟨⟨_,rfl,fun V h1 _=>aE V h1⟩,HF⟩
  have h1:=t1;have d1:decide (9999<a.til)=false:=J3 t1;by_cases t2:a.til≤x.day
  ·have d2:decide (a.til≤x.day)=true:=J2 t2
   obtain rfl:4=R:=by rw[HE.out,M2 t1,M3 t2]
   obtain⟨e1,e2⟩:=aF (by decide);obtain rfl:x=DX:=e1.symm;subst e2;clear q HE;have O:=aJ.out;have ae:=ay.out;have af:=Zd az (show J≠I by omega) (Qa x ⟨A,n,cap,B,m,cu,D,nd,cd,E,ne,ce,C,nb,cb⟩);have HF:=yh (aI (Qa x ⟨A,n,cap,B,m,cu,D,nd,cd,E,ne,ce,C,nb,cb⟩) (Qt ⟨4,0⟩));go_wp2_with (first|(refine yV (.tmp 2) O underlying32 ?_)|(refine yX 32 (.tmp 4) (.tmp 121) I (Qa x ⟨A,n,cap,B,m,cu,D,nd,cd,E,ne,ce,C,nb,cb⟩) ae ?_)|(refine yX 55 (.tmp 5) (.tmp 123) J (Qt ⟨4,0⟩) af ?_));refine yq5 (.tuple #[.agg (Qa x ⟨A,n,cap,B,m,cu,D,nd,cd,E,ne,ce,C,nb,cb⟩),.agg (Qt ⟨4,0⟩)]) (k:=4) (l:=5) (Zd (ae.row _) (show I≠J by omega) _) (af.row _) underlying32 underlying55 ?_;exact⟨⟨_,rfl,fun V h1 _=>aE V h1⟩,HF⟩
  have d2:decide (a.til≤x.day)=false:=J3 t2
  obtain rfl:0=R:=by rw[HE.out,M2 t1,M2 t2]
  go_upto_region 26 with(fail);have ct:=yh (aW q _ HB h1);have O:=HG.out;go_wp2_with (refine yV (.tmp 2) O underlying32 ?_);refine ct.mono ?_;rintro e W ⟨⟨p',v,xs,rfl,hk,-⟩,cr⟩;have HQ:=yh hk;have U:=yh (HZ.bel cr);have Q:=yh cr;clear hk cr ct O q1 q2 q3 q4 q5 q6 q7 q c9 g9 d1 d2 h1 t1 t2 HE aJ ay az aI;have al:=Q.size;have cq:=yh (ah W (Qa Y p'));have aa:=yh ((Kept.of_below Q (fun j hj F=>absurd F (by omega))).trans cq);have ad:=yh (show(0:Int)=0→Y=Y∧∀V,K V→NewSame W4 (W.setRow z (Qa Y p')) V→SaiR V Y p' from fun q0=>⟨rfl,fun V h1 F=>HQ V h1 (fun j b1 Z=>(F j (by omega) (Nat.lt_of_lt_of_le Z cq.size)).trans (cq.block j Z (by omega)))⟩);have ag:=yh (U.row (Qa Y p'));go_upto_region 31 with(refine yX 32 (.tmp 7) (.tmp 111) z (Qa Y p') U ?_);obtain⟨W8,ac⟩:=yE (W.setRow z (Qa Y p'));rw[←ac]at aa ad ag ⊢;clear ac cq U Q HQ al;obtain⟨y,a2⟩:=yE Y;rw[←a2]at ag;replace ad:=yh (show(0:Int)=0→y=Y∧∀V,K V→NewSame W4 W8 V→SaiR V y p' from fun q0=>by rw[a2];exact⟨rfl,(ad (by trivial)).2⟩);clear a2
 rotate_left
 focus
  have q1:(a.kind==1)=false:=by rw[q];rfl
  have q2:(a.kind==2)=false:=by rw[q];rfl
  have q3:(a.kind==3)=false:=by rw[q];rfl
  have q4:(a.kind==4)=false:=by rw[q];rfl
  have q5:(a.kind==5)=false:=by rw[q];rfl
  have q6:(a.kind==6)=false:=by rw[q];rfl
  have q7:(a.kind==7)=false:=by rw[q];rfl
  have q8:(a.kind==8)=true:=by rw[q];rfl
  have bl:W4.cell? ⟨g,12,none⟩=some (.bool x.closed):=HG.cell rfl;have HE:=yh (aO q);have aJ:=HG;have ay:=a7;have az:=a8;have aI:=yh (fun u v=>HB.trans ((((yj I J W4).setRow (.inl (.inl rfl)) u).setRow (.inl (.inr rfl)) v).below (B:=w.heap.size) HB.size (fun j hj e=>by omega)));cases hcl:x.closed;rotate_left
  ·rw[hcl]at bl
   obtain rfl:4=R:=by rw[HE.out,hcl];rfl
   clear hcl;obtain⟨e1,e2⟩:=aF (by decide);obtain rfl:x=DX:=e1.symm;subst e2;clear q HE;have O:=aJ.out;have ae:=ay.out;have af:=Zd az (show J≠I by omega) (Qa x ⟨A,n,cap,B,m,cu,D,nd,cd,E,ne,ce,C,nb,cb⟩);have HF:=yh (aI (Qa x ⟨A,n,cap,B,m,cu,D,nd,cd,E,ne,ce,C,nb,cb⟩) (Qt ⟨4,0⟩));go_wp2_with (first|(refine yV (.tmp 2) O underlying32 ?_)|(refine yX 32 (.tmp 4) (.tmp 121) I (Qa x ⟨A,n,cap,B,m,cu,D,nd,cd,E,ne,ce,C,nb,cb⟩) ae ?_)|(refine yX 55 (.tmp 5) (.tmp 123) J (Qt ⟨4,0⟩) af ?_));refine yq5 (.tuple #[.agg (Qa x ⟨A,n,cap,B,m,cu,D,nd,cd,E,ne,ce,C,nb,cb⟩),.agg (Qt ⟨4,0⟩)]) (k:=4) (l:=5) (Zd (ae.row _) (show I≠J by omega) _) (af.row _) underlying32 underlying55 ?_;exact⟨⟨_,rfl,fun V h1 _=>aE V h1⟩,HF⟩
  obtain rfl:0=R:=by rw[HE.out,hcl];rfl
  rw[hcl]at bl;have b3:=yh hcl;clear hcl;go_upto_region 30 with(fail);have ct:=yh (aX q _ HB);have O:=HG.out;go_wp2_with (refine yV (.tmp 2) O underlying32 ?_);refine ct.mono ?_;rintro e W ⟨⟨p',rfl,hk⟩,cr⟩;have HQ:=yh hk;have U:=yh (HZ.bel cr);have Q:=yh cr;clear hk cr ct O q1 q2 q3 q4 q5 q6 q7 q8 q  bl HE aJ ay az aI;have al:=Q.size;have cq:=yh (ah W (Qa Y p'));have aa:=yh ((Kept.of_below Q (fun j hj F=>absurd F (by omega))).trans cq);have ad:=yh (show(0:Int)=0→Y=Y∧∀V,K V→NewSame W4 (W.setRow z (Qa Y p')) V→SaiR V Y p' from fun q0=>⟨rfl,fun V h1 F=>HQ V h1 (fun j b1 Z=>(F j (by omega) (Nat.lt_of_lt_of_le Z cq.size)).trans (cq.block j Z (by omega)))⟩);have ag:=yh (U.row (Qa Y p'));go_upto_region 31 with(refine yX 32 (.tmp 7) (.tmp 118) z (Qa Y p') U ?_);obtain⟨W8,ac⟩:=yE (W.setRow z (Qa Y p'));rw[←ac]at aa ad ag ⊢;clear ac cq U Q HQ al;obtain⟨y,a2⟩:=yE Y;rw[←a2]at ag;replace ad:=yh (show(0:Int)=0→y=Y∧∀V,K V→NewSame W4 W8 V→SaiR V y p' from fun q0=>by rw[a2];exact⟨rfl,(ad (by trivial)).2⟩);clear a2
 rotate_left
 all_goals
  obtain⟨cv,bg⟩:=ad (by trivial);obtain rfl:y=Y:=cv;obtain⟨e1,e2,bS⟩:=aY (by trivial);obtain rfl:y=DX:=e1.symm;have bd:=yh (HB.trans (aa.below (B:=w.heap.size) HB.size (fun j hj e=>by omega)));have bB:=yh (bg W8 (ak _ bd) (NewSame.refl _ _));have bf:=yh (Zm bS);have bD:=yh bg;have ay:=yh (a7.kept aa (fun e=>by omega));have az:=yh (a8.kept aa (fun e=>by omega));have be:=yh e2
  have cm:z≠I∧z≠J:=by omega
  have cj:=aa.size;have c2:yI W8 c 2 a.id:=(AskAt.all (AskAt.kept HC aa (fun e=>by omega))).2.2.1;clear e1 e2 bS bg ad aY aF HG HC a7 a8 HZ HH ah aE a5 an aP aD aQ aR aS aT aU aV aW aX aN aO;obtain⟨ai,bq⟩:=yE (atI y.bks a.id);have bt:=XL y p' a.id W8 bB.bks;rw[←bq]at bt;have bx:=yh bt;have bc:=yh bq;clear bt bq;obtain⟨A',n',ao,B',m',ap,D',aw,ar,E',ax,au,C',am,aq⟩:=p';have hz:=ag.out;go_wp2_with (refine yV (.tmp 7) hz underlying32 ?_);refine yM bx fun w9 a1=>?_;obtain⟨W9,bY⟩:=yE w9;subst bY;have bE:=yh (ag.bel a1);have bh:=yh (ay.bel a1);have bi:=yh (az.bel a1);have bQ:=a1.size;have bw:=yh (bd.trans (a1.mono bd.size));have bT:=yh a1
  have a3:=yh (show ∀X,Kept (fun j=>j=I∨j=J) W9 X→yw w X∧SaiR X y ⟨A',n',ao,B',m',ap,D',aw,ar,E',ax,au,C',am,aq⟩∧∀V,K V→NewSame w X V→SaiR V y ⟨A',n',ao,B',m',ap,D',aw,ar,E',ax,au,C',am,aq⟩from fun X hX=>by
   have bJ:=bw.trans (hX.below (B:=w.heap.size) bw.size (fun j hj e=>by omega))
   have bP:∀V,NewSame w X V→NewSame W4 W8 V:=fun V F j b1 Z=>by
    have b0:j<X.heap.size:=Nat.lt_of_lt_of_le Z (Nat.le_trans bQ hX.size);rw[F j (by omega) b0,hX.block j (Nat.lt_of_lt_of_le Z bQ) (by omega)];exact bT.block j Z
   exact⟨bJ,bD X (ak _ bJ) (bP X (NewSame.refl _ _)),fun V h1 F=>bD V h1 (bP V F)⟩)
  clear c2 hz bx ag ay az a1 bB;by_cases hid:ZA y.bks a.id=true;rotate_left
  ·obtain rfl : -1=ai:=by rw[bc.out];exact(ZHc (by simpa using hid)).symm
   obtain rfl:⟨0,0⟩=DA:=by rw[be.out];unfold owA;rw[M2 hid]
   have hz:=bE.out;have ae:=bh.out;have af:=Zd bi (show J≠I by omega) (Qa y ⟨A',n',ao,B',m',ap,D',aw,ar,E',ax,au,C',am,aq⟩);clear hid;go_wp2_with (first|(refine yV (.tmp 7) hz underlying32 ?_)|(refine yX 32 (.tmp 4) (.tmp 130) I (Qa y ⟨A',n',ao,B',m',ap,D',aw,ar,E',ax,au,C',am,aq⟩) ae ?_)|(refine yX 55 (.tmp 5) (.tmp 131) J (Qt ⟨0,0⟩) af ?_));refine yq5 (.tuple #[.agg (Qa y ⟨A',n',ao,B',m',ap,D',aw,ar,E',ax,au,C',am,aq⟩),.agg (Qt ⟨0,0⟩)]) (k:=4) (l:=5) (Zd (ae.row _) (show I≠J by omega) _) (af.row _) underlying32 underlying55 ?_;obtain⟨f1,-,f3⟩:=a3 _ (((yj I J W9).setRow (.inl (.inl rfl)) (Qa y ⟨A',n',ao,B',m',ap,D',aw,ar,E',ax,au,C',am,aq⟩)).setRow (.inl (.inr rfl)) (Qt ⟨0,0⟩));exact⟨⟨_,rfl,f3⟩,f1⟩
  obtain⟨b,aM,-,bM,br⟩:=Xo (QP bf.bs.rise) hid
  obtain rfl:⟨0,Zz b.fol⟩=DA:=by rw[be.out];unfold owA ZW;rw[M3 hid,J7,aM];rfl
  obtain⟨k,hk⟩:=yE (Ze y.bks a.id);rw[←hk]at aM bM br
  obtain rfl:(k:Int)=ai:=by rw[bc.out];exact br.symm
  obtain⟨-,bR,-⟩:=a3 W9 (Kept.refl _ _);obtain⟨ab,aB,A3,n3,c3,hC,bL,bK,-,-⟩:=bR.bkg aM;obtain rfl:C'=some ⟨ab,aB,none⟩:=hC;have bN:ab≠I:=SaiR.apart bh (fun us=>(a3 _ ((yj I J W9).setRow (.inl (.inl rfl)) us)).2.1) aM rfl;have bO:ab≠J:=SaiR.apart bi (fun us=>(a3 _ ((yj I J W9).setRow (.inl (.inr rfl)) us)).2.1) aM rfl
  have bz:=yh (show ∀X,Kept (fun j=>j=I∨j=J) W9 X→yJ X ab (aB+k*11+10) A3 n3 c3∧Sl Qm 3 X All A3 n3 c3 b.fol from fun X hX=>by
   have e2:yJ X ab (aB+k*11+10) A3 n3 c3:=Z2a hX (fun e=>by rcases e with e|e;exact bN e;exact bO e) (bK 10 _ rfl);obtain⟨-,hs,-⟩:=a3 X hX;obtain⟨b4,co,b2,cn,b5,bm,-,bZ,bX,-⟩:=hs.bkg aM;injection bm with bm;injection bm with e3 e4;subst e3 e4;have e5:=(bZ 10 _ rfl).symm.trans e2;injection e5 with e5;injection e5 with e6 e7 e8;subst e6 e7 e8
   exact⟨e2,bX⟩)
  have a9:=yh (show ∀X,Kept (fun j=>j=I∨j=J) W9 X→(fun w'=>(yI w' z 0 y.ship.legs∧yI w' z 1 y.ship.souls∧yJ w' z 2 A' n' ao∧yJ w' z 3 B' m' ap∧yJ w' z 4 D' aw ar∧yI w' z 5 y.fares.alone∧yI w' z 6 y.fares.third∧yJ w' z 7 E' ax au∧yI w' z 8 y.fares.down∧yI w' z 9 y.day∧yI w' z 10 y.leaves∧yJ w' z 11 (some ⟨ab,aB,none⟩) am aq∧w'.cell? ⟨z,12,none⟩=some (.bool y.closed))∧yJ w' ab (aB+k*11+10) A3 n3 c3) X from fun X hX=>⟨Y1 (bE.kept hX (fun e=>by omega)),(bz X hX).1⟩);have bC:=yh (fun X h=>Vo A3 n3 c3 b.fol 0 X h (Z7 (bf.bs.bk b (J6 aM)).fol));have bu:=bC.out;rw[VJ]at bu;have bU:=yh bu;have b6:=bW
  have cy:k<am:=by have h9:y.bks.length=am:=bL;omega
  have cx:(0:Int)≤(k:Int):=by omega
  have aH:Kept (fun j=>j=I∨j=J) W9 W9.drew:=(Kept.refl _ W9).drew;have ae:Blk W9.drew I M9 32:=bh.bel ((J4 _ W9).drew);have af:Blk W9.drew J #[.int .i64 0,.int .i64 0] 55:=bi.bel ((J4 _ W9).drew);clear hid br bM hk bR bK bN bO bL aM bC bu be bc bf;go_upto_region 36 with(fail);refine yZ (S:=(fun w'=>(yI w' z 0 y.ship.legs∧yI w' z 1 y.ship.souls∧yJ w' z 2 A' n' ao∧yJ w' z 3 B' m' ap∧yJ w' z 4 D' aw ar∧yI w' z 5 y.fares.alone∧yI w' z 6 y.fares.third∧yJ w' z 7 E' ax au∧yI w' z 8 y.fares.down∧yI w' z 9 y.day∧yI w' z 10 y.leaves∧yJ w' z 11 (some ⟨ab,aB,none⟩) am aq∧w'.cell? ⟨z,12,none⟩=some (.bool y.closed))∧yJ w' ab (aB+k*11+10) A3 n3 c3)) (a9 _ aH) fun bo=>?_;refine yT [0,1,2,3,4,5,6] ?_;iterate 7 (refine yS ?_;simp only[yU])
  refine yR 7 fun K hK=>?_;go_simp
  (go_at_call 133;refine yN (bU _ (bz _ aH).2) ?_)
  go_wp2_with fail;refine hK.out _ _ (a9 _ aH) fun bo=>?_;clear hK K
  try simp only[yU]
  refine yT [8] ?_;iterate 1 (refine yS ?_;simp only[yU])
  refine yR 9 fun K hK=>?_
  (refine yY 32 (.tmp 4) (.tmp 132) _ (Qa y ⟨A',n',ao,B',m',ap,D',aw,ar,E',ax,au,(some ⟨ab,aB,none⟩),am,aq⟩) ae ?_)
  refine hK.out _ _ (a9 _ (aH.setRow (.inl (.inl rfl)) _)) fun bo=>?_;clear hK K
  try simp only[yU]
  (replace aH:=aH.setRow (.inl (.inl rfl)) (Qa y ⟨A',n',ao,B',m',ap,D',aw,ar,E',ax,au,(some ⟨ab,aB,none⟩),am,aq⟩);replace af:=Zd af (show J≠I by omega) (Qa y ⟨A',n',ao,B',m',ap,D',aw,ar,E',ax,au,(some ⟨ab,aB,none⟩),am,aq⟩);replace ae:=ae.row (Qa y ⟨A',n',ao,B',m',ap,D',aw,ar,E',ax,au,(some ⟨ab,aB,none⟩),am,aq⟩))
  refine yR 10 fun K hK=>?_
  (refine yY 55 (.tmp 5) (.tmp 140) _ (Qt ⟨0,Zz b.fol⟩) af ?_)
  refine hK.out _ _ (a9 _ (aH.setRow (.inl (.inr rfl)) _)) fun bo=>?_;clear hK K
  try simp only[yU]
  (replace aH:=aH.setRow (.inl (.inr rfl)) (Qt ⟨0,Zz b.fol⟩);replace ae:=Zd ae (show I≠J by omega) (Qt ⟨0,Zz b.fol⟩);replace af:=af.row (Qt ⟨0,Zz b.fol⟩))
  refine yD ?_;go_wp2_with fail;refine yq5 (.tuple #[.agg (Qa y ⟨A',n',ao,B',m',ap,D',aw,ar,E',ax,au,(some ⟨ab,aB,none⟩),am,aq⟩),.agg (Qt ⟨0,Zz b.fol⟩)]) (k:=4) (l:=5) ae af underlying32 underlying55 ?_;obtain⟨f1,-,f3⟩:=a3 _ aH;exact⟨⟨_,rfl,f3⟩,f1⟩
theorem Zsc {W V:World}{y:Sai}{p:SaiV}{L:List (List Value)}(U:Sl (ZY 11) 11 W All p.C p.nb p.cb L)(h:SaiR V y p)(hs:∀A E,p.C=some ⟨A,E,none⟩→0<p.nb→V.heap[A]? = W.heap[A]?):Pts ZP V L y.bks:=by
 have hn:L.length=y.bks.length:=U.len.trans h.bks.len.symm;refine⟨hn,fun i cs b h1 O=>?_⟩;have hi:=(J0.1 O).1;obtain⟨A,E,I,Q,-,⟨rfl,ac,-⟩,-,Y⟩:=U.rd i cs h1;obtain⟨ab,ae,J,D,-,X,ad,Z⟩:=h.bks.rd i b O;rw[Q]at D;injection D with D;injection D with e1 e2;subst e1 e2
 have aa:0<p.nb:=by rw[←h.bks.len];omega
 have hh:=hs A E Q aa
 have e:J=I:=by
  refine List.ext_getElem? fun j=>?_;by_cases hj:j<11
  ·have a1:=Y j (I[j]'(by omega)) (J1 (by omega));have F:=Z j (J[j]'(by omega)) (J1 (by omega));rw[World.cell?_of_block hh,a1]at F;rw[J1 (by omega),J1 (by omega)];exact F.symm
  ·rw[List.getElem?_eq_none (by omega),List.getElem?_eq_none (by omega)]
 subst e;exact X
def Aft (c w8 cur:World):Prop:=w8.heap.size≤cur.heap.size∧∀j,c.heap.size≤j→j<w8.heap.size→cur.heap[j]? = w8.heap[j]?
theorem Aft.rf {c A:World}(_:yw c A):Aft c A A:=⟨J5 _,fun _ _ _=>rfl⟩
theorem Aft.bel {c I A D:World}(h:Aft c I A)(F:yw A D):Aft c I D:=⟨Nat.le_trans h.1 F.size,fun j J E=>(F.block j (Nat.lt_of_lt_of_le E h.1)).trans (h.2 j J E)⟩
theorem Aft.row {c A D V:World}{g:Nat}{O:Array Value}(h:Aft c A D)(J:¬(c.heap.size≤g∧g<A.heap.size))(I:V=D.setRow g O):Aft c A V:=by
 subst I;exact⟨by simpa using h.1,fun j E F=>(setRow_other _ _ _ _ (by rintro rfl;exact J ⟨E,F⟩)).trans (h.2 j E F)⟩
theorem Aft.old {c:World}{g:Nat}{cs:Array Value}{t:TypeId}(h:Blk c g cs t)(A:World):¬(c.heap.size≤g∧g<A.heap.size):=by
 have:=h.lt;omega
theorem Aft.new {c D A:World}(h:Aft c D A):¬(c.heap.size≤A.heap.size∧A.heap.size<D.heap.size):=by
 have:=h.1;omega
theorem Qic {a A V:World}{cs:Array Value}{t:TypeId}(h:yw a A)(D:V=A.alloc (.cells cs t)):yw A V∧yw a V∧Blk V A.heap.size cs t∧a.heap.size≤A.heap.size:=by
 subst D;exact⟨Qi _ _,h.alloc h.size _,Blk.new _ _ _,h.size⟩
theorem Urc {a A V:World}{g:Nat}{cs D:Array Value}{t:TypeId}(h:yw a A)(E:Blk A g cs t)(I:a.heap.size≤g)(F:V=A.setRow g D):yw a V∧Blk V g D t:=by
 subst F;exact⟨M5 h I _,E.row _⟩
theorem Blk.rowO {A V:World}{g E:Nat}{cs O D:Array Value}{t t2:TypeId}(h:Blk A E D t2)(F:Blk A g cs t)(J:t2≠t)(I:V=A.setRow g O):Blk V E D t2:=by
 subst I;exact h.rowOther (Blk.neTy h F J) _
theorem Aft.fin {a c E A V:World}(h:Aft c E A)(J:a.heap.size≤c.heap.size)(I:NewSame a A V):NewSame c E V:=fun j F D=>(I j (by omega) (Nat.lt_of_lt_of_le D h.1)).trans (h.2 j F D)
theorem UIa (x:Sai)(p:SaiV)(A:Option Addr)(n cap:Nat)(l:List Don)(wn:Int)(w:World)(hS:SaiR w x p)(hl:Sl ZX 13 w All A n cap l) :
  Calls prog 54 #[.agg (Qa x p),.agg #[.slice A n cap,.int .i64 wn]] w fun e w'=>(∃y p',e=.returned (.tuple #[.agg (Qa y p'),.int .i64 (US mkA x l wn)])∧y=okS (US mkA x l wn) (XH mkA x l)∧SaiR w' y p'∧(US mkA x l wn=0→QD y=0))∧yw w w':=by
 obtain⟨R,hR⟩:=yE (US mkA x l wn);obtain⟨X,hX⟩:=yE (XH mkA x l);obtain⟨r,hr⟩:=yE (QD x);have cO:=yh (show l.length=n from hl.len);have cy:=hl.bd;obtain⟨Z,az⟩:=yE (if r≠0 then r else if 30<n then 2 else 0);obtain⟨e0,be⟩:=yE (if Z≠0 then Z else if wrB wn n=false then 3 else 0);have al:=yh az;have ap:=yh be
 have cN:=yh (show R=if e0≠0 then e0 else (opn mkA x [] l).2 from by
  rw[hR,be,az,hr,←cO.out];unfold US
  by_cases q1:QD x=0<;>by_cases q2:30<l.length<;>cases q3:wrB wn l.length<;>simp[q1,q2])
 have ae:=yh hX
 have ad:=yh (show e0=0→QD x=0 from fun q=>by
  rw[be,az,hr]at q;by_cases q1:QD x=0
  ·exact q1
  ·simp[q1]at q)
 rw[←hR,←hX];have bz:=fun V hV=>Zqa x p V hV;rw[←hr]at bz;have bh:=yh bz;have HS:=yh hS;have HL:=yh hl;clear hR hX hr az be bz hS hl;obtain⟨AA,nn,aU,B,m,aT,D,nd,cd,E,ne,ce,C,nb,cb⟩:=p;go_enter func54,ntmps54;go_upto_region 0 with(fail);go_cut [2,3,4,5] (fun p1 p2 p3 _ wx=>∃g q Q,yp p1 g∧yp p2 q∧yp p3 Q∧w.heap.size≤Q∧Blk wx g (Qa x ⟨AA,nn,aU,B,m,aT,D,nd,cd,E,ne,ce,C,nb,cb⟩) 32∧Blk wx q #[.slice A n cap,.int .i64 wn] 39∧Blk wx Q M9 32∧yw w wx)
 case first=>
  clear al ap cN ae ad bh HS HL cO;go_wp2_with fail;go_meet;exact⟨_,_,_,rfl,rfl,rfl,by omega,Vc _ _ _ _,Vd _ _ _ _,Ve _ _ _ _,X0 _ _ _ _⟩
 obtain⟨g,q,Q,rfl,rfl,rfl,ag,hG,hQ,cQ,au⟩:=hcut;obtain⟨W0,rfl⟩:=yE wc;have U:=yh (fun V (hV:yw W0 V)=>au.trans (hV.mono au.size));have HG:=yh (fun V (hV:yw W0 V)=>hG.bel hV);have HQ:=yh (fun V (hV:yw W0 V)=>hQ.bel hV);have Y:=yh (fun V (hV:yw W0 V)=>cQ.bel hV);have cC:=au.size;have ct:=cQ.lt;have hg:=HG _ (J4 _ _);have HC:=yh (bh _ (HS.bel au));clear hG hQ cQ au;go_wp2_with (refine yV (.tmp 2) hg underlying32 ?_);refine yM HC fun w1 J=>?_;clear hg HC bh;obtain⟨W1,c6⟩:=yE w1;subst c6;have aZ:=yh J;have c0:yJ W1 q 0 A n cap:=(HQ _ J).cell rfl;go_upto_region 2 with(fail);go_cut [21] (fun t wx=>(∃tv:Bool,t=.bool tv∧Hid (Z=if tv=true then 2 else r))∧yw W0 wx)
 case first=>
  clear cN ae ad HS HL cO U HG HQ Y ap;by_cases h0:r=0
  ·have bn:(r==0)=true:=by simpa using h0
   by_cases h1:30<n
   ·have hd:decide ((30:Int)<(n:Int))=true:=J2 (by omega);have HV:=yh (show Z=if true=true then 2 else r from by rw[al.out,h0];simp[h1]);clear h0 J al;go_wp2_with fail;go_meet;exact⟨⟨true,rfl,HV⟩,aZ⟩
   ·have hd:decide ((30:Int)<(n:Int))=false:=J3 (by omega);have HV:=yh (show Z=if false=true then 2 else r from by rw[al.out,h0];simp[h1]);clear h0 J al;go_wp2_with fail;go_meet;exact⟨⟨false,rfl,HV⟩,aZ⟩
  ·have bn:(r==0)=false:=by simpa using h0
   have HV:=yh (show Z=if false=true then 2 else r from by rw[al.out];simp[h0]);clear h0 J al;go_wp2_with fail;go_meet;exact⟨⟨false,rfl,HV⟩,aZ⟩
 obtain⟨⟨tv,rfl,HV⟩,J⟩:=hcut;have aC:=yh J;clear J c0 aZ;go_upto_if 21 with(fail);go_cut [6] (fun e wx=>e=.int .i64 Z∧yw W0 wx)
 case first=>
  clear cN ae ad HS HL cO U HG HQ Y ap al;cases tv
  ·skip;go_wp2_with fail;go_meet;exact⟨by rw[HV.out];rfl,aC⟩
  ·skip;go_wp2_with fail;go_meet;exact⟨by rw[HV.out];rfl,aC⟩
 obtain⟨rfl,J⟩:=hcut;obtain⟨W2,rfl⟩:=yE wc;have aC:=yh J;have c0:yJ W2 q 0 A n cap:=(HQ _ J).cell rfl;have c1:yI W2 q 1 wn:=(HQ _ J).cell rfl;clear HV J tv;go_upto_region 4 with(fail);go_cut [32] (fun t wx=>(∃tv:Bool,t=.bool tv∧Hid (e0=if tv=true then 3 else Z))∧yw W0 wx)
 case first=>
  clear cN ae ad HS HL cO U HG HQ Y al;by_cases h0:Z=0
  ·have bn:(Z==0)=true:=by simpa using h0
   obtain⟨bv,bw⟩:=yE (wrB wn n);have cR:=fun V=>Qj wn 0 (n:Int) V;rw[show Qc wn 0 (n:Int)=wrB wn n from rfl,←bw]at cR;have c3:=yh cR;have HV:=yh (show e0=if bv=false then 3 else 0 from by rw[ap.out,h0,bw];simp);have H0:=yh h0;clear h0 bw cR ap;go_wp2_with fail;refine yN (c3 _) ?_;cases bv
   ·skip;go_wp2_with fail;go_meet;exact⟨⟨true,rfl,yh (by rw[HV.out];rfl)⟩,aC⟩
   ·skip;go_wp2_with fail;go_meet;exact⟨⟨false,rfl,yh (by rw[HV.out,H0.out];rfl)⟩,aC⟩
  ·have bn:(Z==0)=false:=by simpa using h0
   have HV:=yh (show e0=if false=true then 3 else Z from by rw[ap.out];simp[h0]);clear h0 ap;go_wp2_with fail;go_meet;exact⟨⟨false,rfl,HV⟩,aC⟩
 obtain⟨⟨tv,rfl,HV⟩,J⟩:=hcut;have aD:=yh J;clear J c0 c1 aC;go_upto_if 32 with(fail);go_cut [6] (fun e wx=>e=.int .i64 e0∧yw W0 wx)
 case first=>
  clear cN ae ad HS HL cO U HG HQ Y ap al;cases tv
  ·skip;go_wp2_with fail;go_meet;exact⟨by rw[HV.out];rfl,aD⟩
  ·skip;go_wp2_with fail;go_meet;exact⟨by rw[HV.out];rfl,aD⟩
 obtain⟨rfl,J⟩:=hcut;obtain⟨W3,rfl⟩:=yE wc;have aD:=yh J;have cD:=J.size;have hg:=HG _ J;clear HV J tv ap al;go_upto_region 6 with(fail);go_cut [7] (fun p1 wx=>∃z,yp p1 z∧W3.heap.size≤z∧Blk wx z (Qa x ⟨AA,nn,aU,B,m,aT,D,nd,cd,E,ne,ce,C,nb,cb⟩) 32∧yw W3 wx)
 case first=>
  clear cN ae ad HS HL cO U HG HQ Y aD;go_wp2_with (first|(refine yV (.tmp 2) hg underlying32 ?_)|(refine yX 32 (.tmp 7) (.tmp 33) W3.heap.size (Qa x ⟨AA,nn,aU,B,m,aT,D,nd,cd,E,ne,ce,C,nb,cb⟩) (Blk.new W3 M9 32) ?_));go_meet;exact⟨_,rfl,J5 _,(Blk.new W3 _ _).row _,M5 (Qi W3 _) (J5 _) _⟩
 obtain⟨z,rfl,cG,hZ,bs⟩:=hcut;obtain⟨W4,rfl⟩:=yE wc;have cE:=bs.size;have J:=aD.trans (bs.mono aD.size);have a0:=yh J
 have bQ:=yh (show(e0=0∧e0=0∧QD x=0∧opn mkA x [] l=opn mkA x (l.take 0) (l.drop 0))∨(¬e0=0∧R=e0)from by
  by_cases q0:e0=0
  ·exact .inl ⟨q0,q0,ad q0,by simp⟩
  ·exact .inr ⟨q0,by rw[cN.out,M3 q0]⟩)
 have bR:=yh (show ∀V,Kept (fun j=>j=z∨j=Q) W4 V→SaiR V x ⟨AA,nn,aU,B,m,aT,D,nd,cd,E,ne,ce,C,nb,cb⟩from fun V hV=>HS.bel ((U _ J).trans (hV.below (B:=w.heap.size) (U _ J).size (fun j hj e=>by omega))));have HZ:=yh hZ;have cH:=hZ.lt;have cr:=J.size;have c0:yJ W4 q 0 A n cap:=(HQ _ J).cell rfl;clear bs J hZ aD;go_wp2_with fail
 go_loopg [6,8] n (fun gk e i wr=>∃(k:Nat) (ek:Int) (y:Sai) (p':SaiV),k≤n∧n-k≤gk∧i=.int .i64 (k:Int)∧e=.int .i64 ek∧Blk wr z (Qa y p') 32∧Hid ((ek=0∧e0=0∧QD y=0∧opn mkA x [] l=opn mkA y (l.take k) (l.drop k))∨(¬ek=0∧R=ek))∧Hid (∀V,Kept (fun j=>j=z∨j=Q) wr V→SaiR V y p')∧Kept (fun j=>j=z) W4 wr)
 case atStart=>exact⟨0,e0,x,⟨AA,nn,aU,B,m,aT,D,nd,cd,E,ne,ce,C,nb,cb⟩,M0 _,by omega,rfl,rfl,HZ,bQ,bR,Kept.refl _ _⟩
 case round=>
  clear bQ bR c0;obtain⟨k,ek,y,p',hk,aW,rfl,rfl,hZ,a4,ay,hK⟩:=hrel;obtain⟨W5,rfl⟩:=yE wr;have ax:=yh hK;have bt:=a0.trans (hK.below (B:=W0.heap.size) cr (fun j hj e=>by omega));have cF:=hK.size;have c0:yJ W5 q 0 A n cap:=(HQ _ bt).cell rfl;have ak:=yh bt;have aR:=yh hZ;clear hK bt hZ HZ;by_cases he:ek=0;rotate_left
  ·have H0:=yh he;have ai:=yh (show R=ek from by rcases a4.out with h|h;exact absurd h.1 he;exact h.2)
   have cp:(ek==0)=false:=by simpa using he
   have cq:(ek !=0)=true:=by simpa using he
   clear he aW hk a4 ay ax;rcases Nat.lt_or_ge k n with aL|aL
   ·skip;have ag:=Y _ ak;have HF:=yh (U _ ak);clear cN ae ad HS HL cO U HG HQ Y;go_wp2_with (refine yX 32 (.tmp 4) (.tmp 100) Q M9 ag ?_);refine yq2 (.tuple #[.agg (Qa Qf Qg),.int .i64 ek]) (k:=4) (u:=5) (ag.row _) underlying32 ?_;have an:=(yk Q W5).setRow (.inl rfl) M9;exact⟨⟨Qf,Qg,by rw[ai.out],by rw[ai.out,Ul H0.out],UA _,fun h=>absurd (ai.symm.trans h) H0⟩,HF.trans (an.below (B:=w.heap.size) HF.size (fun j hj e=>by omega))⟩
   ·have bC:¬k<n:=by omega
    clear aL;have ag:=Y _ ak;have HF:=yh (U _ ak);clear cN ae ad HS HL cO U HG HQ Y;go_wp2_with (refine yX 32 (.tmp 4) (.tmp 100) Q M9 ag ?_);refine yq2 (.tuple #[.agg (Qa Qf Qg),.int .i64 ek]) (k:=4) (u:=5) (ag.row _) underlying32 ?_;have an:=(yk Q W5).setRow (.inl rfl) M9;exact⟨⟨Qf,Qg,by rw[ai.out],by rw[ai.out,Ul H0.out],UA _,fun h=>absurd (ai.symm.trans h) H0⟩,HF.trans (an.below (B:=w.heap.size) HF.size (fun j hj e=>by omega))⟩
  obtain⟨-,bS,cY,cV⟩:ek=0∧e0=0∧QD y=0∧opn mkA x [] l=opn mkA y (l.take k) (l.drop k):=by
   rcases a4.out with h|h
   ·exact h
   ·exact absurd he h.1
  subst he;have ar:=yh cY;have ah:=yh (show(e0=0∧opn mkA x [] l=opn mkA y (l.take k) (l.drop k))from⟨bS,cV⟩);clear cY cV bS a4;by_cases aL:k<n;rotate_left
  ·have bX:R=0∧X=y:=by
    have hd:l.drop k=[]:=List.drop_of_length_le (by have:=cO.out;omega);rw[cN.out,ae.out];unfold XH;rw[M2 (by simpa using ah.out.1),ah.out.2,hd];exact⟨rfl,rfl⟩
   have bj:=yh bX;have hz:=aR.out;have ag:=Y _ ak;have HF:=yh (U _ ak);have an:∀u,Kept (fun j=>j=z∨j=Q) W5 (W5.setRow Q u):=fun u=>(yj z Q W5).setRow (.inl (.inr rfl)) u;have bM:=yh an;clear bX an aW hk ah cN ae ad HS HL cO U HG HQ Y ax;go_wp2_with (first|(refine yV (.tmp 7) hz underlying32 ?_)|(refine yX 32 (.tmp 4) (.tmp 102) Q (Qa y p') ag ?_));refine yq2 (.tuple #[.agg (Qa y p'),.int .i64 0]) (k:=4) (u:=5) (ag.row _) underlying32 ?_;exact⟨⟨y,p',by rw[bj.out.1],by rw[bj.out.1,bj.out.2];rfl,ay _ (bM _),fun _=>ar.out⟩,HF.trans ((bM _).below (B:=w.heap.size) HF.size (fun j hj e=>by omega))⟩
  obtain⟨ba,F,d,rfl,hd,aK,cU⟩:=((HL.bel (U _ ak))).don aL;have d1:decide ((k:Int)<(n:Int))=true:=J2 (by omega);have d3:decide (0≤(k:Int))=true:=J2 (by omega);have d4:decide ((k:Int)<0)=false:=J3 (by omega);obtain⟨b0,b1,b2,b3,b4,b5,b6,b7,b8,b9,bm,a6,a7⟩:=Q0a cU;obtain⟨qe,bD⟩:=yE (QS d.ask);have bc:=QOa d.ask W5;rw[Xba,←bD]at bc;dsimp only[QY]at bc;have bK:=yh bc;have aw:=yh hd;have aB:=yh aK;have aE:=yh bD;have aJ:=yh aW;clear bc hd aK cU bD aW;go_wp2_with fail;refine yM bK fun w6 bZ=>?_;clear bK b0 b1 b2 b3 b4 b5 b6 b7 b8 b9 bm a6 a7 c0;obtain⟨W6,cf⟩:=yE w6;subst cf;obtain⟨G0,cc⟩:=yE gk;subst cc;have bI:=yh bZ;clear bZ;go_wp2_with fail
  go_loopg [6,9] k (fun gk e j wr=>∃(i:Nat) (ei:Int),i≤k∧k-i≤gk∧j=.int .i64 (i:Int)∧e=.int .i64 ei∧Hid (ei=if qe≠0 then qe else if (l.take i).any (QQ d.ask)=true then 6 else 0)∧yw W5 wr)
  case atStart=>exact⟨0,qe,M0 _,by omega,rfl,rfl,yh (by by_cases q:qe=0<;>simp[q]),bI⟩
  case round=>
   clear bI;obtain⟨i,ei,hi,cm,rfl,rfl,a2,bu⟩:=hrel;obtain⟨I,rfl⟩:=yE wr;have br:=ak.trans (bu.mono ak.size);have ac:=yh br;have ao:=yh bu;have c0:yJ I q 0 (some ⟨ba,F,none⟩) n cap:=(HQ _ br).cell rfl;clear br bu;have aQ:=yh (Y2a (mk:=mkA) (y:=y) aw);by_cases he:ei=0;rotate_left
   ·have H0:=yh he
    have ai:=yh (show R=ei from by
     rw[cN.out,M2 (by simpa using ah.out.1),ah.out.2,aQ.out,←aE.out];have h1:=a2.out;by_cases q0:qe=0
     ·rw[M2 (by simpa using q0)]at h1 ⊢;by_cases q1:(l.take i).any (QQ d.ask)=true
      ·have q2:(l.take k).any (QQ d.ask)=true:=by
        obtain⟨o,ho,hs⟩:=List.any_eq_true.1 q1;exact List.any_eq_true.2 ⟨o,List.take_subset_take_left l hi ho,hs⟩
       rw[M3 q1]at h1;rw[M3 q2,h1]
      ·rw[M2 q1]at h1;exact absurd h1 he
     ·rw[M3 (by simpa using q0)]at h1 ⊢
      exact h1.symm)
    have cp:(ei==0)=false:=by simpa using he
    have cq:(ei !=0)=true:=by simpa using he
    clear he cm hk ay ax aQ ah ar aw aB aE aJ a2;rcases Nat.lt_or_ge i k with bC|bC
    ·skip;have ag:=Y _ ac;have HF:=yh (U _ ac);clear cN ae ad HS HL cO U HG HQ Y;go_wp2_with (refine yX 32 (.tmp 4) (.tmp 100) Q M9 ag ?_);refine yq2 (.tuple #[.agg (Qa Qf Qg),.int .i64 ei]) (k:=4) (u:=5) (ag.row _) underlying32 ?_;have an:=(yk Q I).setRow (.inl rfl) M9;exact⟨⟨Qf,Qg,by rw[ai.out],by rw[ai.out,Ul H0.out],UA _,fun h=>absurd (ai.symm.trans h) H0⟩,HF.trans (an.below (B:=w.heap.size) HF.size (fun j hj e=>by omega))⟩
    ·have cB:¬i<k:=by omega
     clear bC;have ag:=Y _ ac;have HF:=yh (U _ ac);clear cN ae ad HS HL cO U HG HQ Y;go_wp2_with (refine yX 32 (.tmp 4) (.tmp 100) Q M9 ag ?_);refine yq2 (.tuple #[.agg (Qa Qf Qg),.int .i64 ei]) (k:=4) (u:=5) (ag.row _) underlying32 ?_;have an:=(yk Q I).setRow (.inl rfl) M9;exact⟨⟨Qf,Qg,by rw[ai.out],by rw[ai.out,Ul H0.out],UA _,fun h=>absurd (ai.symm.trans h) H0⟩,HF.trans (an.below (B:=w.heap.size) HF.size (fun j hj e=>by omega))⟩
   obtain rfl:0=ei:=(Eq.symm he)
   have aM:qe=0∧(l.take i).any (QQ d.ask)=false:=by
    have h1:=a2.out;by_cases q0:qe=0
    ·rw[M2 (by simpa using q0)]at h1;cases q1:(l.take i).any (QQ d.ask)
     ·exact⟨q0,rfl⟩
     ·rw[M3 q1]at h1;exact absurd h1 (by decide)
    ·rw[M3 (by simpa using q0)]at h1;exact absurd h1.symm q0
   have aq:=yh aM;clear he aM a2;by_cases hik:i<k
   ·obtain⟨di,aK⟩:∃o,l[i]? = some o:=⟨_,J1 (by have:=cO.out;omega)⟩
    have ca:=yh (fun V (hV:yw I V)=>show(fun w'=>yJ w' q 0 (some ⟨ba,F,none⟩) n cap∧yI w' ba (F+i*13) di.ask.number∧yI w' ba (F+k*13) d.ask.number) V from by
     have hL:=HL.bel (U _ (ac.trans (hV.mono ac.size)));obtain⟨_,_,o1,az,bf,-,cg⟩:=hL.don (show i<n by omega);obtain⟨_,_,o2,aH,av,-,bx⟩:=hL.don aL;injection az with az;injection az with Z e2;subst Z e2;injection aH with aH;injection aH with Z e2;subst Z e2;rw[aK]at bf;injection bf with bf;rw[aw.out]at av;injection av with av;subst bf av
     exact⟨(HQ _ (ac.trans (hV.mono ac.size))).cell rfl,(Q0a cg).1,(Q0a bx).1⟩)
    obtain⟨bq,cS⟩:=yE (di.ask.number==d.ask.number);have bJ:=yh cS;have bL:=yh aK;have d5:decide ((i:Int)<(n:Int))=true:=J2 (by omega);have d6:decide (0≤(i:Int))=true:=J2 (by omega);have d7:decide ((i:Int)<0)=false:=J3 (by omega)
    have cz:i<n:=by omega
    clear cS aK;go_upto_region 14 with(fail);go_cut [75] (fun t wx=>t=.bool bq∧yw I wx)
    case first=>
     have O:yw I I.drew:=(J4 _ I).drew;clear cN ae ad HS HL cO U HG HQ Y ax ay ah ar aw aB aE aJ aQ aq bL c0;refine yZ (S:=(fun w'=>yJ w' q 0 (some ⟨ba,F,none⟩) n cap∧yI w' ba (F+i*13) di.ask.number∧yI w' ba (F+k*13) d.ask.number)) (ca _ O) fun af=>?_;refine yT [0,1,2,3,4,5,6,7,8,9,10,11,12,13,14] ?_;iterate 15 (refine yS ?_;simp only[yU])
     refine yD ?_;go_wp2_with fail;go_meet;exact⟨by rw[bJ.out],O⟩
    obtain⟨rfl,aj⟩:=hcut;have bH:=yh (ao.trans (aj.mono ao.size))
    have cX:(l.take (i+1)).any (QQ d.ask)=bq:=by
     rw[Qu bL.out,aq.out.2,bJ.out];rfl
    have bP:=yh cX;clear cX aj c0;cases bq
    ·skip;go_wp2_with fail;go_roundg (k-(i+1))
     case measure=>omega
     case rel=>exact⟨i+1,0,by omega,by omega,by go_num,rfl,yh (by rw[aq.out.1,bP.out];simp),bH⟩
    ·skip;go_wp2_with fail;go_roundg (k-(i+1))
     case measure=>omega
     case rel=>exact⟨i+1,6,by omega,by omega,by go_num,rfl,yh (by rw[aq.out.1,bP.out];simp),bH⟩
   obtain rfl:k=i:=by omega
   have aA:∀V,Kept (fun j=>j=z∨j=Q) I V→SaiR V y p':=fun V hV=>ay V ((Kept.of_below ao (fun j hj h2=>absurd h2 (by omega))).trans hV);have cP:=aR.bel ao;have cZ:=Y _ ac;obtain⟨L,bp,c5⟩:=(aA I (Kept.refl _ _)).bks.raw Xa
   have bW:∀V,Kept (fun j=>j=z∨j=Q) I V→Pts ZP V L y.bks:=fun V hV=>Zsc bp (aA V hV) (fun ab cK hC co=>by
    have cn:0<y.bks.length:=by rw[(aA I (Kept.refl _ _)).bks.len];exact co
    have au:y.bks[0]? = some y.bks[0]:=J1 cn;have h1:ab≠z:=SaiR.apart cP (fun us=>aA _ ((yj z Q I).setRow (.inl (.inl rfl)) us)) au hC;have h2:ab≠Q:=SaiR.apart cZ (fun us=>aA _ ((yj z Q I).setRow (.inl (.inr rfl)) us)) au hC;obtain⟨cv,cL,_,_,_,a8,-,ci,-⟩:=(aA I (Kept.refl _ _)).bkg au;rw[hC]at a8;injection a8 with a8;injection a8 with Z e2;subst Z e2
    exact hV.block ab (World.block_lt_of_cell? I _ (ci 0 _ rfl)) (by rintro(e|e);exact h1 e;exact h2 e))
   have a1:=yh (fun V (hV:yw I V)=>VFb (fun V=>Kept (fun j=>j=z∨j=Q) I V) y p' d.ask L V (fun V V' h1 h2=>h1.trans (Kept.of_below h2 (fun j hj h3=>absurd h3 (by omega)))) aA bW (Kept.of_below hV (fun j hj h3=>absurd h3 (by omega))) (bp.bel hV) ar aB.1 (aE.symm.trans aq.1));clear aA bW bp c5;have d5:decide ((k:Int)<(k:Int))=false:=J3 (by omega);obtain⟨N,hN⟩:=yE (doA mkA y d.ask);obtain⟨DX,a9⟩:=yE (doX mkA y d.ask);have bF:=V9b Yd ar (Qza ar aB.1 (aE.symm.trans aq.1))
   have cW:opn mkA x [] l=if N=d.ans then opn mkA DX (l.take (k+1)) (l.drop (k+1))else (y,4):=by
    rw[ah.out.2,aQ.out,M2 (by rw[←aE.out,aq.out.1];simp),M2 (by rw[aq.out.2];simp),hN,a9]
   rw[←a9]at bF;rw[←hN,←a9]at a1;simp only[Qa,QY]at a1;have a5:=yh bF;have a3:=yh cW
   have cT:∀V,yw I V→∀j u,(Vk d).toList[j]? = some u→V.cell? ⟨ba,F+k*13+j,none⟩=some u:=fun V hV=>by
    obtain⟨_,_,o2,aH,av,-,bx⟩:=(HL.bel (U _ (ac.trans (hV.mono ac.size)))).don aL;injection aH with aH;injection aH with Z e2;subst Z e2;rw[aw.out]at av;injection av with av;subst av;exact bx
   have aO:=yh cT;have aP:=yh (show ∀V,yw I V→yJ V q 0 (some ⟨ba,F,none⟩) n cap from fun V hV=>(HQ _ (ac.trans (hV.mono ac.size))).cell rfl)
   have aF:=yh (show ∀V,yw I V→(fun w'=>yJ w' q 0 (some ⟨ba,F,none⟩) n cap∧yI w' z 0 y.ship.legs∧yI w' z 1 y.ship.souls∧w'.cell? ⟨z,2,none⟩=some (Value.slice p'.A p'.n p'.cap)∧w'.cell? ⟨z,3,none⟩=some (Value.slice p'.B p'.m p'.cap2)∧w'.cell? ⟨z,4,none⟩=some (Value.slice p'.D p'.nd p'.cd)∧yI w' z 5 y.fares.alone∧yI w' z 6 y.fares.third∧w'.cell? ⟨z,7,none⟩=some (Value.slice p'.E p'.ne p'.ce)∧yI w' z 8 y.fares.down∧yI w' z 9 y.day∧yI w' z 10 y.leaves∧w'.cell? ⟨z,11,none⟩=some (Value.slice p'.C p'.nb p'.cb)∧w'.cell? ⟨z,12,none⟩=some (.bool y.closed)∧yI w' ba (F+k*13) d.ask.number∧yI w' ba (F+k*13+1) d.ask.kind∧yI w' ba (F+k*13+2) d.ask.id∧yI w' ba (F+k*13+3) d.ask.guests∧w'.cell? ⟨ba,F+k*13+4,none⟩=some (.bool d.ask.level)∧yI w' ba (F+k*13+5) d.ask.cabin∧yI w' ba (F+k*13+6) d.ask.category∧yI w' ba (F+k*13+7) d.ask.frm∧yI w' ba (F+k*13+8) d.ask.upto∧yI w' ba (F+k*13+9) d.ask.til∧yI w' ba (F+k*13+10) d.ask.amount) V from fun V hV=>by
    have hz:=cP.bel hV;obtain⟨b0,b1,b2,b3,b4,b5,b6,b7,b8,b9,bm,a6,a7⟩:=Q0a (aO V hV)
    exact⟨aP V hV,hz.cell rfl,hz.cell rfl,hz.cell rfl,hz.cell rfl,hz.cell rfl,hz.cell rfl,hz.cell rfl,hz.cell rfl,hz.cell rfl,hz.cell rfl,hz.cell rfl,hz.cell rfl,hz.cell rfl,b0,b1,b2,b3,b4,b5,b6,b7,b8,b9,bm⟩)
   have aS:=yh cP;have cA:decide ((k:Int)<(n:Int))=true:=J2 (by omega);clear hN a9 bF cW cT cP cZ aQ aE aq;go_upto_region 17 with(fail);go_cut [10,11] (fun q1 q2 wx=>∃zz aa p2,yp q1 zz∧yp q2 aa∧Blk wx zz (Qa DX p2) 32∧Blk wx aa (Qt N) 55∧Hid (∀V,Kept (fun j=>j=z∨j=Q) I V→NewSame I wx V→SaiR V DX p2)∧yw I wx)
   case first=>
    have O:yw I I.drew:=(J4 _ I).drew;clear cN ae ad HS HL cO U HG HQ Y ax ay ah ar aw aB aJ a5 a3 aO aP aS ak ac ao c0 a0 aR;refine yZ (S:=(fun w'=>yJ w' q 0 (some ⟨ba,F,none⟩) n cap∧yI w' z 0 y.ship.legs∧yI w' z 1 y.ship.souls∧w'.cell? ⟨z,2,none⟩=some (Value.slice p'.A p'.n p'.cap)∧w'.cell? ⟨z,3,none⟩=some (Value.slice p'.B p'.m p'.cap2)∧w'.cell? ⟨z,4,none⟩=some (Value.slice p'.D p'.nd p'.cd)∧yI w' z 5 y.fares.alone∧yI w' z 6 y.fares.third∧w'.cell? ⟨z,7,none⟩=some (Value.slice p'.E p'.ne p'.ce)∧yI w' z 8 y.fares.down∧yI w' z 9 y.day∧yI w' z 10 y.leaves∧w'.cell? ⟨z,11,none⟩=some (Value.slice p'.C p'.nb p'.cb)∧w'.cell? ⟨z,12,none⟩=some (.bool y.closed)∧yI w' ba (F+k*13) d.ask.number∧yI w' ba (F+k*13+1) d.ask.kind∧yI w' ba (F+k*13+2) d.ask.id∧yI w' ba (F+k*13+3) d.ask.guests∧w'.cell? ⟨ba,F+k*13+4,none⟩=some (.bool d.ask.level)∧yI w' ba (F+k*13+5) d.ask.cabin∧yI w' ba (F+k*13+6) d.ask.category∧yI w' ba (F+k*13+7) d.ask.frm∧yI w' ba (F+k*13+8) d.ask.upto∧yI w' ba (F+k*13+9) d.ask.til∧yI w' ba (F+k*13+10) d.ask.amount)) (aF _ O) fun af=>?_;refine yT [0,1,2,3,4,5,6] ?_;iterate 7 (refine yS ?_;simp only[yU])
    clear af
    revert O
    generalize I.drew=V0
    intro O
    focus
     refine yr3 7 11 12 (fun K k7=>?_) (fun K aX=>?_) (fun K aY=>?_)
     repeat first
      |
       revert k7
       intro hK
       ((focus go_simp);go_at_call 52;have ch:=O.size;refine(a1 _ O).mono ?_;rintro e w8 ⟨⟨p2,rfl,hk⟩,aj⟩;have hA:=Aft.rf aj;have cj:=fun V h1 (h2:NewSame _ w8 V)=>hk V h1 h2;(try have bA:=Aft.old hL w8);(try have bB:=Aft.old hM w8);(try replace hL:=hL.bel aj);(try replace hM:=hM.bel aj);replace O:=O.trans (aj.mono O.size);clear aj hk;(focus go_wp2_with fail))
       refine hK.out _ _ (aF _ O) fun af=>?_;clear hK K
       try simp only[yU]
       refine yT [8,9,10] ?_;iterate 3 (refine yS ?_;simp only[yU])
       first
        | refine yt2 11 12 (fun K aX=>?_) (fun K aY=>?_)
        | refine yt1 12 (fun K aY=>?_)
        | refine yt1 11 (fun K aX=>?_)
        | refine yt1 13 (fun K bG=>?_)
      |
       revert aX
       intro hK
       ((try clear af);(focus go_simp);refine yO fun V hV=>?_;obtain⟨aG,am,hL,ck⟩:=Qic O hV;(try have bA:=hA.new);(try replace hA:=hA.bel aG);(try replace hM:=hM.bel aG);replace O:=am;clear hV aG am)
       refine hK.out _ _ (aF _ O) fun af=>?_;clear hK K
       try simp only[yU]
       clear af
       first
        | refine yt2 7 12 (fun K k7=>?_) (fun K aY=>?_)
        | refine yt1 12 (fun K aY=>?_)
        | refine yt1 7 (fun K k7=>?_)
        | refine yt1 13 (fun K bG=>?_)
      |
       revert aY
       intro hK
       ((try clear af);(focus go_simp);refine yO fun V hV=>?_;obtain⟨aG,am,hM,cl⟩:=Qic O hV;(try have bB:=hA.new);(try replace hA:=hA.bel aG);(try replace hL:=hL.bel aG);replace O:=am;clear hV aG am)
       refine hK.out _ _ (aF _ O) fun af=>?_;clear hK K
       try simp only[yU]
       clear af
       first
        | refine yt2 7 11 (fun K k7=>?_) (fun K aX=>?_)
        | refine yt1 11 (fun K aX=>?_)
        | refine yt1 7 (fun K k7=>?_)
        | refine yt1 13 (fun K bG=>?_)
      |
       revert bG
       intro hK
       ((try clear af);refine wp_store_row 32 (.tmp 10) (.tmp 87) rfl _ (Qa DX p2) rfl rfl 32 _ hL (by kernel_rfl) rfl (by simp[Qa,Value.oneCell']) ?_;refine yO fun V hV=>?_;(try replace hM:=hM.rowO hL (by decide) hV);replace hA:=hA.row bA hV;obtain⟨am,bU⟩:=Urc O hL ck hV;replace hL:=bU;replace O:=am;clear hV bU am bA)
       refine hK.out _ _ (aF _ O) fun af=>?_;clear hK K
       try simp only[yU]
       clear af;refine yr1 14 (fun K cu=>?_)
      |
       revert cu
       intro hK
       ((try clear af);refine wp_store_row 55 (.tmp 11) (.tmp 88) rfl _ (Qt N) rfl rfl 55 _ hM (by kernel_rfl) rfl (by simp[Qt,Value.oneCell']) ?_;refine yO fun V hV=>?_;replace hL:=hL.rowO hM (by decide) hV;replace hA:=hA.row bB hV;obtain⟨am,bV⟩:=Urc O hM cl hV;replace hM:=bV;replace O:=am;clear hV bV am bB)
       refine hK.out _ _ (aF _ O) fun af=>?_;clear hK K
       try simp only[yU]
       clear af;rotate_left
     all_goals
      refine yD ?_;go_wp2_with fail;go_meet;exact⟨_,_,p2,rfl,rfl,hL,hM,yh (fun V h1 h2=>cj V h1 (hA.fin ch h2)),O⟩
   obtain⟨zz,aa,p2,rfl,rfl,bY,bT,bi,aj⟩:=hcut;obtain⟨W8,rfl⟩:=yE wc;obtain⟨tv,bE⟩:=yE (decide (N≠d.ans));have aM:=fun W=>VSb N d.ans W;rw[←bE]at aM;simp only[Qt]at aM;have bk:=yh bE;have aN:=yh aj
   have bO:=yh (show ∀V,yw W8 V→(fun w'=>yJ w' q 0 (some ⟨ba,F,none⟩) n cap∧yI w' aa 0 N.errno∧yI w' aa 1 N.owed∧yI w' ba (F+k*13+11) d.ans.errno∧yI w' ba (F+k*13+12) d.ans.owed) V from fun V hV=>by
    have ha:=bT.bel hV;have h7:=aj.trans (hV.mono aj.size);obtain⟨-,-,-,-,-,-,-,-,-,-,-,a6,a7⟩:=Q0a (aO V h7)
    exact⟨aP V h7,ha.cell rfl,ha.cell rfl,a6,a7⟩)
   have bl:=yh bY;clear bY bT aj bE aF a1 d5 c0;go_upto_region 18 with(fail);go_cut [96] (fun t wx=>t=.bool tv∧yw W8 wx)
   case first=>
    have O:yw W8 W8.drew:=(J4 _ W8).drew;clear cN ae ad HS HL cO U HG HQ Y ax ay ah ar aw aB aJ a5 a3 aO aP aS ak ac ao a0 aR bk aN bl bi;refine yZ (S:=(fun w'=>yJ w' q 0 (some ⟨ba,F,none⟩) n cap∧yI w' aa 0 N.errno∧yI w' aa 1 N.owed∧yI w' ba (F+k*13+11) d.ans.errno∧yI w' ba (F+k*13+12) d.ans.owed)) (bO _ O) fun af=>?_;refine yT [0,1,2,3,4,5,6,7] ?_;iterate 8 (refine yS ?_;simp only[yU])
    refine yD ?_;go_wp2_with fail;go_meet;exact⟨rfl,O⟩
   obtain⟨rfl,bb⟩:=hcut;obtain⟨W9,rfl⟩:=yE wc;have bo:=aN.trans (bb.mono aN.size);have bg:=aS.bel bo;have c2:=bl.bel bb;have c4:=ao.size;have cx:=bg.lt;have cw:=aN.size;have cI:Q<I.heap.size:=Nat.lt_of_lt_of_le ct ac.size;have cJ:z<I.heap.size:=aS.lt
   have aI:=yh (show Blk (W9.setRow z (Qa DX p2)) z (Qa DX p2) 32∧(∀V,Kept (fun j=>j=z∨j=Q) (W9.setRow z (Qa DX p2)) V→SaiR V DX p2)∧Kept (fun j=>j=z) W4 (W9.setRow z (Qa DX p2))from by
    refine⟨bg.row _,fun V hV=>bi V (((Kept.of_below bo (fun j hj h2=>absurd h2 (by omega))).setRow (.inl (.inl rfl)) _).trans hV) (fun j b1 b2=>?_),(ax.trans (Kept.of_below (ao.trans (bo.mono c4)) (fun j hj h2=>absurd h2 (by omega)))).setRow (.inl rfl) _⟩;have h9:=bb.size;exact(hV.block j (by simp;omega) (by omega)).trans ((setRow_other _ _ _ _ (by omega)).trans (bb.block j b2))
   )
   have aW:=aJ.out
   have bN:=yh (show ∀er:Int,er=(if tv=true then 4 else 0)→(er=0∧e0=0∧QD DX=0∧opn mkA x [] l=opn mkA DX (l.take (k+1)) (l.drop (k+1)))∨(¬er=0∧R=er)from fun er aV=>by
    have h2:=a3.out;have h3:=bk.out;by_cases q0:N=d.ans
    ·rw[M3 q0]at h2
     have:tv=false:=by rw[h3];simpa using q0
     rw[this]at aV;exact .inl ⟨aV,ah.1,a5,h2⟩
    ·rw[M2 q0]at h2
     have:tv=true:=by rw[h3];simpa using q0
     rw[this]at aV
     exact .inr ⟨by rw[aV];decide,by rw[cN.out,M2 (by simpa using ah.out.1),h2,aV];rfl⟩)
   clear cN ae ad HS HL cO U HG HQ Y ax ay ah ar aw aB aJ a5 a3 aO aP aS ak ac ao a0 aR bk aN bl bi bO aM;cases tv
   ·go_wp2_with (first|(refine yV (.tmp 10) c2 underlying32 ?_)|(refine wpList_store_row rfl 32 (.tmp 7) (.tmp 97) rfl z (Qa DX p2) rfl rfl 32 _ bg (by kernel_rfl) rfl (by simp[Qa,Value.oneCell']) ?_));go_roundg (n-(k+1))
    case measure=>omega
    case rel=>exact⟨k+1,0,DX,p2,by omega,by omega,by go_num,rfl,aI.1,yh (bN.out 0 rfl),yh aI.out.2.1,aI.2.2⟩
   ·go_wp2_with (first|(refine yV (.tmp 10) c2 underlying32 ?_)|(refine wpList_store_row rfl 32 (.tmp 7) (.tmp 97) rfl z (Qa DX p2) rfl rfl 32 _ bg (by kernel_rfl) rfl (by simp[Qa,Value.oneCell']) ?_));go_roundg (n-(k+1))
    case measure=>omega
    case rel=>exact⟨k+1,4,DX,p2,by omega,by omega,by go_num,rfl,aI.1,yh (bN.out 4 rfl),yh aI.out.2.1,aI.2.2⟩
theorem ch9 {x:Sai}{t E:Int}(h:QD x=0)(A:In9 E):In9 (chE x t E):=by rw[UTa h];exact ZQ A n9
theorem ZOc {x:Sai}{a:Ask}(h:QD x=0)(A:1≤a.kind∧a.kind≤8):In9 (mkA.e x a):=by
 rcases QVa A with q|q|q|q|q|q|q|q
 ·rw[(Xra q).2];exact Zsb h _ _
 ·rw[(U7a q).2];exact Zsb h _ _
 ·rw[(U8a q).2];exact ch9 h (ZQ n9 n9)
 ·rw[(U9a q).2];exact ch9 h (ZQ n9 (ZQ n9 (Yk _)))
 ·rw[(Vaa q).2];exact ch9 h (ZQ n9 (Yk _))
 ·rw[(Vba q).2];exact ch9 h (ZQ n9 (ZQ n9 (ZQ n9 (ZQ (Q0c _ _) (Ufb _)))))
 ·rw[(Vca q).2];unfold Y4;rw[M2 (by simpa using h)];exact ZQ n9 (ZQ n9 n9)
 ·rw[(Vda q).2];unfold XB;rw[M2 (by simpa using h)];exact ZQ n9 n9
theorem ZMb {y:Sai}{a:Ask}(h:QD y=0)(A:YGb y a):InI (doA mkA y a).errno∧InI (doA mkA y a).owed:=by
 unfold doA;by_cases q:mkA.e y a=0
 ·rw[M3 q];exact⟨UJ,Xab (Yd y a A q) a.id⟩
 ·rw[M2 q];exact⟨In9.inI (ZOc h A.2),UJ⟩
end Go.Proofs.YtjdcokpmgionjaaGreat
