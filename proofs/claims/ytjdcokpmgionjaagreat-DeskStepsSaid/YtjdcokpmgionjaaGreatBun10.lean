/-
  Laws and contracts.
-/
import Derived.Test.YtjdcokpmgionjaaGreatBun6
import Derived.Test.YtjdcokpmgionjaaGreatBun8
import Derived.Test.YtjdcokpmgionjaaGreatBun9
set_option linter.unusedSimpArgs false
set_option linter.unusedVariables false
set_option maxRecDepth 100000
set_option maxHeartbeats 20000000
namespace Go.Proofs.YtjdcokpmgionjaaGreat
open Proofs.Tryz Go.RowKit Go.Shelf
structure Sai where
 ship:Shp
 fares:Fares
 day:Int
 leaves:Int
 bks:List Bkg
 closed:Bool
structure SaiV where
 A:Option Addr
 n:Nat
 cap:Nat
 B:Option Addr
 m:Nat
 cap2:Nat
 D:Option Addr
 nd:Nat
 cd:Nat
 E:Option Addr
 ne:Nat
 ce:Nat
 C:Option Addr
 nb:Nat
 cb:Nat
abbrev Qa (x:Sai) (p:SaiV):Array Value:=#[.int .i64 x.ship.legs,.int .i64 x.ship.souls,.slice p.A p.n p.cap,.slice p.B p.m p.cap2,.slice p.D p.nd p.cd,.int .i64 x.fares.alone,.int .i64 x.fares.third,.slice p.E p.ne p.ce,.int .i64 x.fares.down,.int .i64 x.day,.int .i64 x.leaves,.slice p.C p.nb p.cb,.bool x.closed]
structure SaiR (w:World) (x:Sai) (p:SaiV):Prop where
 cats:Sl UX 2 w All p.A p.n p.cap x.ship.cats
 cabs:Sl Ut 4 w All p.B p.m p.cap2 x.ship.cabs
 fares:FareR w p.D p.nd p.cd x.fares p.E p.ne p.ce
 bks:Sl ZP 11 w All p.C p.nb p.cb x.bks
theorem SaiR.bel {w w':World}{x:Sai}{p:SaiV}(h:SaiR w x p)(A:yw w w'):SaiR w' x p:=⟨h.cats.bel A,h.cabs.bel A,h.fares.below A,h.bks.bel A⟩
def QH (b:Bkg):Bool:=decide (b.kind=2) && (QB b && decide (b.cab<0))
def Vj (closed:Bool) (b:Bkg):Bool:=decide (b.kind=2) && (QB b && (decide (b.cab<0)==closed))
def Vb (x:Sai) (i:Nat):Int:=if ofE x.ship (x.bks.getD i default)≠0 then ofE x.ship (x.bks.getD i default)else if 0<i∧(x.bks.getD i default).id≤(x.bks.getD (i-1) default).id then 4 else 0
def Xy (x:Sai):Int:=if 16<x.bks.length then 2 else if Qn (Vb x) x.bks.length≠0 then Qn (Vb x) x.bks.length else if x.bks.any (Vj x.closed)=true then 4 else 0
def QN (l:List Bkg) (c:Nat):Bool:=!l.any (UZ c)
def Uw (x:Sai) (b:Bkg):List Int:=((List.range x.ship.cabs.length).filter (fun c:Nat=>Zi x.ship b (c:Int) && QN x.bks c)).map Int.ofNat
def QI (x:Sai):List Bkg:=x.bks.filter QH
def UC (x:Sai):List Int:=(QI x).map (·.id)
def ZD (x:Sai):List Bkg→Nat→List Edg
 | [],_=>[]
 | b::l,i=>(Uw x b).map (fun c=>⟨i,c⟩)++ZD x l (i+1)
def Zl (x:Sai):List Edg:=ZD x (QI x) 0
def VEb (n:Nat) (l:List Edg):Prop:=∃M,IsM (U1 l) M∧M.length=n
noncomputable def UB (n:Nat) (l:List Edg):Bool:=@decide (VEb n l) (Classical.propDecidable _)
theorem QTa {n:Nat}{l:List Edg} : UB n l=true↔VEb n l:=by
 unfold UB;exact @decide_eq_true_iff _ (Classical.propDecidable _)
theorem Y6 {n:Nat}{l:List Edg}(h:VEb n l):UB n l=true:=QTa.2 h
def Um (x:Sai):Bool:=(List.range x.ship.cabs.length).any (fun c=>!ZZ x.bks (c:Int))
noncomputable def QX (x:Sai):Int:=
 if Um x=true then 6 else if x.ship.souls<mx (QU x.bks x.ship.legs.toNat)then 8 else if UB (UC x).length (Zl x)=true then 0 else 9
noncomputable def QD (x:Sai):Int:=if Z9 x.ship≠0 then Z9 x.ship else if ZI x.fares x.ship.cats.length x.ship.legs≠0 then ZI x.fares x.ship.cats.length x.ship.legs
 else if (Qc x.day 0 9999 && Qc x.leaves 0 9999)=false then 3 else if Xy x≠0 then Xy x else if QX x=8 then 2 else QX x
structure OkBs (x:Sai):Prop where
 ship:OkShp x.ship
 bk:∀b∈x.bks,OkBk x.ship b
 len:x.bks.length≤16
 rise:∀i,i+1<x.bks.length→(x.bks.getD i default).id<(x.bks.getD (i+1) default).id
 bad:x.bks.any (Vj x.closed)=false
theorem ZVb (n:Int)(w:World):Calls prog 79 #[.int .i64 n] w fun e w'=>e=.returned (.bool (Qc n 0 9999))∧w=w':=by
 go_enter func79,ntmps79;go_wp2
 all_goals go_ret
 all_goals exact⟨Ux (by unfold Qc;simp;try omega),rfl⟩
theorem XSb (id D O J:Int)(lev:Bool)(A E I upto Q:Int)(F:List Entry):QH ⟨id,D,O,J,lev,A,E,I,upto,Q,F⟩=(decide (D=2) && (QB ⟨id,D,O,J,lev,A,E,I,upto,Q,F⟩ && decide (A<0))):=rfl
theorem XUb (b:Bkg)(v:Value)(w:World):Calls prog 190 #[.agg (Qk b v)] w fun e w'=>e=.returned (.bool (QH b))∧yw w w':=by
 obtain⟨id,F,U,O,lev,D,I,J,upto,V,ad⟩:=b;obtain⟨r,Q⟩:=yE (QH ⟨id,F,U,O,lev,D,I,J,upto,V,ad⟩);rw[←Q];rw[XSb]at Q;have Y:=fun W=>YK ⟨id,F,U,O,lev,D,I,J,upto,V,ad⟩ v W;obtain⟨q,hq⟩:=yE (QB ⟨id,F,U,O,lev,D,I,J,upto,V,ad⟩);rw[←hq]at Y Q;have HR:=yh Q;clear Q;have HL:=yh Y;clear Y;clear hq;go_enter func190,ntmps190;go_upto_region 0 with(fail);go_cut [1,2] (fun p _ wx=>∃h,yp p h∧Blk wx h (Qk ⟨id,F,U,O,lev,D,I,J,upto,V,ad⟩ v) 63∧yw w wx)
 case first=>as_aux_lemma=>
  go_wp2_with fail;go_meet;exact⟨_,rfl,Zk _ _,Qi _ _⟩
 obtain⟨h,rfl,A,E⟩:=hcut;have z0:yI wc h 0 id:=A.cell rfl;have z1:yI wc h 1 F:=A.cell rfl;have z2:yI wc h 2 U:=A.cell rfl;have z3:yI wc h 3 O:=A.cell rfl;have z4:wc.cell? ⟨h,4,none⟩=some (.bool lev):=A.cell rfl;have z5:yI wc h 5 D:=A.cell rfl;have z6:yI wc h 6 I:=A.cell rfl;have z7:yI wc h 7 J:=A.cell rfl;have z8:yI wc h 8 upto:=A.cell rfl;have z9:yI wc h 9 V:=A.cell rfl;have aa:wc.cell? ⟨h,10,none⟩=some (v):=A.cell rfl;by_cases hk:F=2;rotate_left
 ·obtain rfl:r=false:=by rw[HR.out,J3 hk];rfl
  have ab:(F==2)=false:=by simpa using hk
  clear hk;go_wp2_with fail;go_ret;exact⟨rfl,E⟩
 have X:=yh (show r=(q && decide (D<0))by rw[HR.out,J2 hk];rfl);subst hk;go_wp2_with fail;refine yM (HL _) fun w2 Z=>?_;replace A:=A.bel Z;replace E:=E.trans (Z.mono E.size);clear Z z0 z1 z2 z3 z4 z5 z6 z7 z8 z9 aa;have z5:yI w2 h 5 D:=A.cell rfl;cases q
 ·obtain rfl:r=false:=X.out;go_wp2_with fail;go_ret;exact⟨rfl,E⟩
 by_cases hcb:D<0
 ·obtain rfl:r=true:=by rw[X.out,J2 hcb];rfl
  go_wp2_with fail;go_ret;exact⟨rfl,E⟩
 ·obtain rfl:r=false:=by rw[X.out,J3 hcb];rfl
  have hd:=J3 hcb;clear hcb;go_wp2_with fail;go_ret;exact⟨rfl,E⟩
theorem U0a (b:Bkg)(v:Value)(w:World):Calls prog 203 #[.agg (Qk b v)] w fun e w'=>e=.returned (.bool (QH b))∧yw w w':=by
 obtain⟨id,F,D,U,lev,E,O,Q,upto,W,Y⟩:=b;obtain⟨r,V⟩:=yE (QH ⟨id,F,D,U,lev,E,O,Q,upto,W,Y⟩);rw[←V];have X:=yh (show r=(decide (F=2) && (!decide (D=3) && decide (E<0)))by rw[V];rfl);clear V;go_enter func203,ntmps203;go_upto_region 0 with(fail);go_cut [1,2] (fun p _ Z=>∃h,yp p h∧Blk Z h (Qk ⟨id,F,D,U,lev,E,O,Q,upto,W,Y⟩ v) 63∧yw w Z)
 case first=>as_aux_lemma=>
  go_wp2_with fail;go_meet;exact⟨_,rfl,Zk _ _,Qi _ _⟩
 obtain⟨h,rfl,A,I⟩:=hcut;have z0:yI wc h 0 id:=A.cell rfl;have z1:yI wc h 1 F:=A.cell rfl;have z2:yI wc h 2 D:=A.cell rfl;have z3:yI wc h 3 U:=A.cell rfl;have z4:wc.cell? ⟨h,4,none⟩=some (.bool lev):=A.cell rfl;have z5:yI wc h 5 E:=A.cell rfl;have z6:yI wc h 6 O:=A.cell rfl;have z7:yI wc h 7 Q:=A.cell rfl;have z8:yI wc h 8 upto:=A.cell rfl;have z9:yI wc h 9 W:=A.cell rfl;have ac:wc.cell? ⟨h,10,none⟩=some (v):=A.cell rfl;by_cases hk:F=2;rotate_left
 ·obtain rfl:r=false:=by rw[X.out,J3 hk];rfl
  have aa:(F==2)=false:=by simpa using hk
  clear hk;go_wp2_with fail;go_ret;exact⟨rfl,I⟩
 have J:=yh (show r=(!decide (D=3) && decide (E<0))by rw[X.out,J2 hk];rfl);subst hk;by_cases h3:D=3
 ·obtain rfl:r=false:=by rw[J.out,J2 h3];rfl
  subst h3;go_wp2_with fail;go_ret;exact⟨rfl,I⟩
 have ab:(D !=3)=true:=by simpa using h3
 by_cases hcb:E<0
 ·obtain rfl:r=true:=by rw[J.out,J2 hcb,J3 h3];rfl
  clear h3;go_wp2_with fail;go_ret;exact⟨rfl,I⟩
 ·obtain rfl:r=false:=by rw[J.out,J3 hcb,Bool.and_false]
  clear h3;go_wp2_with fail;go_ret;exact⟨rfl,I⟩
theorem YPb (b:Bkg)(v:Value)(I:Bool)(g:Nat)(w:World)(hg:w.cell? ⟨g,12,none⟩=some (.bool I)):Calls prog 167 #[.agg (Qk b v),.pointer (some ⟨g,0,none⟩)] w fun e w'=>e=.returned (.bool (Vj I b))∧yw w w':=by
 obtain⟨id,F,V,U,lev,E,O,Q,upto,ad,X⟩:=b;obtain⟨r,hr⟩:=yE (Vj I ⟨id,F,V,U,lev,E,O,Q,upto,ad,X⟩);rw[←hr];have Y:=fun W=>YK ⟨id,F,V,U,lev,E,O,Q,upto,ad,X⟩ v W;obtain⟨q,hq⟩:=yE (QB ⟨id,F,V,U,lev,E,O,Q,upto,ad,X⟩);have HR:=yh (show r=(decide (F=2) && (q && (decide (E<0)==I)))by rw[hr,hq];rfl);rw[←hq]at Y;have HL:=yh Y;clear Y;have HG:=yh hg;clear hg;clear hq hr;go_enter func167,ntmps167;go_upto_region 0 with(fail);go_cut [1,2,3] (fun p0 p _ wx=>∃h,yp p0 g∧yp p h∧Blk wx h (Qk ⟨id,F,V,U,lev,E,O,Q,upto,ad,X⟩ v) 63∧yw w wx)
 case first=>as_aux_lemma=>
  go_wp2_with fail;go_meet;exact⟨_,rfl,rfl,Zk _ _,Qi _ _⟩
 obtain⟨h,rfl,rfl,A,D⟩:=hcut;have z0:yI wc h 0 id:=A.cell rfl;have z1:yI wc h 1 F:=A.cell rfl;have z2:yI wc h 2 V:=A.cell rfl;have z3:yI wc h 3 U:=A.cell rfl;have z4:wc.cell? ⟨h,4,none⟩=some (.bool lev):=A.cell rfl;have z5:yI wc h 5 E:=A.cell rfl;have z6:yI wc h 6 O:=A.cell rfl;have z7:yI wc h 7 Q:=A.cell rfl;have z8:yI wc h 8 upto:=A.cell rfl;have z9:yI wc h 9 ad:=A.cell rfl;have aa:wc.cell? ⟨h,10,none⟩=some (v):=A.cell rfl;by_cases hk:F=2;rotate_left
 ·obtain rfl:r=false:=by rw[HR.out,J3 hk];rfl
  have ab:(F==2)=false:=by simpa using hk
  clear hk;go_wp2_with fail;go_ret;exact⟨rfl,D⟩
 have J:=yh (show r=(q && (decide (E<0)==I))by rw[HR.out,J2 hk];rfl);subst hk;go_wp2_with fail;refine yM (HL _) fun w2 Z=>?_;replace A:=A.bel Z;replace D:=D.trans (Z.mono D.size);clear Z z0 z1 z2 z3 z4 z5 z6 z7 z8 z9 aa;have z5:yI w2 h 5 E:=A.cell rfl;have g5:=Qh D HG;cases q
 ·obtain rfl:r=false:=J.out;go_wp2_with fail;go_ret;exact⟨rfl,D⟩
 by_cases hcb:E<0
 ·cases I
  ·obtain rfl:r=false:=by rw[J.out,J2 hcb];rfl
   go_wp2_with fail;go_ret;exact⟨rfl,D⟩
  ·obtain rfl:r=true:=by rw[J.out,J2 hcb];rfl
   go_wp2_with fail;go_ret;exact⟨rfl,D⟩
 ·have hd:=J3 hcb;cases I
  ·obtain rfl:r=true:=by rw[J.out,J3 hcb];rfl
   clear hcb;go_wp2_with fail;go_ret;exact⟨rfl,D⟩
  ·obtain rfl:r=false:=by rw[J.out,J3 hcb];rfl
   clear hcb;go_wp2_with fail;go_ret;exact⟨rfl,D⟩
theorem Xpb (b:Bkg)(v:Value)(c:Int)(g:Nat)(w:World)(Y:yI w g 0 c):Calls prog 192 #[.agg (Qk b v),.pointer (some ⟨g,0,none⟩)] w fun e w'=>e=.returned (.bool (UZ c b))∧yw w w':=by
 obtain⟨id,J,O,I,lev,D,E,F,upto,Q,U⟩:=b;have V:=fun W=>ZIb ⟨id,J,O,I,lev,D,E,F,upto,Q,U⟩ v c W;obtain⟨q,X⟩:=yE (UZ c ⟨id,J,O,I,lev,D,E,F,upto,Q,U⟩);rw[←X]at V;rw[←X];have HL:=yh V;clear V;have HG:=yh Y;clear Y;clear X;go_enter func192,ntmps192;go_upto_region 0 with(fail);go_cut [1,2,3] (fun p0 p _ Z=>∃h,yp p0 g∧yp p h∧Blk Z h (Qk ⟨id,J,O,I,lev,D,E,F,upto,Q,U⟩ v) 63∧yw w Z)
 case first=>as_aux_lemma=>
  go_wp2_with fail;go_meet;exact⟨_,rfl,rfl,Zk _ _,Qi _ _⟩
 obtain⟨h,rfl,rfl,A,ad⟩:=hcut;have z0:yI wc h 0 id:=A.cell rfl;have z1:yI wc h 1 J:=A.cell rfl;have z2:yI wc h 2 O:=A.cell rfl;have z3:yI wc h 3 I:=A.cell rfl;have z4:wc.cell? ⟨h,4,none⟩=some (.bool lev):=A.cell rfl;have z5:yI wc h 5 D:=A.cell rfl;have z6:yI wc h 6 E:=A.cell rfl;have z7:yI wc h 7 F:=A.cell rfl;have z8:yI wc h 8 upto:=A.cell rfl;have z9:yI wc h 9 Q:=A.cell rfl;have ab:wc.cell? ⟨h,10,none⟩=some (v):=A.cell rfl;have g5:=Qh ad HG;go_wp2_with fail;refine yM (HL _) fun w2 aa=>?_;go_wp2_with fail;go_ret;exact⟨rfl,ad.trans (aa.mono ad.size)⟩
theorem VGa (A:Option Addr)(n cap:Nat)(l:List Bkg)(g:Nat)(lb:Array Value)(p:Bkg→Bool)(w:World)(h:Sl ZP 11 w All A n cap l)
  (eg:∀Z w,(callFunc g Z).run prog w=.ok (.enter g Z) w)
  (hp:∀(x:Bkg) (v:Value) (w1:World),x∈l→yw w w1→Calls prog g (#[.agg (Qk x v)]++lb) w1 fun e w'=>e=.returned (.bool (p x))∧yw w1 w') :
  Calls prog 189 #[.slice A n cap,.func (.func g) #[] lb] w fun e w'=>e=.returned (.int .i64 (UD p l))∧yw w w':=by
 have Hp:=yh hp;clear hp;have ai:=h.bd;have HL:=yh h;have HN:=yh h.len;clear h;go_enter func189,ntmps189;go_wp2_with fail
 go_loopg [8] n (fun gk i wr=>∃k:Nat,k≤n∧n-k≤gk∧i=.int .i64 k∧Aside ((l.take k).any p=false)∧yw w wr)
 case atStart=>exact⟨0,M0 _,by omega,rfl,rfl,J4 _ _⟩
 case round=>
  obtain⟨k,hk,aj,rfl,J,F⟩:=hrel;by_cases hlt:k<n
  ·skip;obtain⟨D,E,⟨id,ae,af,ad,lev,aa,ab,ac,upto,ag,ah⟩,V,n3,c3,hA,U,hF,hI,am⟩:=(HL.bel F).bkg hlt;subst hA;simp only at hF;have y0:yI wr D (E+k*11) id:=am 0 _ rfl;have y1:yI wr D (E+k*11+1) ae:=am 1 _ rfl;have y2:yI wr D (E+k*11+2) af:=am 2 _ rfl;have y3:yI wr D (E+k*11+3) ad:=am 3 _ rfl;have y4:wr.cell? ⟨D,E+k*11+4,none⟩=some (.bool lev):=am 4 _ rfl;have y5:yI wr D (E+k*11+5) aa:=am 5 _ rfl;have y6:yI wr D (E+k*11+6) ab:=am 6 _ rfl;have y7:yI wr D (E+k*11+7) ac:=am 7 _ rfl;have y8:yI wr D (E+k*11+8) upto:=am 8 _ rfl;have y9:yI wr D (E+k*11+9) ag:=am 9 _ rfl;have ak:yJ wr D (E+k*11+10) V n3 c3:=am 10 _ rfl;clear am;have Y:=yh U;have HM:=yh (J6 U);have O:=Hp _ (.slice V n3 c3) wr HM F;obtain⟨q,Q⟩:=yE (p ⟨id,ae,af,ad,lev,aa,ab,ac,upto,ag,ah⟩);rw[←Q]at O;have W:=yh O;clear O;have X:=yh Q;clear Q;clear U hF hI;cases q
   ·skip;go_wp2_with fail;go_at_fn g;refine yM W fun w1 I=>?_;replace I:=F.trans (I.mono F.size);go_wp2_with fail;go_roundg (n-(k+1))
    case measure=>omega
    case rel=>exact⟨k+1,by omega,by omega,by go_num,by show _=_;rw[Qu Y.out,J,←X.out];rfl,I⟩
   ·skip;go_wp2_with fail;go_at_fn g;refine yM W fun w1 I=>?_;replace I:=F.trans (I.mono F.size);go_wp2_with fail;go_ret;exact⟨ZN (VA J Y X.symm).symm,I⟩
  ·obtain rfl:k=n:=by omega
   have HT:=yh (M1 (Nat.le_of_eq HN));go_wp2_with fail;go_ret;exact⟨ZN (by rw[ZK (by rw[←HT.out];exact J)]),F⟩
theorem XX (A:Option Addr)(n cap:Nat)(l:List Bkg)(g:Nat)(lb:Array Value)(p:Bkg→Bool)(w:World)(h:Sl ZP 11 w All A n cap l)
  (I:∀U w,(callFunc g U).run prog w=.ok (.enter g U) w)
  (D:∀(x:Bkg) (v:Value) (w1:World),x∈l→yw w w1→Calls prog g (#[.agg (Qk x v)]++lb) w1 fun e w'=>e=.returned (.bool (p x))∧yw w1 w') :
  Calls prog 166 #[.slice A n cap,.func (.func g) #[] lb] w fun e w'=>e=.returned (.bool (l.any p))∧yw w w':=by
 have E:=VGa A n cap l g lb p w h I D;clear D;go_enter func166,ntmps166;go_wp2_with fail;refine yM E fun w1 J=>?_;have F:=yh (VH (p:=p) (l:=l));have O:=Yp (p:=p) (l:=l) (by have:=h.bd;have:=h.len;omega);go_wp2_with fail;go_ret;exact⟨Ux F,J⟩
theorem Yi {x:Sai}{k:Nat}{b:Bkg}(h:x.bks[k]? = some b):Vb x k=if ofE x.ship b≠0 then ofE x.ship b else if 0<k∧b.id≤(x.bks.getD (k-1) default).id then 4 else 0:=by
 unfold Vb;rw[J7,h];rfl
theorem XRa (x:Sai)(p:SaiV)(w:World)(h:SaiR w x p)(ho:OkShp x.ship) :
  Calls prog 80 #[.agg (Qa x p)] w fun e w'=>e=.returned (.int .i64 (Xy x))∧yw w w':=by
 obtain⟨A,n,cap,B,m,ab,D,nd,cd,E,ne,ce,C,F,cb⟩:=p;obtain⟨r,hr⟩:=yE (Xy x);rw[←hr];have HS:=yh h;have hl:Sl ZP 11 w All C F cb x.bks:=h.bks;have hc:Sl UX 2 w All A n cap x.ship.cats:=h.cats;have hd:Sl Ut 4 w All B m ab x.ship.cabs:=h.cabs;have HO:=yh (fun b X n3 Z W h1 h2 h3=>QBa x.ship A n cap B m ab b X n3 Z W h1 h2 ho h3);have aM:=hl.bd;obtain⟨fe,U⟩:=yE (Qn (Vb x) F);have HR:=yh (show r=if 16<F then 2 else if fe≠0 then fe else if x.bks.any (Vj x.closed)=true then 4 else 0 by rw[hr,U,←hl.len];rfl);have ar:=yh U;clear U;have HN:=yh hl.len;have HL:=yh hl;have HC:=yh hc;have HD:=yh hd;clear hr h hl hc hd;go_enter func80,ntmps80;go_upto_region 0 with(fail);go_cut [1,2] (fun q _ wx=>∃g,yp q g∧Blk wx g (Qa x ⟨A,n,cap,B,m,ab,D,nd,cd,E,ne,ce,C,F,cb⟩) 32∧yw w wx)
 case first=>as_aux_lemma=>
  go_wp2_with fail;go_meet;exact⟨_,rfl,Zk _ _,Qi _ _⟩
 obtain⟨g,rfl,hG,ay⟩:=hcut;have s0:yI wc g 0 x.ship.legs:=hG.cell rfl;have s1:yI wc g 1 x.ship.souls:=hG.cell rfl;have s2:yJ wc g 2 A n cap:=hG.cell rfl;have s3:yJ wc g 3 B m ab:=hG.cell rfl;have s4:yJ wc g 4 D nd cd:=hG.cell rfl;have s5:yI wc g 5 x.fares.alone:=hG.cell rfl;have s6:yI wc g 6 x.fares.third:=hG.cell rfl;have s7:yJ wc g 7 E ne ce:=hG.cell rfl;have s8:yI wc g 8 x.fares.down:=hG.cell rfl;have s9:yI wc g 9 x.day:=hG.cell rfl;have aA:yI wc g 10 x.leaves:=hG.cell rfl;have ag:yJ wc g 11 C F cb:=hG.cell rfl;have aB:wc.cell? ⟨g,12,none⟩=some (.bool x.closed):=hG.cell rfl;by_cases h16:16<F
 ·obtain rfl:r=2:=by rw[HR.out,M3 h16]
  go_wp2_with fail;go_ret;exact⟨rfl,ay⟩
 have au:=yh (HR.trans (M2 h16));obtain⟨W0,rfl⟩:=yE wc;have HG:=yh hG;clear hG;have al:=yh ay;clear ay;go_wp2_with fail
 go_loopg [13] F (fun gk i wr=>∃k:Nat,k≤F∧F-k≤gk∧i=.int .i64 k∧Aside (Qn (Vb x) k=0)∧yw W0 wr)
 case atStart=>exact⟨0,M0 _,by omega,rfl,rfl,J4 _ _⟩
 case round=>
  clear s0 s1 s2 s3 s4 s5 s6 s7 s8 s9 aA ag aB;obtain⟨k,hk,aN,rfl,Y,I⟩:=hrel;by_cases hlt:k<F
  ·have aV:=al.trans (I.mono al.size);obtain⟨J,O,⟨id,af,ah,ae,lev,aa,ac,ad,upto,ai,aw⟩,X,n3,Z,hA,hx,hF,hI,Q⟩:=(HL.bel aV).bkg hlt;subst hA;simp only at hF;have y0:yI wr J (O+k*11) id:=Q 0 _ rfl;have y1:yI wr J (O+k*11+1) af:=Q 1 _ rfl;have y2:yI wr J (O+k*11+2) ah:=Q 2 _ rfl;have y3:yI wr J (O+k*11+3) ae:=Q 3 _ rfl;have y4:wr.cell? ⟨J,O+k*11+4,none⟩=some (.bool lev):=Q 4 _ rfl;have y5:yI wr J (O+k*11+5) aa:=Q 5 _ rfl;have y6:yI wr J (O+k*11+6) ac:=Q 6 _ rfl;have y7:yI wr J (O+k*11+7) ad:=Q 7 _ rfl;have y8:yI wr J (O+k*11+8) upto:=Q 8 _ rfl;have y9:yI wr J (O+k*11+9) ai:=Q 9 _ rfl;have aI:yJ wr J (O+k*11+10) X n3 Z:=Q 10 _ rfl;clear Q;go_upto_region 5 with(fail);go_cut [3,4] (fun i p1 wx=>∃z,i=.int .i64 k∧yp p1 z∧Blk wx z (Qk ⟨id,af,ah,ae,lev,aa,ac,ad,upto,ai,aw⟩ (.slice X n3 Z)) 63∧yw wr wx)
   case first=>as_aux_lemma=>
    go_wp2_with fail;go_meet;exact⟨_,rfl,rfl,Zk _ _,Qi _ _⟩
   obtain⟨z,rfl,rfl,hZ,an⟩:=hcut;clear y0 y1 y2 y3 y4 y5 y6 y7 y8 y9 aI;replace hF:=hF.bel an;replace I:=I.trans (an.mono I.size);replace aV:=aV.trans (an.mono aV.size);clear an;have hG:=HG.bel I;have s0:yI wc g 0 x.ship.legs:=hG.cell rfl;have s1:yI wc g 1 x.ship.souls:=hG.cell rfl;have s2:yJ wc g 2 A n cap:=hG.cell rfl;have s3:yJ wc g 3 B m ab:=hG.cell rfl;have s4:yJ wc g 4 D nd cd:=hG.cell rfl;have s5:yI wc g 5 x.fares.alone:=hG.cell rfl;have s6:yI wc g 6 x.fares.third:=hG.cell rfl;have s7:yJ wc g 7 E ne ce:=hG.cell rfl;have s8:yI wc g 8 x.fares.down:=hG.cell rfl;have s9:yI wc g 9 x.day:=hG.cell rfl;have aA:yI wc g 10 x.leaves:=hG.cell rfl;have ag:yJ wc g 11 (some ⟨J,O,none⟩) F cb:=hG.cell rfl;have aB:wc.cell? ⟨g,12,none⟩=some (.bool x.closed):=hG.cell rfl;have z0:yI wc z 0 id:=hZ.cell rfl;have z1:yI wc z 1 af:=hZ.cell rfl;have z2:yI wc z 2 ah:=hZ.cell rfl;have z3:yI wc z 3 ae:=hZ.cell rfl;have z4:wc.cell? ⟨z,4,none⟩=some (.bool lev):=hZ.cell rfl;have z5:yI wc z 5 aa:=hZ.cell rfl;have z6:yI wc z 6 ac:=hZ.cell rfl;have z7:yI wc z 7 ad:=hZ.cell rfl;have z8:yI wc z 8 upto:=hZ.cell rfl;have z9:yI wc z 9 ai:=hZ.cell rfl;have aJ:wc.cell? ⟨z,10,none⟩=some ((.slice X n3 Z)):=hZ.cell rfl;obtain⟨q,hq⟩:=yE (ofE x.ship ⟨id,af,ah,ae,lev,aa,ac,ad,upto,ai,aw⟩);have aq:=yh (HO ⟨id,af,ah,ae,lev,aa,ac,ad,upto,ai,aw⟩ X n3 Z wc (HC.bel aV) (HD.bel aV) hF);have ax:=Yi hx;rw[←hq]at aq ax;have aj:=yh ax;clear ax;have HX:=yh hx;clear hx;have HZ:=yh hZ;clear hZ;have HQ:=yh hq;clear hq;clear hF hI hG;go_wp2_with fail;refine yM aq fun w3 am=>?_;replace I:=I.trans (am.mono I.size);replace aV:=aV.trans (am.mono aV.size);have hZ:=HZ.bel am;clear am s0 s1 s2 s3 s4 s5 s6 s7 s8 s9 aA ag aB z0 z1 z2 z3 z4 z5 z6 z7 z8 z9 aJ aq HZ;by_cases hq0:q=0;rotate_left
   ·have U:fe=q:=by rw[ar.out,Z1 Y (by rw[aj.out,M3 hq0];exact hq0) hlt,aj.out,M3 hq0]
    obtain rfl:r=q:=by rw[au.out,U,M3 hq0]
    have aL:(r !=0)=true:=by simpa using hq0
    clear hq0 hZ U;go_wp2_with fail;go_ret;exact⟨rfl,aV⟩
   subst hq0;have ak:=yh (aj.trans (M2 (by simp)));have ag:yJ w3 g 11 (some ⟨J,O,none⟩) F cb:=(HG.bel I).cell rfl;have z0:yI w3 z 0 id:=hZ.cell rfl;clear hZ aj;rcases k with _|j
   ·have HZ:=yh (show Vb x 0=0 by rw[ak.out,M2 (fun h=>absurd h.1 (Nat.lt_irrefl 0))]);have V:=yh I;clear I;clear ak;go_wp2_with fail;go_quiet (fail);go_wp2_with fail;go_roundg (F-1)
    case measure=>omega
    case rel=>exact⟨1,by omega,by omega,by first|rfl|go_num,Z8 Y HZ,by first|exact V|exact below_drewN V _|exact V.drew⟩
   ·obtain⟨aK,aT,y,A4,n4,c4,aC,hy,_,_,aD⟩:=(HL.bel aV).bkg (k:=j) (by omega);simp only[Option.some.injEq,Addr.mk.injEq,and_true]at aC;obtain⟨rfl,rfl⟩:=aC;have u0:yI w3 J (O+j*11) y.id:=aD 0 _ rfl
    have aE:(x.bks.getD (j+1-1) default).id=y.id:=by rw[Nat.add_sub_cancel,J7,hy];rfl
    have ao:=yh (ak.out);rw[aE]at ao;have hw:IntKind.i64.wrap (j:Int)=j:=IntWalk.i64_in _ (by omega);have aO:(0:Int)≤(j:Int):=Int.natCast_nonneg _
    have aP:(j:Int)<(F:Int):=by omega
    have aQ:(0:Int)<(j:Int)+1:=by omega
    have aR:decide ((0:Int)<((j+1:Nat):Int))=true:=by simp
    have V:=yh I;have ap:=yh aV;clear aD hy aE ak aV I;by_cases hle:id≤y.id
    ·have HV:=yh (show Vb x (j+1)=4 by rw[ao.out,M3 ⟨Nat.succ_pos _,hle⟩])
     obtain rfl:r=4:=by
      have U:fe=4:=by rw[ar.out,Z1 Y (by rw[HV.out];decide) hlt,HV.out]
      rw[au.out,U,M3 (by decide)]
     go_wp2_with fail;go_quiet (fail);go_wp2_with fail;go_ret;exact⟨rfl,by first|exact ap|exact below_drewN ap _|exact ap.drew⟩
    ·have HV:=yh (show Vb x (j+1)=0 by rw[ao.out,M2 (fun h=>hle h.2)])
     have aS:y.id<id:=by omega
     clear hle;go_wp2_with fail;go_quiet (fail);go_wp2_with fail;go_roundg (F-(j+1+1))
     case measure=>omega
     case rel=>exact⟨j+1+1,by omega,by omega,by go_num,Z8 Y HV,by first|exact V|exact below_drewN V _|exact V.drew⟩
  ·obtain rfl:k=F:=by omega
   have aV:=al.trans (I.mono al.size);have hG:=HG.bel I;have ag:yJ wr g 11 C k cb:=hG.cell rfl;have av:=yh (show r=if x.bks.any (Vj x.closed)=true then 4 else 0 by rw[au.out,M2 (by rw[ar.out,show Qn (Vb x) k=0 from Y];simp)]);obtain⟨q,hq⟩:=yE (x.bks.any (Vj x.closed));have az:=XX C k cb x.bks 167 #[.pointer (some ⟨g,0,none⟩)] (Vj x.closed) wr (HL.bel aV) (enters_of func167 (by kernel_rfl) rfl) (fun b v w1 _ aG=>YPb b v x.closed g w1 ((hG.bel aG).cell rfl));rw[←hq]at av az;have aF:=yh az;clear az;clear hq hG Y;go_wp2_with fail;refine yM aF fun w4 aH=>?_;replace aV:=aV.trans (aH.mono aV.size);cases q
   ·obtain rfl:r=0:=av.out;go_wp2_with fail;go_ret;exact⟨rfl,aV⟩
   ·obtain rfl:r=4:=av.out;go_wp2_with fail;go_ret;exact⟨rfl,aV⟩
def Apart (v u:Value):Prop:=∀k,v.ownBlock=some k→u.ownBlock≠some k
theorem Apart.symm {v u:Value}(h:Apart v u):Apart u v:=fun k A D=>h k D A
theorem Apart.nilL (u:Value):Apart (.slice none 0 0) u:=fun k A=>by simp[Value.ownBlock]at A
theorem Apart.step {v u A:Value}{w:World}(h:Apart v u)(I:∀k,v.ownBlock=some k→k<w.heap.size)(F:A.ownBlock=u.ownBlock∨A.ownBlock=some w.heap.size):Apart v A:=fun k E=>by
 rcases F with e|e
 ·rw[e];exact h k E
 ·rw[e];intro D;injection D with D;have:=I k E;omega
theorem Own.grownF {α:Type}{c:Cod α}{size:Nat}{e:TypeId}{w w':World}{base:Nat}{v u:Value}{l:List α}{xs:List Value}(U:XM c)(h:Own c size e w base v l xs)(V:w.grownBy w' u.ownBlock)(J:Apart v u):Own c size e w' base v l xs:=by
 refine⟨⟨h.row.1,?_⟩,fun i x W=>?_⟩
 ·rcases h.row.2 with I|⟨g,cap,E,D,O,A,r⟩
  ·exact .inl I
  ·refine .inr ⟨g,cap,E,D,O,(V.block g (Array.getElem?_eq_some_iff.1 A).1 ?_).trans A,r⟩;intro F;exact J g (by rw[D];rfl) F.symm
 ·obtain⟨cs,Q,r⟩:=h.el i x W;exact⟨cs,U _ _ _ _ _ _ Q,r⟩
def Uk (x:Sai) (b:Bkg) (j:Nat):List Int:=((List.range j).filter (fun c:Nat=>Zi x.ship b (c:Int) && QN x.bks c)).map Int.ofNat
theorem Q8a (x:Sai)(b:Bkg):Uw x b=Uk x b x.ship.cabs.length:=rfl
theorem X9 (x:Sai)(b:Bkg)(j:Nat):Uk x b (j+1)=Uk x b j++(if (Zi x.ship b j && QN x.bks j)=true then [(j:Int)]else []):=by
 unfold Uk;rw[List.range_succ,List.filter_append,List.map_append]
 congr 1
 cases h:(Zi x.ship b j && QN x.bks j)<;>simp[List.filter,h]
theorem U5a (x:Sai)(b:Bkg)(j:Nat):(Uk x b j).length≤j:=by
 unfold Uk;rw[List.length_map];have:=List.length_filter_le (fun c:Nat=>Zi x.ship b (c:Int) && QN x.bks c) (List.range j)
 rwa [List.length_range]at this
def toE (i:Nat) (l:List Int):List Edg:=l.map (fun c=>⟨i,c⟩)
theorem Uob (i:Nat)(l k:List Int):toE i (l++k)=toE i l++toE i k:=List.map_append
theorem ZBa (x:Sai):∀(l:List Bkg) (b:Bkg) (i:Nat),ZD x (l++[b]) i=ZD x l i++toE (i+l.length) (Uw x b)
 | [],b,i=>by simp[ZD,toE]
 | a::l,b,i=>by
  rw[List.cons_append]
  show(Uw x a).map _++ZD x (l++[b]) (i+1)=((Uw x a).map _++ZD x l (i+1))++_
  rw[ZBa x l b (i+1),List.append_assoc,List.length_cons,show i+1+l.length=i+(l.length+1)by omega]
theorem YV (x:Sai):∀(l:List Bkg) (i:Nat),(ZD x l i).length≤l.length*x.ship.cabs.length
 | [],_=>by simp[ZD]
 | a::l,i=>by
  have D:=YV x l (i+1);have A:=U5a x a x.ship.cabs.length;rw[←Q8a]at A
  show((Uw x a).map _++ZD x l (i+1)).length≤_
  rw[J9,List.length_map,List.length_cons,Nat.add_mul];omega
def Q2 (x:Sai) (k:Nat):List Bkg:=(x.bks.take k).filter QH
theorem Vt {x:Sai}{k:Nat}{b:Bkg}(h:x.bks[k]? = some b):Q2 x (k+1)=Q2 x k++(if QH b=true then [b]else []):=by
 unfold Q2;rw[Qo h,List.filter_append]
 congr 1
 cases h:QH b<;>simp[List.filter,h]
theorem Xva (x:Sai)(k:Nat):(Q2 x k).length≤k:=by
 unfold Q2;have:=List.length_filter_le QH (x.bks.take k);rw[J8]at this;omega
theorem Ya {x:Sai}{k:Nat}(h:x.bks.length=k):Q2 x k=QI x:=by
 unfold Q2 QI;rw[M1 (by omega)]
theorem Zca {x:Sai}{b:Bkg}(h:OkBk x.ship b)(D:QH b=true):0≤b.cat∧b.cat<x.ship.cats.length:=by
 unfold QH at D;simp only[Bool.and_eq_true,decide_eq_true_iff]at D;have A:=h.kindE;unfold kindE at A;rw[M3 D.1]at A;unfold Zga at A;by_cases h2:Qc b.cat 0 ((x.ship.cats.length:Int)-1)=false
 ·rw[M3 h2]at A;omega
 ·have E:=Ql.1 (Ub h2);omega
theorem XWa (x:Sai):Uga (UC x).length x.ship.cabs.length (Zl x):=by
 have I:∀(l:List Bkg) (i:Nat),∀e∈ZD x l i,(i:Int)≤e.lft∧e.lft<(i+l.length:Nat)∧0≤e.rgt∧e.rgt<x.ship.cabs.length:=by
  intro l
  induction l with
  | nil=>intro i e A;simp[ZD]at A
  | cons a l ih=>
   intro i e A;rcases List.mem_append.1 A with A|A
   ·obtain⟨c,D,rfl⟩:=List.mem_map.1 A;unfold Uw at D;obtain⟨d,F,E⟩:=List.mem_map.1 D;subst E;replace D:=F;have:=List.mem_range.1 (List.mem_filter.1 D).1;simp only[List.length_cons,Int.ofNat_eq_natCast];omega
   ·have:=ih (i+1) e A;rw[List.length_cons];omega
 intro e A;have:=I (QI x) 0 e A;unfold UC;rw[List.length_map];simp only[Nat.zero_add]at this;exact⟨by omega,this.2.1,this.2.2.1,this.2.2.2⟩
theorem Usa (x:Sai):(UC x).length≤x.bks.length:=by
 unfold UC QI;rw[List.length_map];exact List.length_filter_le _ _
theorem Yka (x:Sai)(p:SaiV)(w:World)(h:SaiR w x p)(ho:OkShp x.ship)(hk:∀b∈x.bks,OkBk x.ship b)(a9:x.bks.length≤16) :
  Calls prog 111 #[.agg (Qa x p)] w fun e w'=>∃v1 v2 al ac,e=.returned (.tuple #[v1,v2])∧Own QO 1 3 w' w.heap.size v1 (UC x) al∧Own Xn 2 94 w' w.heap.size v2 (Zl x) ac∧yw w w':=by
 obtain⟨A,n,cap,B,m,av,D,nd,cd,E,ne,ce,C,nb,cb⟩:=p;have hl:Sl ZP 11 w All C nb cb x.bks:=h.bks;have hc:Sl UX 2 w All A n cap x.ship.cats:=h.cats;have hd:Sl Ut 4 w All B m av x.ship.cabs:=h.cabs;have bj:=yh (fun b v (k:Nat) W h1 h2 h3 h4 h5=>QRa x.ship A n cap B m av b v k W h1 h2 ho h3 h4 h5);have HN:=yh hl.len
 have bK:nb≤16:=by rw[←hl.len];exact a9
 have bx:m≤12:=by rw[←hd.len];exact ho.cabs12
 have bm:=yh hc.len;have HM:=yh hd.len;have HL:=yh hl;have HC:=yh hc;have HD:=yh hd;have HK:=yh hk;clear hk;clear h hl hc hd a9;go_enter func111,ntmps111;go_upto_region 0 with(fail);go_cut [1,2,3] (fun q _ _ wx=>∃g,yp q g∧Blk wx g (Qa x ⟨A,n,cap,B,m,av,D,nd,cd,E,ne,ce,C,nb,cb⟩) 32∧yw w wx)
 case first=>as_aux_lemma=>
  go_wp2_with fail;go_meet;exact⟨_,rfl,Zk _ _,Qi _ _⟩
 obtain⟨g,rfl,hG,bb⟩:=hcut;have ak:yJ wc g 11 C nb cb:=hG.cell rfl;obtain⟨W0,rfl⟩:=yE wc;have bD:=yh hG.lt;have HG:=yh hG;clear hG;have ai:=yh bb;clear bb;go_wp2_with fail
 go_loopg [4,5,12] nb (fun gk v1 v2 i wr=>∃(k:Nat) (al ac:List Value),k≤nb∧nb-k≤gk∧i=.int .i64 k∧Own QO 1 3 wr W0.heap.size v1 ((Q2 x k).map (·.id)) al∧Own Xn 2 94 wr W0.heap.size v2 (ZD x (Q2 x k) 0) ac∧Apart v1 v2∧yw W0 wr)
 case atStart=>exact⟨0,[],[],M0 _,by omega,rfl,Own.nil _ _ _ _ _,Own.nil _ _ _ _ _,Apart.nilL _,J4 _ _⟩
 case round=>
  clear ak;obtain⟨k,al,ac,hk,bH,rfl,I,F,aj,hb⟩:=hrel;obtain⟨A1,n1,c1,rfl,a0⟩:=I.sl Qd;obtain⟨A2,n2,c2,rfl,bf⟩:=F.sl QJ;by_cases hlt:k<nb
  ·have aY:n1=(Q2 x k).length:=by have:=a0.len;rw[List.length_map]at this;exact this.symm
   have bR:=ai.trans (hb.mono ai.size);obtain⟨ab,aa,⟨id,V,bQ,U,lev,J,O,Q,upto,X,Z⟩,A3,n3,c3,hA,hx,hF,hI,ad⟩:=(HL.bel bR).bkg hlt;subst hA;simp only at hF;have y0:yI wr ab (aa+k*11) id:=ad 0 _ rfl;have y1:yI wr ab (aa+k*11+1) V:=ad 1 _ rfl;have y2:yI wr ab (aa+k*11+2) bQ:=ad 2 _ rfl;have y3:yI wr ab (aa+k*11+3) U:=ad 3 _ rfl;have y4:wr.cell? ⟨ab,aa+k*11+4,none⟩=some (.bool lev):=ad 4 _ rfl;have y5:yI wr ab (aa+k*11+5) J:=ad 5 _ rfl;have y6:yI wr ab (aa+k*11+6) O:=ad 6 _ rfl;have y7:yI wr ab (aa+k*11+7) Q:=ad 7 _ rfl;have y8:yI wr ab (aa+k*11+8) upto:=ad 8 _ rfl;have y9:yI wr ab (aa+k*11+9) X:=ad 9 _ rfl;have bC:yJ wr ab (aa+k*11+10) A3 n3 c3:=ad 10 _ rfl;clear ad;go_upto_region 5 with(fail);go_cut [7] (fun p1 wx=>∃z,yp p1 z∧wr.heap.size≤z∧Blk wx z (Qk ⟨id,V,bQ,U,lev,J,O,Q,upto,X,Z⟩ (.slice A3 n3 c3)) 63∧yw wr wx)
   case first=>as_aux_lemma=>
    go_wp2_with fail;go_meet;exact⟨_,rfl,J5 _,Zk _ _,Qi _ _⟩
   obtain⟨z,rfl,bN,hZ,aH⟩:=hcut;clear y0 y1 y2 y3 y4 y5 y6 y7 y8 y9 bC a0 bf hF;have bc:=I.lt;have bd:=F.lt
   have bh:(Value.slice A1 n1 c1).ownBlock≠some z:=fun e=>by have:=(bc z e).2;omega
   have bi:(Value.slice A2 n2 c2).ownBlock≠some z:=fun e=>by have:=(bd z e).2;omega
   replace I:=I.bel aH;replace F:=F.bel aH;replace hb:=hb.trans (aH.mono hb.size);have aI:=Vt hx;have bz:=Xva x k;have bn:=yh (HK _ (J6 hx));obtain⟨q,hq⟩:=yE (QH ⟨id,V,bQ,U,lev,J,O,Q,upto,X,Z⟩);have ar:=yh (fun W=>XUb ⟨id,V,bQ,U,lev,J,O,Q,upto,X,Z⟩ (.slice A3 n3 c3) W);rw[←hq]at ar aI;obtain⟨Y,ba⟩:=yE (Q2 x k);rw[←ba]at I F aY bz aI;have a5:=yh aI;clear aI;have HQ:=yh hq;clear hq;have bl:=yh aY;clear aY;have aW:=hI.id;simp only at aW;have bv:=yh aW;have z0:yI wc z 0 id:=hZ.cell rfl;have z1:yI wc z 1 V:=hZ.cell rfl;have z2:yI wc z 2 bQ:=hZ.cell rfl;have z3:yI wc z 3 U:=hZ.cell rfl;have z4:wc.cell? ⟨z,4,none⟩=some (.bool lev):=hZ.cell rfl;have z5:yI wc z 5 J:=hZ.cell rfl;have z6:yI wc z 6 O:=hZ.cell rfl;have z7:yI wc z 7 Q:=hZ.cell rfl;have z8:yI wc z 8 upto:=hZ.cell rfl;have z9:yI wc z 9 X:=hZ.cell rfl;have ay:wc.cell? ⟨z,10,none⟩=some ((.slice A3 n3 c3)):=hZ.cell rfl;have ae:=yh I;clear I;have af:=yh F;clear F;have am:=yh aj;clear aj;have bF:=yh bh;clear bh;have bs:=yh bi;clear bi;clear hx hI aH ba bc bd aW bR;go_wp2_with fail;refine yM (ar _) fun w3 aC=>?_;replace hb:=hb.trans (aC.mono hb.size);have hZ:=hZ.bel aC;have I:=ae.bel aC;have F:=af.bel aC;have bO:=hZ.lt;clear aC z0 z1 z2 z3 z4 z5 z6 z7 z8 z9 ay ar ae af;cases q
   ·have HV:=yh (a5.trans (by simp:_=Y));have ae:=yh I;clear I;have af:=yh F;clear F;clear hZ;go_wp2_with fail;go_roundg (nb-(k+1))
    case measure=>omega
    case rel=>exact⟨k+1,al,ac,by omega,by omega,by go_num,by rw[HV.out];exact ae,by rw[HV.out];exact af,am,hb⟩
   ·have HV:=yh (a5.trans (by simp:_=Y++[⟨id,V,bQ,U,lev,J,O,Q,upto,X,Z⟩]));have a4:=yh (Zca bn HQ.symm);have hG:=HG.bel hb;have s3:yJ w3 g 3 B m av:=hG.cell rfl;obtain⟨ln,aX⟩:∃ln:Nat,ln=n1:=⟨_,rfl⟩;have a7:=yh (aX.trans bl);have bk:=yh aX;have ae:=yh I;clear I;have af:=yh F;clear F;have HZ:=yh hZ;clear hZ;have HB:=yh hb;clear hb;clear hG aX;go_wp2_with fail
    go_loopg [5,23] m (fun bt v2 i aL=>∃(j:Nat) (ac:List Value),j≤m∧m-j≤bt∧i=.int .i64 j∧Own QO 1 3 aL W0.heap.size (.slice A1 n1 c1) (Y.map (·.id)) al∧Own Xn 2 94 aL W0.heap.size v2 (ZD x Y 0++toE Y.length (Uk x ⟨id,V,bQ,U,lev,J,O,Q,upto,X,Z⟩ j)) ac∧Apart (.slice A1 n1 c1) v2∧v2.ownBlock≠some z∧Blk aL z (Qk ⟨id,V,bQ,U,lev,J,O,Q,upto,X,Z⟩ (.slice A3 n3 c3)) 63∧yw W0 aL)
    case atStart=>exact⟨0,_,M0 _,by omega,rfl,ae,by show Own _ _ _ _ _ _ (_++[]) _;rw[List.append_nil];exact af,am,bs,HZ,HB⟩
    case round=>
     clear s3;obtain⟨j,ac,hj,bG,rfl,I,F,aj,aZ,hZ,hb⟩:=hrel;obtain⟨A4,n4,c4,rfl,a1⟩:=F.sl QJ
     have bJ:n4≤1000:=by
      have h1:=a1.len;have h2:=YV x Y 0;have h3:=U5a x ⟨id,V,bQ,U,lev,J,O,Q,upto,X,Z⟩ j;have h4:Y.length*x.ship.cabs.length≤16*12:=Nat.mul_le_mul (by omega) (by rw[HM.out];exact bx);rw[J9]at h1;unfold toE at h1;rw[List.length_map]at h1;omega
     by_cases hlj:j<m
     ·have bR:=ai.trans (hb.mono ai.size);have hG:=HG.bel hb;have s0:yI wr g 0 x.ship.legs:=hG.cell rfl;have s1:yI wr g 1 x.ship.souls:=hG.cell rfl;have s2:yJ wr g 2 A n cap:=hG.cell rfl;have s3:yJ wr g 3 B m av:=hG.cell rfl;have s4:yJ wr g 4 D nd cd:=hG.cell rfl;have s5:yI wr g 5 x.fares.alone:=hG.cell rfl;have s6:yI wr g 6 x.fares.third:=hG.cell rfl;have s7:yJ wr g 7 E ne ce:=hG.cell rfl;have s8:yI wr g 8 x.fares.down:=hG.cell rfl;have s9:yI wr g 9 x.day:=hG.cell rfl;have aJ:yI wr g 10 x.leaves:=hG.cell rfl;have ak:yJ wr g 11 (some ⟨ab,aa,none⟩) nb cb:=hG.cell rfl;have aK:wr.cell? ⟨g,12,none⟩=some (.bool x.closed):=hG.cell rfl;have z0:yI wr z 0 id:=hZ.cell rfl;have z1:yI wr z 1 V:=hZ.cell rfl;have z2:yI wr z 2 bQ:=hZ.cell rfl;have z3:yI wr z 3 U:=hZ.cell rfl;have z4:wr.cell? ⟨z,4,none⟩=some (.bool lev):=hZ.cell rfl;have z5:yI wr z 5 J:=hZ.cell rfl;have z6:yI wr z 6 O:=hZ.cell rfl;have z7:yI wr z 7 Q:=hZ.cell rfl;have z8:yI wr z 8 upto:=hZ.cell rfl;have z9:yI wr z 9 X:=hZ.cell rfl;have ay:wr.cell? ⟨z,10,none⟩=some ((.slice A3 n3 c3)):=hZ.cell rfl;have bM:=hZ.lt;go_upto_region 9 with(fail);go_cut [8] (fun p1 wx=>∃y,yp p1 y∧wr.heap.size≤y∧Blk wx y #[.int .i64 (j:Int)] 3∧yw wr wx)
      case first=>as_aux_lemma=>
       clear s0 s1 s2 s3 s4 s5 s6 s7 s8 s9 aJ ak aK z0 z1 z2 z3 z4 z5 z6 z7 z8 z9 ay;go_wp2_with fail;go_meet;exact⟨_,rfl,J5 _,Zk _ _,Qi _ _⟩
      obtain⟨y,rfl,bL,hY,ao⟩:=hcut;have be:=F.lt
      have bg:(Value.slice A4 n4 c4).ownBlock≠some y:=fun e=>by have:=(be y e).2;omega
      replace I:=I.bel ao;replace F:=F.bel ao;replace hb:=hb.trans (ao.mono hb.size);replace bR:=bR.trans (ao.mono bR.size);replace hG:=hG.bel ao;replace hZ:=hZ.bel ao;clear ao s0 s1 s2 s3 s4 s5 s6 s7 s8 s9 aJ ak aK z0 z1 z2 z3 z4 z5 z6 z7 z8 z9 ay a1 be;have s0:yI wc g 0 x.ship.legs:=hG.cell rfl;have s1:yI wc g 1 x.ship.souls:=hG.cell rfl;have s2:yJ wc g 2 A n cap:=hG.cell rfl;have s3:yJ wc g 3 B m av:=hG.cell rfl;have s4:yJ wc g 4 D nd cd:=hG.cell rfl;have s5:yI wc g 5 x.fares.alone:=hG.cell rfl;have s6:yI wc g 6 x.fares.third:=hG.cell rfl;have s7:yJ wc g 7 E ne ce:=hG.cell rfl;have s8:yI wc g 8 x.fares.down:=hG.cell rfl;have s9:yI wc g 9 x.day:=hG.cell rfl;have aJ:yI wc g 10 x.leaves:=hG.cell rfl;have ak:yJ wc g 11 (some ⟨ab,aa,none⟩) nb cb:=hG.cell rfl;have aK:wc.cell? ⟨g,12,none⟩=some (.bool x.closed):=hG.cell rfl;have z0:yI wc z 0 id:=hZ.cell rfl;have z1:yI wc z 1 V:=hZ.cell rfl;have z2:yI wc z 2 bQ:=hZ.cell rfl;have z3:yI wc z 3 U:=hZ.cell rfl;have z4:wc.cell? ⟨z,4,none⟩=some (.bool lev):=hZ.cell rfl;have z5:yI wc z 5 J:=hZ.cell rfl;have z6:yI wc z 6 O:=hZ.cell rfl;have z7:yI wc z 7 Q:=hZ.cell rfl;have z8:yI wc z 8 upto:=hZ.cell rfl;have z9:yI wc z 9 X:=hZ.cell rfl;have ay:wc.cell? ⟨z,10,none⟩=some ((.slice A3 n3 c3)):=hZ.cell rfl;have u0:yI wc y 0 (j:Int):=hY.cell rfl;have aE:=X9 x ⟨id,V,bQ,U,lev,J,O,Q,upto,X,Z⟩ j;have aV:=bj ⟨id,V,bQ,U,lev,J,O,Q,upto,X,Z⟩ (.slice A3 n3 c3) j wc (HC.bel bR) (HD.bel bR) hlj a4.1 (by have:=a4.2;rwa [bm.out]at this);obtain⟨f,hf⟩:=yE (Zi x.ship ⟨id,V,bQ,U,lev,J,O,Q,upto,X,Z⟩ (j:Int));rw[←hf]at aV aE;obtain⟨a,ha⟩:=yE (x.bks.any (UZ (j:Int)))
      replace aE:Uk x ⟨id,V,bQ,U,lev,J,O,Q,upto,X,Z⟩ (j+1)=Uk x ⟨id,V,bQ,U,lev,J,O,Q,upto,X,Z⟩ j++(if (f && !a)=true then [(j:Int)]else []):=by rw[aE,ha];rfl
      have ax:=fun W (hW:yw wc W)=>XX (some ⟨ab,aa,none⟩) nb cb x.bks 192 #[.pointer (some ⟨y,0,none⟩)] (UZ (j:Int)) W (HL.bel (bR.trans (hW.mono bR.size))) (enters_of func192 (by kernel_rfl) rfl) (fun b v w1 _ bu=>Xpb b v (j:Int) y w1 (((hY.bel hW).bel bu).cell rfl));rw[←ha]at ax;have aP:=yh aE;clear aE;have ar:=yh aV;clear aV;have a2:=yh ax;clear ax;have ae:=yh I;clear I;have af:=yh F;clear F;have am:=yh aj;clear aj;have aF:=yh aZ;clear aZ;have bE:=yh bg;clear bg;clear hf ha;go_wp2_with fail;refine yM ar fun w5 ah=>?_;have ax:=a2 _ ah;replace hb:=hb.trans (ah.mono hb.size);replace bR:=bR.trans (ah.mono bR.size);replace hG:=hG.bel ah;replace hZ:=hZ.bel ah;replace hY:=hY.bel ah;have I:=ae.bel ah;have F:=af.bel ah;have az:=yh I;clear I;have aA:=yh F;clear F;have a3:=yh ax;clear ax;clear ah s0 s1 s2 s3 s4 s5 s6 s7 s8 s9 aJ ak aK z0 z1 z2 z3 z4 z5 z6 z7 z8 z9 ay u0 ar ae af a2;have ak:yJ w5 g 11 (some ⟨ab,aa,none⟩) nb cb:=hG.cell rfl;cases f
      ·have aB:=yh (show Uk x ⟨id,V,bQ,U,lev,J,O,Q,upto,X,Z⟩ (j+1)=Uk x ⟨id,V,bQ,U,lev,J,O,Q,upto,X,Z⟩ j by rw[aP.out];simp);have a6:=yh hG;clear hG;have au:=yh hZ;clear hZ;clear hY;go_wp2_with fail;go_roundg (m-(j+1))
       case measure=>omega
       case rel=>exact⟨j+1,ac,by omega,by omega,by go_num,az,by rw[aB.out];exact aA,am,aF,au,hb⟩
      ·skip;have a6:=yh hG;clear hG;have au:=yh hZ;clear hZ;have a8:=yh hY;clear hY;go_wp2_with fail;refine yM a3 fun w6 aw=>?_;replace hb:=hb.trans (aw.mono hb.size);have hZ:=au.bel aw;have hY:=a8.bel aw;have I:=az.bel aw;have F:=aA.bel aw;clear aw ak a3 az aA a6 au a8;have u0:yI w6 y 0 (j:Int):=hY.cell rfl;cases a;rotate_left
       ·have aB:=yh (show Uk x ⟨id,V,bQ,U,lev,J,O,Q,upto,X,Z⟩ (j+1)=Uk x ⟨id,V,bQ,U,lev,J,O,Q,upto,X,Z⟩ j by rw[aP.out];simp);have az:=yh I;clear I;have aA:=yh F;clear F;have au:=yh hZ;clear hZ;clear hY;go_wp2_with fail;go_roundg (m-(j+1))
        case measure=>omega
        case rel=>exact⟨j+1,ac,by omega,by omega,by go_num,az,by rw[aB.out];exact aA,am,aF,au,hb⟩
       ·have aB:=yh (show ZD x Y 0++toE Y.length (Uk x ⟨id,V,bQ,U,lev,J,O,Q,upto,X,Z⟩ (j+1))=(ZD x Y 0++toE Y.length (Uk x ⟨id,V,bQ,U,lev,J,O,Q,upto,X,Z⟩ j))++[⟨(ln:Int),(j:Int)⟩]by
         rw[aP.out,M3 (by rfl),Uob,←List.append_assoc,a7.out];rfl)
        have bw:ln=n1:=bk.out
        have bI:ln≤16:=by have:=a7.out;omega
        subst bw;have aQ:=I.bel (Qi w6 (.cells #[.int .i64 (ln:Int),.int .i64 (j:Int)] 94));have an:=F.bel (Qi w6 (.cells #[.int .i64 (ln:Int),.int .i64 (j:Int)] 94));have aS:=hZ.bel (Qi w6 (.cells #[.int .i64 (ln:Int),.int .i64 (j:Int)] 94));have bB:=hb.size
        have aD:W0.heap.size≤(w6.alloc (.cells #[.int .i64 (ln:Int),.int .i64 (j:Int)] 94)).heap.size:=by simp;omega
        have aU:((ZD x Y 0++toE Y.length (Uk x ⟨id,V,bQ,U,lev,J,O,Q,upto,X,Z⟩ j)).length+1)*16≤140737488355328:=by
         obtain⟨_,_,_,he,bA⟩:=F.sl QJ;simp only[Value.slice.injEq]at he;have:=bA.len;omega
        have aM:=yh (hb.alloc hb.size (.cells #[.int .i64 (ln:Int),.int .i64 (j:Int)] 94))
        have aO:=yh (fun(v':Value) (w':World) (aq:List Value) (ap:Own Xn 2 94 w' W0.heap.size v' ((ZD x Y 0++toE Y.length (Uk x ⟨id,V,bQ,U,lev,J,O,Q,upto,X,Z⟩ j))++[⟨(ln:Int),(j:Int)⟩]) aq) (ag:(w6.alloc (.cells #[.int .i64 (ln:Int),.int .i64 (j:Int)] 94)).grownBy w' (Value.slice A4 n4 c4).ownBlock) (aG:v'.ownBlock=(Value.slice A4 n4 c4).ownBlock∨v'.ownBlock=some (w6.alloc (.cells #[.int .i64 (ln:Int),.int .i64 (j:Int)] 94)).heap.size)=>
         (⟨Own.grownF ZB aQ ag am,Apart.step am (fun k hk=>(aQ.lt k hk).2) aG,(show v'.ownBlock≠some z from by
          rcases aG with e|e
          ·rw[e];exact aF
          ·rw[e];intro h2;injection h2 with h2;have:=aS.lt;omega),Blk.grown aS ag (fun e=>aF e.symm),QA aM an ag aD⟩:Own QO 1 3 w' W0.heap.size (.slice A1 ln c1) (Y.map (·.id)) al∧Apart (.slice A1 ln c1) v'∧v'.ownBlock≠some z∧Blk w' z (Qk ⟨id,V,bQ,U,lev,J,O,Q,upto,X,Z⟩ (.slice A3 n3 c3)) 63∧yw W0 w'))
        have bo:=yh (Ztb w6 All (ln:Int) (j:Int) 94 (.of (by omega) (by omega)) (.of (by omega) (by omega)) trivial);have aN:=yh an;clear I F hZ hY aQ an aS hb;go_wp2_with (at_builtin;refine QC (t:=74) (e:=94) (bytes:=16) rfl (.tmp 38) (.tmp 43) rfl UUa QJ rfl aN rfl bo (fun _ _ hc=>hc) aU (by omega) aD ?_;intro v' w' aq ap ag aT);obtain⟨p1,p2,p3,p4,p5⟩:=aO _ _ _ ap ag aT;go_roundg (m-(j+1))
        case measure=>omega
        case rel=>exact⟨j+1,aq,by omega,by omega,by go_num,p1,by rw[aB.out];exact ap,p2,p3,p4,p5⟩
     ·obtain rfl:j=m:=by omega
      have bq:=yh (show ZD x (Q2 x (k+1)) 0=ZD x Y 0++toE Y.length (Uk x ⟨id,V,bQ,U,lev,J,O,Q,upto,X,Z⟩ j)by rw[HV.out,ZBa,Nat.zero_add,Q8a,HM.out]);have br:=yh (show(Q2 x (k+1)).map (·.id)=Y.map (·.id)++[id]by rw[HV.out,List.map_append];rfl);have z0:yI wr z 0 id:=hZ.cell rfl;have an:=I.bel (Qi wr (.cells #[.int .i64 id] 3));have aR:=F.bel (Qi wr (.cells #[.int .i64 id] 3));have bB:=hb.size
      have aD:W0.heap.size≤(wr.alloc (.cells #[.int .i64 id] 3)).heap.size:=by simp;omega
      have aU:((Y.map (·.id)).length+1)*8≤140737488355328:=by rw[List.length_map];omega
      have aM:=yh (hb.alloc hb.size (.cells #[.int .i64 id] 3))
      have aO:=yh (fun(v':Value) (w':World) (aq:List Value) (ap:Own QO 1 3 w' W0.heap.size v' (Y.map (·.id)++[id]) aq) (ag:(wr.alloc (.cells #[.int .i64 id] 3)).grownBy w' (Value.slice A1 n1 c1).ownBlock) (aG:v'.ownBlock=(Value.slice A1 n1 c1).ownBlock∨v'.ownBlock=some (wr.alloc (.cells #[.int .i64 id] 3)).heap.size)=>
       (⟨Own.grownF Y9 aR ag aj.symm,(Apart.step aj.symm (fun k hk=>(aR.lt k hk).2) aG).symm,QA aM an ag aD⟩:Own Xn 2 94 w' W0.heap.size (.slice A4 n4 c4) (ZD x Y 0++toE Y.length (Uk x ⟨id,V,bQ,U,lev,J,O,Q,upto,X,Z⟩ j)) ac∧Apart v' (.slice A4 n4 c4)∧yw W0 w'))
      have bp:=yh (QLa wr All id 3 bv.out trivial);have aN:=yh an;clear I F hZ an aR hb a1 aj aZ;go_wp2_with (at_builtin;refine QC (t:=70) (e:=3) (bytes:=8) rfl (.tmp 46) (.tmp 49) rfl Uv Qd rfl aN rfl bp (fun _ _ hc=>hc) aU (by omega) aD ?_;intro v' w' aq ap ag aT);obtain⟨p1,p2,p3⟩:=aO _ _ _ ap ag aT;go_roundg (nb-(k+1))
      case measure=>omega
      case rel=>exact⟨k+1,aq,ac,by omega,by omega,by go_num,by rw[br.out];exact ap,by rw[bq.out];exact p1,p2,p3⟩
  ·obtain rfl:k=nb:=by omega
   rw[Ya HN.out]at I F;have ae:=yh (I.mono Qd ai.size);have af:=yh (F.mono QJ ai.size);clear I F a0 bf;go_wp2_with fail;go_ret2;exact⟨_,_,al,ac,rfl,ae,af,ai.trans (hb.mono ai.size)⟩
theorem QFb {x:Sai}(Q:OkShp x.ship)(h:Xy x=0):OkBs x:=by
 unfold Xy at h;by_cases h1:16<x.bks.length
 ·rw[M3 h1]at h;omega
 rw[M2 h1]at h;by_cases E:Qn (Vb x) x.bks.length≠0
 ·rw[M3 E]at h;exact absurd h E
 rw[M2 E]at h;have E:Qn (Vb x) x.bks.length=0:=Decidable.not_not.1 E
 have J:∀i b,x.bks[i]? = some b→ofE x.ship b=0∧¬(0<i∧b.id≤(x.bks.getD (i-1) default).id):=fun i b D=>by
  have A:=U4 E i (J0.1 D).1;rw[Yi D]at A;by_cases F:ofE x.ship b≠0
  ·rw[M3 F]at A;exact absurd A F
  ·rw[M2 F]at A;refine⟨Decidable.not_not.1 F,fun O=>?_⟩;rw[M3 O]at A;omega
 refine⟨Q,fun b D=>?_,by omega,fun i I=>?_,?_⟩
 ·obtain⟨i,I⟩:=List.getElem?_of_mem D;exact ZZa (J i b I).1
 ·have D:x.bks[i+1]? = some x.bks[i+1]:=J1 I;have A:=(J (i+1) _ D).2;rw[Nat.add_sub_cancel]at A
  have F:x.bks.getD (i+1) default=x.bks[i+1]:=by rw[J7,D];rfl
  rw[F];omega
 ·cases hq:x.bks.any (Vj x.closed)with
  | false=>rfl
  | true=>rw[M3 hq]at h;omega
theorem UNa {left right:Nat}{l:List Edg}{E:List Int}{no:List Nat}{D:Nat→Prop}(h:Asked (U1 l) right (fun x=>x<left) E no D)(A:Uga left right l):UB left l=decide (no.length=0):=by
 by_cases h0:no.length=0
 ·rw[J2 h0];have:=h.best (Zaa A);exact Y6 ⟨_,h.isM,by omega⟩
 ·rw[J3 h0]
  cases hq:UB left l with
  | false=>rfl
  | true=>
   obtain⟨M,I,F⟩:=QTa.1 hq;have:=h.most (Zaa A) I;omega
theorem ZHb (left right:Nat)(A:Option Addr)(n cap:Nat)(l:List Edg)(w:World)(h:Sl Xn 2 w All A n cap l)(X:left≤16)(Z:right≤16)(E:Uga left right l)(Y:n≤1000) :
  Calls prog 168 #[.int .i64 (left:Int),.int .i64 (right:Int),.slice A n cap] w fun e w'=>e=.returned (.bool (UB left l))∧yw w w':=by
 have W:=yh (Vtb left right A n cap l w h X Z E Y);have V:=yh E;clear h E;go_enter func168,ntmps168;go_wp2_with fail;refine W.mono ?_;rintro e w1 ⟨P,G,N,O,v,ab,no,D,xs,rfl,_,J,I,_,_,_,hb⟩;obtain⟨A1,n1,c1,rfl,U⟩:=J.sl Qd
 have Q:n1=no.length:=by have:=U.len;rw[List.length_map]at this;exact this.symm
 have F:=yh (show UB left l=decide (n1=0)by rw[UNa I V.out,Q]);clear J I U Q;by_cases h0:n1=0
 ·have ad:=yh (F.trans (J2 h0));subst h0;go_wp2_with fail;go_ret;exact⟨Ux ad.symm,hb⟩
 ·have ad:=yh (F.trans (J3 h0))
  have aa:((n1:Int)==0)=false:=by rw[beq_eq_false_iff_ne];omega
  clear h0;go_wp2_with fail;go_ret;exact⟨Ux ad.symm,hb⟩
theorem V9a {p:Nat→Bool}{n i:Nat}(A:i<n)(D:p i=true):(List.range n).any p=true:=List.any_eq_true.2 ⟨i,List.mem_range.2 A,D⟩
theorem QUa {p:Nat→Bool}{n:Nat}(h:∀i,i<n→p i=false):(List.range n).any p=false:=List.any_eq_false.2 fun i A=>by rw[h i (List.mem_range.1 A)];simp
theorem UKa (x:Sai)(p:SaiV)(w:World)(h:SaiR w x p)(ho:OkShp x.ship)(hk:∀b∈x.bks,OkBk x.ship b)(ab:x.bks.length≤16) :
  Calls prog 81 #[.agg (Qa x p)] w fun e w'=>e=.returned (.int .i64 (QX x))∧yw w w':=by
 have aQ:=yh (fun W h=>Yka x p W h ho hk ab);have HS:=yh h;obtain⟨A,n,cap,B,m,V,D,nd,cd,E,ne,ce,C,F,I⟩:=p;have hl:Sl ZP 11 w All C F I x.bks:=h.bks;have hd:Sl Ut 4 w All B m V x.ship.cabs:=h.cabs
 have a2:F≤16:=by rw[←hl.len];exact ab
 have aV:m≤12:=by rw[←hd.len];exact ho.cabs12
 have aS:=yh (fun(c:Int) W hW=>Uzb C F I x.bks c W hW (Zna ho hk) (by omega));obtain⟨r,hr⟩:=yE (QX x);rw[←hr];have HR:=yh (show r=if (List.range m).any (fun c=>!ZZ x.bks (c:Int))=true then 6 else if x.ship.souls<mx (QU x.bks x.ship.legs.toNat)then 8 else if UB (UC x).length (Zl x)=true then 0 else 9 by rw[hr,←hd.len];rfl);have HN:=yh hl.len;have HM:=yh hd.len;have HL:=yh hl;have ax:=yh ho;have HK:=yh hk;clear hk;have ar:=yh ab;clear ab;clear h hl hd hr ho;go_enter func81,ntmps81;go_upto_region 0 with(fail);go_cut [1,2] (fun q _ wx=>∃g,yp q g∧Blk wx g (Qa x ⟨A,n,cap,B,m,V,D,nd,cd,E,ne,ce,C,F,I⟩) 32∧yw w wx)
 case first=>as_aux_lemma=>
  go_wp2_with fail;go_meet;exact⟨_,rfl,Zk _ _,Qi _ _⟩
 obtain⟨g,rfl,hG,aI⟩:=hcut;have s3:yJ wc g 3 B m V:=hG.cell rfl;obtain⟨W0,rfl⟩:=yE wc;have HG:=yh hG;clear hG;have aq:=yh aI;clear aI;go_wp2_with fail
 go_loopg [12] m (fun gk i wr=>∃k:Nat,k≤m∧m-k≤gk∧i=.int .i64 k∧Aside (∀j,j<k→ZZ x.bks (j:Int)=true)∧yw W0 wr)
 case atStart=>exact⟨0,M0 _,by omega,rfl,fun j hj=>absurd hj (Nat.not_lt_zero _),J4 _ _⟩
 case round=>
  clear s3;obtain⟨k,hk,a1,rfl,HE,hb⟩:=hrel;have hG:=HG.bel hb;have a6:=aq.trans (hb.mono aq.size);by_cases am:k<m
  ·have ap:yJ wr g 11 C F I:=hG.cell rfl;have ak:=aS (k:Int) wr (HL.bel a6);obtain⟨q,O⟩:=yE (ZZ x.bks (k:Int));rw[←O]at ak;have af:=yh ak;clear ak;have HQ:=yh O;clear O;clear hG;go_wp2_with fail;refine af.mono ?_;rintro e w2 ⟨v,xs,rfl,hO,ai⟩;obtain⟨A1,Z,c1,rfl,_⟩:=hO.sl Qz;replace hb:=hb.trans (ai.mono hb.size);replace a6:=a6.trans (ai.mono a6.size);clear hO ai ap;cases q
   ·obtain rfl:r=6:=by rw[HR.out,M3 (V9a am (by show(!ZZ x.bks (k:Int))=true;rw[←HQ.out];rfl))]
    go_wp2_with fail;go_ret;exact⟨rfl,a6⟩
   ·skip;go_wp2_with fail;go_roundg (m-(k+1))
    case measure=>omega
    case rel=>exact⟨k+1,by omega,by omega,by go_num,fun j hj=>by
     by_cases e:j=k
     ·subst e;exact HQ.symm
     ·exact HE j (by omega),hb⟩
  ·obtain rfl:k=m:=by omega
   have ay:=yh (HR.trans (M2 (by
    rw[QUa (fun i Q=>by show(!ZZ x.bks (i:Int))=false;rw[HE i Q];rfl)];simp)))
   have aU:=Zla ax;obtain⟨N,aE⟩:∃N:Nat,x.ship.legs=N:=⟨x.ship.legs.toNat,by omega⟩
   have ag:x.ship.legs.toNat=N:=by omega
   have ae:=yh (fun W hW=>Qqb N C F I x.bks W hW (by rw[←ag];exact ZKb ax HK) (by omega) (by omega));obtain⟨sl,Y⟩:=yE (QU x.bks N);rw[←Y,←aE]at ae;have aC:=yh (show sl.length=N by rw[Y];exact UH _ _)
   have aB:=yh (show ∀y∈sl,0≤y∧y≤4*F from fun y U=>by
    rw[Y]at U;obtain⟨i,Q⟩:=List.getElem?_of_mem U
    have am:i<N:=by have:=(J0.1 Q).1;rwa [UH]at this
    rw[Ye _ _ _ am]at Q;injection Q with Q;have:=Zma (l:=x.bks) (fun b hb=>(HK b hb).gst) i;have:=HN.out
    omega)
   have aw:=yh (show 0<N∧N≤7 from by omega);obtain⟨M,hM⟩:=yE (mx sl);have az:=yh (show r=if x.ship.souls<M then 8 else if UB (UC x).length (Zl x)=true then 0 else 9 by rw[ay.out,ag,←Y,←hM]);have aP:=yh hM;clear hM;have aa:=yh (show ∀X,yw wr X→(fun w'=>yI w' g 0 x.ship.legs∧yI w' g 1 x.ship.souls∧yJ w' g 11 C F I) X from fun X hX=>⟨(hG.bel hX).cell rfl,(hG.bel hX).cell rfl,(hG.bel hX).cell rfl⟩);have au:=yh (HL.bel a6);clear aU aE ag Y HE ay HR;go_upto_region 8 with(fail);go_cut [35] (fun t wx=>t=.bool (decide (x.ship.souls<M))∧yw wr wx)
   case first=>as_aux_lemma=>
    have J:yw wr wr.drew:=(J4 _ wr).drew;clear hG hb a6;refine yZ (S:=(fun w'=>yI w' g 0 x.ship.legs∧yI w' g 1 x.ship.souls∧yJ w' g 11 C F I)) (aa _ J) fun aD=>?_;refine yT [0,1,2,3,4,7,8,9] ?_;iterate 8 (refine yS ?_;simp only[yU])
    refine yR 5 fun K hK=>?_;go_simp
    (go_at_call 120;refine(ae _ (au.bel J)).mono ?_;rintro e w3 ⟨G,rfl,a0,hR,aH⟩;have an:=hR.own (base:=0) (by omega) (fun y U=>by have:=aB y U;exact .of (by omega) (by omega)) (by have:=aC.out;have:=aw.2;omega);rw[aC.out]at an;obtain⟨A4,n4,c4,aM,aL⟩:=an.sl Qd;simp only[Value.slice.injEq]at aM;obtain⟨rfl,rfl,rfl⟩:=aM;have av:=yh (YHb _ _ _ sl w3 (aL.all Qd (by omega)) aw.1 (fun y U=>(aB y U).1));rw[←aP.out]at av;replace J:=J.trans (aH.mono J.size);clear aH an aL hR)
    go_wp2_with fail;refine hK.out _ _ (aa _ J) fun aD=>?_;clear hK K
    try simp only[yU]
    refine yR 6 fun K hK=>?_;go_simp
    (go_at_call 121;refine yN av ?_)
    go_wp2_with fail;refine hK.out _ _ (aa _ J) fun aD=>?_;clear hK K
    try simp only[yU]
    refine yT [10] ?_;iterate 1 (refine yS ?_;simp only[yU])
    refine yD ?_;go_wp2_with fail;go_meet;exact⟨rfl,J⟩
   obtain⟨rfl,ac⟩:=hcut;replace hG:=hG.bel ac;replace hb:=hb.trans (ac.mono hb.size);replace a6:=a6.trans (ac.mono a6.size);clear ac aa au ae;by_cases h8:x.ship.souls<M
   ·obtain rfl:r=8:=by rw[az.out,M3 h8]
    clear hG;go_wp2_with fail;go_ret;exact⟨rfl,a6⟩
   have aR:=yh (az.trans (M2 h8))
   have aZ:M≤x.ship.souls:=by omega
   have af:=yh (aQ _ (HS.bel a6));have s0:yI wc g 0 x.ship.legs:=hG.cell rfl;have s1:yI wc g 1 x.ship.souls:=hG.cell rfl;have s2:yJ wc g 2 A n cap:=hG.cell rfl;have s3:yJ wc g 3 B k V:=hG.cell rfl;have s4:yJ wc g 4 D nd cd:=hG.cell rfl;have s5:yI wc g 5 x.fares.alone:=hG.cell rfl;have s6:yI wc g 6 x.fares.third:=hG.cell rfl;have s7:yJ wc g 7 E ne ce:=hG.cell rfl;have s8:yI wc g 8 x.fares.down:=hG.cell rfl;have s9:yI wc g 9 x.day:=hG.cell rfl;have aX:yI wc g 10 x.leaves:=hG.cell rfl;have ap:yJ wc g 11 C F I:=hG.cell rfl;have aY:wc.cell? ⟨g,12,none⟩=some (.bool x.closed):=hG.cell rfl;have aO:=yh hG;clear hG h8;go_wp2_with fail;refine af.mono ?_;rintro e w5 ⟨v1,v2,a3,a4,rfl,aF,aG,aj⟩;obtain⟨A1,Z,c1,rfl,aK⟩:=aF.sl Qd;obtain⟨A2,n2,c2,rfl,ao⟩:=aG.sl QJ;have hG:=aO.bel aj;have s3:yJ w5 g 3 B k V:=hG.cell rfl;have ad:Z=(UC x).length:=aK.len.symm
   have aW:Z≤16:=by have:=Usa x;rw[ad];have:=ar.out;omega
   have al:=XWa x;rw[←ad,HM.out]at al
   have aJ:n2≤1000:=by
    have h1:=YV x (QI x) 0
    have h2:(QI x).length≤16:=by have:=Usa x;unfold UC at this;rw[List.length_map]at this;have:=ar.out;omega
    have h3:(QI x).length*x.ship.cabs.length≤16*12:=Nat.mul_le_mul h2 (by rw[HM.out];exact aV);have h4:=ao.len;unfold Zl at h4;omega
   have ah:=ZHb Z k A2 n2 c2 (Zl x) w5 (ao.all QJ (by omega)) aW (by omega) al aJ;obtain⟨q,O⟩:=yE (UB Z (Zl x));have aA:=yh (show r=if q=true then 0 else 9 by rw[aR.out,O,ad]);rw[←O]at ah;have aN:=yh ah;clear ah;replace a6:=a6.trans (aj.mono a6.size);clear aj aF aG aK ao al ad aJ O s0 s1 s2 s4 s5 s6 s7 s8 s9 aX ap aY hG hb;go_wp2_with fail;refine yM aN fun w6 aT=>?_;replace a6:=a6.trans (aT.mono a6.size);cases q
   ·obtain rfl:r=9:=aA.out;go_wp2_with fail;go_ret;exact⟨rfl,a6⟩
   ·obtain rfl:r=0:=aA.out;go_wp2_with fail;go_ret;exact⟨rfl,a6⟩
structure OkSai (x:Sai):Prop where
 bs:OkBs x
 fares:ZI x.fares x.ship.cats.length x.ship.legs=0
 day:Qc x.day 0 9999=true
 leaves:Qc x.leaves 0 9999=true
 room:QX x=0
theorem Zm {x:Sai}(h:QD x=0):OkSai x:=by
 unfold QD at h;by_cases h1:Z9 x.ship≠0
 ·rw[M3 h1]at h;exact absurd h h1
 rw[M2 h1]at h;by_cases h2:ZI x.fares x.ship.cats.length x.ship.legs≠0
 ·rw[M3 h2]at h;exact absurd h h2
 rw[M2 h2]at h;by_cases h3:(Qc x.day 0 9999 && Qc x.leaves 0 9999)=false
 ·rw[M3 h3]at h;omega
 rw[M2 h3]at h;by_cases h4:Xy x≠0
 ·rw[M3 h4]at h;exact absurd h h4
 rw[M2 h4]at h;by_cases h5:QX x=8
 ·rw[M3 h5]at h;omega
 rw[M2 h5]at h;obtain⟨A,D⟩:=Yh h3;exact⟨QFb (Voa (Decidable.not_not.1 h1)) (Decidable.not_not.1 h4),Decidable.not_not.1 h2,A,D,h⟩
theorem ZL {c:Prop}[Decidable c]{a b:Int}(h:a≤7)(A:b≤7):(if c then a else b)≤7:=by split<;>assumption
theorem YW {f:Nat→Int}(h:∀i,f i≤7):∀n,Qn f n≤7
 | 0=>by show(0:Int)≤7;decide
 | n+1=>ZL (YW h n) (h n)
theorem Yn {f:Nat→Int}(h:∀i,f i≤7):∀n,Qq f n≤7
 | 0=>by show(0:Int)≤7;decide
 | n+1=>ZL (h n) (Yn h n)
theorem QZc {l:List (List UInt8)}{f:Nat→Int}(h:∀i,f i≤7)(k:Nat):nmE l f k≤7:=ZL (by decide) (ZL (by decide) (h k))
theorem Qyc (x:Shp):Z9 x≤7:=by
 have A:∀k,Qn (nmE (Qw x.cats) (XN x.cats)) k≤7:=YW (QZc fun i=>YW (fun j=>ZL (by decide) (ZL (by decide) (by decide))) _);have D:∀k,Qn (nmE (Qv x.cabs) (fun k=>QDa x.cats.length (x.cabs.getD k default))) k≤7:=YW (QZc fun i=>ZL (by decide) (by decide));exact ZL (by decide) (ZL (by decide) (ZL (by decide) (ZL (A _) (ZL (by decide) (D _)))))
theorem YWb (x:Fares)(c A:Int):ZI x c A≤7:=by
 have D:Uq x.leg c A≤7:=ZL (by decide) (ZL (by decide) (by decide));have E:UL x.bands≤7:=ZL (by decide) (Yn (fun i=>ZL (by decide) (ZL (by decide) (by decide))) _);exact ZL (by decide) (ZL D (ZL (by decide) E))
theorem XUa (l:List Entry):Qe l≤7:=by
 have A:∀n,Qq (Zs l) n≤7:=Yn fun i=>by
  unfold Zs
  first|exact ZL (ZL (by decide) (ZL (by decide) (ZL (by decide) (by decide)))) (ZL (by decide) (by decide))|(repeat' split)<;>first|decide|(unfold Zq at *;(repeat' split)<;>first|decide|omega)|omega
 have D:∀n,Qq (U2 l) n≤7:=Yn fun i=>by
  unfold U2
  (repeat' split)<;>decide
 exact ZL (by decide) (ZL (A _) (D _))
theorem QGc (s:Span)(n:Int):VS s n≤7:=ZL (by decide) (ZL (by decide) (by decide))
theorem Y3b (x:Shp)(b:Bkg):kindE x b≤7:=ZL (ZL (by decide) (ZL (by decide) (ZL (by decide) (ZL (by decide) (by decide))))) (ZL (by decide) (ZL (by decide) (ZL (by decide) (by decide))))
theorem Upc (x:Shp)(b:Bkg):ofE x b≤7:=ZL (by decide) (ZL (by decide) (ZL (QGc _ _) (ZL (Y3b _ _) (ZL (by decide) (ZL (by decide) (XUa _))))))
theorem Q8c (x:Sai):Xy x≤7:=ZL (by decide) (ZL (YW (fun i=>ZL (Upc _ _) (ZL (by decide) (by decide))) _) (ZL (by decide) (by decide)))
theorem UG (x:Sai)(p:SaiV)(w:World)(h:SaiR w x p) :
  Calls prog 19 #[.agg (Qa x p)] w fun e w'=>e=.returned (.int .i64 (QD x))∧yw w w':=by
 have az:=yh (fun W h ho=>XRa x p W h ho);have aD:=yh (fun W h (hb:OkBs x)=>UKa x p W h hb.ship hb.bk hb.len);have HS:=yh h;obtain⟨A,n,cap,B,m,ac,D,nd,cd,E,ne,ce,C,nb,cb⟩:=p;have hc:Sl UX 2 w All A n cap x.ship.cats:=h.cats;have hd:Sl Ut 4 w All B m ac x.ship.cabs:=h.cabs;have hf:FareR w D nd cd x.fares E ne ce:=h.fares;obtain⟨r,I⟩:=yE (QD x);rw[←I];have au:=fun W F h2=>VVa x.ship A n cap B m ac W F h2;have aq:=fun W F=>Qna D nd cd x.fares E ne ce (n:Int) x.ship.legs W F;obtain⟨se,ae⟩:=yE (Z9 x.ship);obtain⟨fe,ah⟩:=yE (ZI x.fares (n:Int) x.ship.legs);obtain⟨be,ad⟩:=yE (Xy x);obtain⟨re,ar⟩:=yE (QX x);obtain⟨d1,ao⟩:=yE (Qc x.day 0 9999);obtain⟨d2,ap⟩:=yE (Qc x.leaves 0 9999);have HR:=yh (show r=if se≠0 then se else if fe≠0 then fe else if (d1 && d2)=false then 3 else if be≠0 then be else if re=8 then 2 else re by rw[I,ae,ah,ad,ar,ao,ap,←hc.len];rfl);have aw:=fun W=>ZVb x.day W;have ax:=fun W=>ZVb x.leaves W;rw[←ao]at aw;rw[←ap]at ax;rw[←ae]at au;rw[←ah]at aq;rw[←ad]at az;rw[←ar]at aD;have aE:=yh au;clear au;have aB:=yh aq;clear aq;have aI:=yh aw;clear aw;have aJ:=yh ax;clear ax;have aS:=yh (show se≤7 by rw[ae];exact Qyc _);have aR:=yh (show fe≤7 by rw[ah];exact YWb _ _ _);have aO:=yh (show be≤7 by rw[ad];exact Q8c _);have aF:=yh ae;clear ae;have aP:=yh ad;clear ad;have HC:=yh hc;have HD:=yh hd;have HF:=yh hf;clear h hc hd hf I ah ar ao ap;go_enter func19,ntmps19;go_upto_region 0 with(fail);go_cut [1,2] (fun q _ X=>∃g,yp q g∧Blk X g (Qa x ⟨A,n,cap,B,m,ac,D,nd,cd,E,ne,ce,C,nb,cb⟩) 32∧yw w X)
 case first=>as_aux_lemma=>
  go_wp2_with fail;go_meet;exact⟨_,rfl,Zk _ _,Qi _ _⟩
 obtain⟨g,rfl,hG,aX⟩:=hcut;have s0:yI wc g 0 x.ship.legs:=hG.cell rfl;have s1:yI wc g 1 x.ship.souls:=hG.cell rfl;have s2:yJ wc g 2 A n cap:=hG.cell rfl;have s3:yJ wc g 3 B m ac:=hG.cell rfl;have s4:yJ wc g 4 D nd cd:=hG.cell rfl;have s5:yI wc g 5 x.fares.alone:=hG.cell rfl;have s6:yI wc g 6 x.fares.third:=hG.cell rfl;have s7:yJ wc g 7 E ne ce:=hG.cell rfl;have s8:yI wc g 8 x.fares.down:=hG.cell rfl;have s9:yI wc g 9 x.day:=hG.cell rfl;have af:yI wc g 10 x.leaves:=hG.cell rfl;have ai:yJ wc g 11 C nb cb:=hG.cell rfl;have aj:wc.cell? ⟨g,12,none⟩=some (.bool x.closed):=hG.cell rfl;have aa:=yh (aE wc (HC.bel aX) (HD.bel aX));go_wp2_with fail;refine yM aa fun w2 an=>?_;replace hG:=hG.bel an;replace aX:=aX.trans (an.mono aX.size);clear an s0 s1 s2 s3 s4 s5 s6 s7 s8 s9 af ai aj aa aE;obtain⟨e1,aK⟩:=yE (if se≠0 then se else fe);have ag:=yh aK;clear aK;go_upto_if 8 with(fail);obtain⟨Q,aT⟩:=yE w2;subst aT;go_cut [3] (fun q X=>q=.int .i64 e1∧yw Q X)
 case first=>as_aux_lemma=>
  by_cases h0:se=0
  ·obtain rfl:e1=fe:=by rw[ag.out,M2 (by rw[h0];simp)]
   subst h0;have s0:yI Q g 0 x.ship.legs:=hG.cell rfl;have s1:yI Q g 1 x.ship.souls:=hG.cell rfl;have s2:yJ Q g 2 A n cap:=hG.cell rfl;have s3:yJ Q g 3 B m ac:=hG.cell rfl;have s4:yJ Q g 4 D nd cd:=hG.cell rfl;have s5:yI Q g 5 x.fares.alone:=hG.cell rfl;have s6:yI Q g 6 x.fares.third:=hG.cell rfl;have s7:yJ Q g 7 E ne ce:=hG.cell rfl;have s8:yI Q g 8 x.fares.down:=hG.cell rfl;have s9:yI Q g 9 x.day:=hG.cell rfl;have af:yI Q g 10 x.leaves:=hG.cell rfl;have ai:yJ Q g 11 C nb cb:=hG.cell rfl;have aj:Q.cell? ⟨g,12,none⟩=some (.bool x.closed):=hG.cell rfl;have aa:=yh (aB Q (HF.below aX));clear hG aX;go_wp2_with fail;refine yM aa fun w3 O=>?_;go_wp2_with fail;go_meet;exact⟨rfl,O⟩
  ·obtain rfl:e1=se:=by rw[ag.out,M3 h0]
   have am:(e1==0)=false:=by simpa using h0
   clear h0 hG aX;go_wp2_with fail;go_meet;exact⟨rfl,J4 _ _⟩
 obtain⟨rfl,O⟩:=hcut;replace hG:=hG.bel O;replace aX:=aX.trans (O.mono aX.size);clear O aB;obtain⟨Y,aL⟩:=yE (if e1≠0 then e1 else if (d1 && d2)=false then 3 else 0);have ak:=yh aL;clear aL;obtain⟨tv,av⟩:=yE (decide (e1=0) && !(d1 && d2))
 have aA:=yh (show Y=if tv=true then 3 else e1 by
  rw[ak.out,av];by_cases h0:e1=0
  ·rw[M2 (by rw[h0];simp),J2 h0];cases hd:(d1 && d2)<;>simp[h0]
  ·rw[M3 h0,J3 h0];simp)
 have aH:=yh av;clear av;go_upto_region 4 with(fail);obtain⟨W3,rfl⟩:=yE wc;go_cut [32] (fun q X=>q=.bool tv∧W3=X)
 case first=>as_aux_lemma=>
  by_cases h0:e1=0
  ·have ab:=yh (show tv = !(d1 && d2)by rw[aH.out,J2 h0];rfl);subst h0;have s9:yI W3 g 9 x.day:=hG.cell rfl;have af:yI W3 g 10 x.leaves:=hG.cell rfl;clear hG aX;go_wp2_with fail;refine(aI _).mono ?_;rintro e w9 ⟨rfl,rfl⟩;cases d1
   ·obtain rfl:tv=true:=ab.out;go_wp2_with fail;go_meet;exact⟨rfl,rfl⟩
   go_wp2_with fail;refine yN (aJ _) ?_;cases d2
   ·obtain rfl:tv=true:=ab.out;go_wp2_with fail;go_meet;exact⟨rfl,rfl⟩
   ·obtain rfl:tv=false:=ab.out;go_wp2_with fail;go_meet;exact⟨rfl,rfl⟩
  ·obtain rfl:tv=false:=by rw[aH.out,J3 h0];rfl
   have am:(e1==0)=false:=by simpa using h0
   clear h0 hG aX;go_wp2_with fail;go_meet;exact⟨rfl,rfl⟩
 obtain⟨rfl,ay⟩:=hcut;subst ay;go_upto_if 32 with(fail);go_cut [3] (fun q X=>q=.int .i64 Y∧W3=X)
 case first=>as_aux_lemma=>
  cases tv
  ·obtain rfl:Y=e1:=aA.out;clear hG aX;go_wp2_with fail;go_meet;exact⟨rfl,rfl⟩
  ·obtain rfl:Y=3:=aA.out;clear hG aX;go_wp2_with fail;go_meet;exact⟨rfl,rfl⟩
 obtain⟨rfl,ay⟩:=hcut;subst ay;clear aI aJ
 have aG:=yh (show Y=0→se=0∧e1=0∧(d1 && d2)=true from fun h=>by
  have h2:=ak.out;by_cases h0:e1=0
  ·rw[M2 (by rw[h0];simp)]at h2;have F:=ag.out;by_cases J:se=0
   ·refine⟨J,h0,?_⟩
    cases hd:(d1 && d2)with
    | true=>rfl
    | false=>rw[M3 hd]at h2;omega
   ·rw[M3 J]at F;omega
  ·rw[M3 h0]at h2;omega)
 obtain⟨e3,aM⟩:=yE (if Y≠0 then Y else be);have ab:=yh aM;clear aM;go_upto_if 34 with(fail);obtain⟨U,aU⟩:=yE W3;subst aU;go_cut [3] (fun q X=>q=.int .i64 e3∧yw U X)
 case first=>as_aux_lemma=>
  by_cases h0:Y=0
  ·obtain rfl:e3=be:=by rw[ab.out,M2 (by rw[h0];simp)]
   have s0:yI U g 0 x.ship.legs:=hG.cell rfl;have s1:yI U g 1 x.ship.souls:=hG.cell rfl;have s2:yJ U g 2 A n cap:=hG.cell rfl;have s3:yJ U g 3 B m ac:=hG.cell rfl;have s4:yJ U g 4 D nd cd:=hG.cell rfl;have s5:yI U g 5 x.fares.alone:=hG.cell rfl;have s6:yI U g 6 x.fares.third:=hG.cell rfl;have s7:yJ U g 7 E ne ce:=hG.cell rfl;have s8:yI U g 8 x.fares.down:=hG.cell rfl;have s9:yI U g 9 x.day:=hG.cell rfl;have af:yI U g 10 x.leaves:=hG.cell rfl;have ai:yJ U g 11 C nb cb:=hG.cell rfl;have aj:U.cell? ⟨g,12,none⟩=some (.bool x.closed):=hG.cell rfl;have aa:=yh (az U (HS.bel aX) (Voa (aF.symm.trans (aG h0).1)));subst h0;clear hG aX;go_wp2_with fail;refine yM aa fun w3 O=>?_;go_wp2_with fail;go_meet;exact⟨rfl,O⟩
  ·obtain rfl:e3=Y:=by rw[ab.out,M3 h0]
   have am:(e3==0)=false:=by simpa using h0
   clear h0 hG aX;go_wp2_with fail;go_meet;exact⟨rfl,J4 _ _⟩
 obtain⟨rfl,O⟩:=hcut;replace hG:=hG.bel O;replace aX:=aX.trans (O.mono aX.size);clear O;obtain⟨e4,aN⟩:=yE (if e3≠0 then e3 else re);have al:=yh aN;clear aN
 have aQ:=yh (show e3=0→Y=0∧be=0 from fun h=>by
  have h2:=ab.out;by_cases h0:Y=0
  ·rw[M2 (by rw[h0];simp)]at h2;exact⟨h0,by omega⟩
  ·rw[M3 h0]at h2;omega)
 go_upto_if 38 with(fail);obtain⟨V,rfl⟩:=yE wc;go_cut [3] (fun q X=>q=.int .i64 e4∧yw V X)
 case first=>as_aux_lemma=>
  by_cases h0:e3=0
  ·obtain rfl:e4=re:=by rw[al.out,M2 (by rw[h0];simp)]
   have s0:yI V g 0 x.ship.legs:=hG.cell rfl;have s1:yI V g 1 x.ship.souls:=hG.cell rfl;have s2:yJ V g 2 A n cap:=hG.cell rfl;have s3:yJ V g 3 B m ac:=hG.cell rfl;have s4:yJ V g 4 D nd cd:=hG.cell rfl;have s5:yI V g 5 x.fares.alone:=hG.cell rfl;have s6:yI V g 6 x.fares.third:=hG.cell rfl;have s7:yJ V g 7 E ne ce:=hG.cell rfl;have s8:yI V g 8 x.fares.down:=hG.cell rfl;have s9:yI V g 9 x.day:=hG.cell rfl;have af:yI V g 10 x.leaves:=hG.cell rfl;have ai:yJ V g 11 C nb cb:=hG.cell rfl;have aj:V.cell? ⟨g,12,none⟩=some (.bool x.closed):=hG.cell rfl;have F:=aQ h0;have aa:=yh (aD V (HS.bel aX) (QFb (Voa (aF.symm.trans (aG F.1).1)) (aP.symm.trans F.2)));subst h0;clear hG aX F;go_wp2_with fail;refine yM aa fun w3 O=>?_;go_wp2_with fail;go_meet;exact⟨rfl,O⟩
  ·obtain rfl:e4=e3:=by rw[al.out,M3 h0]
   have am:(e4==0)=false:=by simpa using h0
   clear h0 hG aX;go_wp2_with fail;go_meet;exact⟨rfl,J4 _ _⟩
 obtain⟨rfl,O⟩:=hcut;replace aX:=aX.trans (O.mono aX.size)
 have aC:=yh (show r=if e4=8 then 2 else e4 by
  have l1:=aS.out;have l2:=aR.out;have l3:=aO.out;have Z:=al.out;have J:=ab.out;have h2:=ak.out;have F:=ag.out;have I:=HR.out;by_cases a1:se=0
  ·rw[M2 (by rw[a1];simp)]at F I;by_cases a2:fe=0
   ·rw[M2 (by rw[a2];simp)]at I;rw[M2 (by rw[F,a2];simp)]at h2;by_cases a3:(d1 && d2)=false
    ·rw[M3 a3]at h2 I;rw[M3 (by rw[h2];simp)]at J;rw[M3 (by rw[J,h2];simp)]at Z;rw[I,Z,J,h2];rfl
    ·rw[M2 a3]at h2 I;rw[M2 (by rw[h2];simp)]at J;by_cases a4:be=0
     ·rw[M2 (by rw[a4];simp)]at I;rw[M2 (by rw[J,a4];simp)]at Z;rw[I,Z]
     ·rw[M3 a4]at I;rw[M3 (by rw[J];exact a4)]at Z;rw[I,Z,J,M2 (by omega)]
   ·rw[M3 a2]at I;rw[M3 (by rw[F];exact a2)]at h2;rw[M3 (by rw[h2,F];exact a2)]at J;rw[M3 (by rw[J,h2,F];exact a2)]at Z;rw[I,Z,J,h2,F,M2 (by omega)]
  ·rw[M3 a1]at F I;rw[M3 (by rw[F];exact a1)]at h2;rw[M3 (by rw[h2,F];exact a1)]at J;rw[M3 (by rw[J,h2,F];exact a1)]at Z
   rw[I,Z,J,h2,F,M2 (by omega)])
 clear hG O;by_cases h8:e4=8
 ·obtain rfl:r=2:=by rw[aC.out,M3 h8]
  subst h8;go_wp2_with fail;go_ret;exact⟨rfl,aX⟩
 ·obtain rfl:r=e4:=by rw[aC.out,M2 h8]
  have aV:(r==8)=false:=by simpa using h8
  clear h8;go_wp2_with fail;go_ret;exact⟨rfl,aX⟩
section
variable {α:Type} {c:Cod α} {size:Nat} {e:TypeId} {w w':World} {base:Nat} {v:Value} {l:List α} {xs:List Value}
theorem Own.keepB (J:XM c)(h:Own c size e w base v l xs)(Q:∀k,v.ownBlock=some k→w'.heap[k]? = w.heap[k]?):Own c size e w' base v l xs:=by
 refine⟨⟨h.row.1,?_⟩,fun i x U=>?_⟩
 ·rcases h.row.2 with E|⟨g,cap,D,A,F,O,r⟩
  ·exact .inl E
  ·exact .inr ⟨g,cap,D,A,F,(Q g (by rw[A];rfl)).trans O,r⟩
 ·obtain⟨cs,I,r⟩:=h.el i x U;exact⟨cs,J _ _ _ _ _ _ I,r⟩
theorem Own.slS (h:Own c size e w base v l xs)(O:Good c)(J:XM c){S:Nat→Prop}(F:∀k,v.ownBlock=some k→S k):∃A n cap,v=.slice A n cap∧Sl c size w S A n cap l:=by
 obtain⟨A,n,cap,E,V⟩:=h.sl O;refine⟨A,n,cap,E,V.len,V.le,V.max,fun i x Q=>?_⟩;obtain⟨b,U,cs,D,_,I,r⟩:=V.rd i x Q;exact⟨b,U,cs,D,F b (by rw[E,D];rfl),J _ _ _ _ _ _ I,r⟩
theorem Own.kept {S:Nat→Prop}(h:Own c size e w base v l xs)(E:Good c)(F:Kept S w w')(A:∀k,base≤k→¬S k):Own c size e w' base v l xs:=
 h.keep E fun b D I=>F.block b I (A b D)
end
def InnO {α:Type} (c:Cod α) (size:Nat) (e:TypeId) (w:World) (S:Nat→Prop) (v:Value) (l:List α):Prop:=∃xs,Own c size e w 0 v l xs∧∀k,v.ownBlock=some k→S k
section
variable {α:Type} {c:Cod α} {size:Nat} {e:TypeId} {w w':World} {v:Value} {l:List α} {S S':Nat→Prop}
theorem InnO.keep (F:XM c)(h:InnO c size e w S v l)(E:∀b,S b→b<w.heap.size→w'.heap[b]? = w.heap[b]?∧S' b):InnO c size e w' S' v l:=by
 obtain⟨xs,h,D⟩:=h;exact⟨xs,h.keepB F fun k A=>(E k (D k A) (h.lt k A).2).1,fun k A=>(E k (D k A) (h.lt k A).2).2⟩
theorem InnO.sl (h:InnO c size e w S v l)(E:Good c)(D:XM c):∃A n cap,v=.slice A n cap∧Sl c size w S A n cap l:=by
 obtain⟨xs,h,F⟩:=h;exact h.slS E D F
end
def XTa:Cod Cat:=fun w S x cs=>∃v,cs=[Zf x.name,v]∧InnO QO 1 3 w S v x.high∧x.name.length≤maxLen
def rowO:Cod (List Int):=fun w S x cs=>∃v,cs=[v]∧InnO QO 1 3 w S v x
def VU:Cod Bkg:=fun w S x cs=>∃v,cs=(Qk x v).toList∧InnO Qm 3 140 w S v x.fol∧BkIn x
theorem Zb:XM Qm:=fun _ _ _ _ _ _ h=>h
theorem Xga {w:World}{S:Nat→Prop}{x:Cat}{cs:List Value}(h:XTa w S x cs):UX w S x cs:=by
 obtain⟨v,rfl,h,E⟩:=h;obtain⟨A,n,cap,rfl,D⟩:=h.sl Qd ZB;exact⟨A,n,cap,rfl,D,E⟩
theorem Qcb {w:World}{S:Nat→Prop}{x:List Int}{cs:List Value}(h:rowO w S x cs):slC QO 1 w S x cs:=by
 obtain⟨v,rfl,h⟩:=h;obtain⟨A,n,cap,rfl,D⟩:=h.sl Qd ZB;exact⟨A,n,cap,rfl,D⟩
theorem Zza {w:World}{S:Nat→Prop}{x:Bkg}{cs:List Value}(h:VU w S x cs):ZP w S x cs:=by
 obtain⟨v,rfl,h,E⟩:=h;obtain⟨A,n,cap,rfl,D⟩:=h.sl Qb Zb;exact⟨A,n,cap,rfl,D,E⟩
theorem Uh:Good XTa:=⟨fun h A=>by
  obtain⟨v,rfl,h,D⟩:=h
  exact⟨v,rfl,h.keep ZB A,D⟩,fun h=>Ug.one (Xga h)⟩
theorem Ui:Good rowO:=⟨fun h A=>by
  obtain⟨v,rfl,h⟩:=h
  exact⟨v,rfl,h.keep ZB A⟩,fun h=>(ZU Qd (by omega)).one (Qcb h)⟩
theorem Zp:Good VU:=⟨fun h D=>by
  obtain⟨v,rfl,h,A⟩:=h
  exact⟨v,rfl,h.keep Zb D,A⟩,fun h=>Xa.one (Zza h)⟩
instance catOK:CodK XTa 2:=⟨Uh,by omega⟩
instance rowOK:CodK rowO 1:=⟨Ui,by omega⟩
instance bkgOK:CodK VU 11:=⟨Zp,by omega⟩
theorem V2b:ElemOf prog 23 136 4 40:=.mk' underlying23 (z:=.agg #[Zf [],.int .i64 0,.int .i64 0,.bool false]) (by kernel_rfl) rfl (by omega)
theorem V0b:ElemOf prog 27 138 2 16:=.mk' underlying27 (z:=.agg #[.int .i64 0,.int .i64 0]) (by kernel_rfl) rfl (by omega)
theorem Xk:ElemOf prog 30 63 11 104:=.mk' underlying30 (z:=.agg M8) (by kernel_rfl) rfl (by omega)
theorem UHb:ElemOf prog 22 134 2 40:=.mk' underlying22 (z:=.agg #[Zf [],.slice none 0 0]) (by kernel_rfl) rfl (by omega)
theorem X5b:ElemOf prog 26 70 1 24:=.mk' underlying26 (z:=.slice none 0 0) (by kernel_rfl) rfl (by omega)
theorem Usb (A:Option Addr)(n cap:Nat)(l:List Cab)(w:World)(h:Sl Ut 4 w All A n cap l)(J:n*40≤140737488355328) :
  Calls prog 219 #[.slice A n cap] w fun e w'=>∃v xs,e=.returned v∧Own Ut 4 136 w' w.heap.size v l xs∧yw w w':=by
 have O:=fun(W:World) (a:Option Addr)=>Lib.run_eql_slice_nil (P:=prog) W 23 136 a n cap 0 0 underlying23;rcases A with _|a
 ·have F:l=[]:=by
   rcases l with _|⟨x,l⟩
   ·rfl
   ·obtain⟨b,Q,cs,X,_⟩:=h.rd 0 x rfl;cases X
  subst F;go_enter func219,ntmps219;go_wp2;go_ret;exact⟨_,_,rfl,Own.nil _ _ _ _ _,J4 _ _⟩
 ·go_enter func219,ntmps219;go_wp2_with (at_builtin;refine QC (t:=23) (e:=136) (bytes:=40) rfl (.tmp 5) (.tmp 6) rfl V2b Zx rfl (Own.made w Ut 4 136 w.heap.size #[] 0 (J5 _) (by simp[maxLen]) rfl) rfl (h.below Zx (by omega) ((J4 _ _).alloc (J5 _) _)) (fun _ _ D=>D) (by simp;omega) (by omega) (by simp) ?_;intro v' w' U I E _);go_ret;exact⟨_,_,rfl,I,QA (Below.alloc (J4 _ _) (J5 _) _) (Own.made w Ut 4 136 w.heap.size #[] 0 (J5 _) (by simp[maxLen]) rfl) E (by simp)⟩
theorem Urb (A:Option Addr)(n cap:Nat)(l:List Band)(w:World)(h:Sl Vl 2 w All A n cap l)(J:n*16≤140737488355328) :
  Calls prog 221 #[.slice A n cap] w fun e w'=>∃v xs,e=.returned v∧Own Vl 2 138 w' w.heap.size v l xs∧yw w w':=by
 have O:=fun(W:World) (a:Option Addr)=>Lib.run_eql_slice_nil (P:=prog) W 27 138 a n cap 0 0 underlying27;rcases A with _|a
 ·have F:l=[]:=by
   rcases l with _|⟨x,l⟩
   ·rfl
   ·obtain⟨b,Q,cs,X,_⟩:=h.rd 0 x rfl;cases X
  subst F;go_enter func221,ntmps221;go_wp2;go_ret;exact⟨_,_,rfl,Own.nil _ _ _ _ _,J4 _ _⟩
 ·go_enter func221,ntmps221;go_wp2_with (at_builtin;refine QC (t:=27) (e:=138) (bytes:=16) rfl (.tmp 5) (.tmp 6) rfl V0b Qx rfl (Own.made w Vl 2 138 w.heap.size #[] 0 (J5 _) (by simp[maxLen]) rfl) rfl (h.below Qx (by omega) ((J4 _ _).alloc (J5 _) _)) (fun _ _ D=>D) (by simp;omega) (by omega) (by simp) ?_;intro v' w' U I E _);go_ret;exact⟨_,_,rfl,I,QA (Below.alloc (J4 _ _) (J5 _) _) (Own.made w Vl 2 138 w.heap.size #[] 0 (J5 _) (by simp[maxLen]) rfl) E (by simp)⟩
theorem Blk.row {w:World}{z:Nat}{cs:Array Value}{t:TypeId}(h:Blk w z cs t)(A:Array Value):Blk (w.setRow z A) z A t:=setRow_heap _ _ _ _ _ _ h
theorem Blk.rowOther {w:World}{b:Nat}{cs:Array Value}{t:TypeId}(h:Blk w b cs t){z:Nat}(A:b≠z)(D:Array Value):Blk (w.setRow z D) b cs t:=(setRow_other _ _ _ _ A).trans h
theorem Kept.setRow {S:Nat→Prop}{a w:World}(h:Kept S a w){z:Nat}(A:S z∨a.heap.size≤z)(F:Array Value):Kept S a (w.setRow z F):=
 ⟨h.os,h.tape,h.output,by simpa using h.size,fun k E D=>(setRow_other _ _ _ _ (by rintro rfl;rcases A with A|A;exact D A;omega)).trans (h.block k E D)⟩
theorem Blk.ld {w:World}{b:Nat}{cs:Array Value}{t ty:TypeId}{d:TypeDesc}(h:Blk w b cs t)(F:Tryz.prog.underlying ty=some d)(D:(match d with | .struct _ | .array _ _=>true|_=>false)=true)(E:(Tryz.prog.info? ty).map (·.size)=some cs.size) :
  (loadVar ty ⟨b,0,none⟩).run prog w=.ok (.agg cs) w:=by
 have A:w.heap[b]? = some (.cells cs t (0,0)):=h
 cases d<;>first|exact run_loadVar_row w b t ty cs (0,0) _ A F rfl E|simp at D
theorem Blk.ret {D:Func}{k:Tmp}{ty t:TypeId}(I:D.results=#[.cell k ty]){A:Array Value}{w:World}{g:Nat}{cs:Array Value}{d:TypeDesc}(J:Blk w g cs t)(Q:A.getD k undef=.pointer (some ⟨g,0,none⟩))
  (U:Tryz.prog.underlying ty=some d) (F:(match d with | .struct _ | .array _ _=>true|_=>false)=true) (O:(Tryz.prog.info? ty).map (·.size)=some cs.size):(results D A).run prog w=.ok (.agg cs) w:=by
 have E:w.heap[g]? = some (.cells cs t (0,0)):=J
 cases d<;>first|exact results_cell_row I A w g t cs (0,0) _ Q E U rfl O|simp at F
theorem Ud (b:Bkg)(A:Option Addr)(n cap:Nat):(Qk b (.slice A n cap)).all (·.oneCell')=true:=by simp[Qk,Value.oneCell']
theorem Z0a (b:Bkg)(J:Option Addr)(I O:Nat)(w:World)(hf:Sl Qm 3 w All J I O b.fol)(hn:I≤1000000000) :
  Calls prog 171 #[.agg (Qk b (.slice J I O))] w fun e w'=>∃v xs,e=.returned (.agg (Qk b v))∧Own Qm 3 140 w' w.heap.size v b.fol xs∧yw w w':=by
 obtain⟨id,aa,ab,Y,lev,V,ay,X,upto,ac,Q⟩:=b;simp only at hf;have an:=yh (fun W h=>YJ J I O Q W h hn);have HF:=yh hf;clear hf;go_enter func171,ntmps171;go_upto_region 0 with(fail);go_cut [1,2] (fun p p2 wx=>∃h z,yp p h∧yp p2 z∧w.heap.size≤h∧w.heap.size≤z∧h≠z∧Blk wx h (Qk ⟨id,aa,ab,Y,lev,V,ay,X,upto,ac,Q⟩ (.slice J I O)) 63∧Blk wx z M8 63∧yw w wx)
 case first=>as_aux_lemma=>
  go_wp2_with fail;go_meet;exact⟨_,_,rfl,rfl,J5 _,by omega,by omega,QE _ _ _,QF _ _ _,Zo _ _ _⟩
 obtain⟨h,z,rfl,rfl,hh,hz,av,E,Z,ae⟩:=hcut;have z9:yJ wc h 10 J I O:=E.cell rfl;have ai:=yh (an wc (HF.bel ae));have ap:=yh E.lt;have ar:=yh Z.lt;have am:=ae.size;go_wp2_with fail;refine ai.mono ?_;rintro e U ⟨v,xs,rfl,hO,ad⟩;obtain⟨A,F,D,rfl,_⟩:=hO.sl Qb;replace E:=E.bel ad;replace Z:=Z.bel ad;have HB:=yh (ae.trans (ad.mono am));have au:U.frozen? ⟨h,10,none⟩=false:=E.free 10;have aw:yJ U h 10 J I O:=E.cell rfl;have HH:=yh E;have HZ:=yh Z;have HO:=yh hO;clear E Z hO ad z9 ai ae;go_upto_region 2 with(fail);have af:Blk (U.setCell ⟨h,10,none⟩ (.slice A F D)) h (Qk ⟨id,aa,ab,Y,lev,V,ay,X,upto,ac,Q⟩ (.slice A F D)) 63:=HH.set (j:=10) _;have ah:=Blk.other HZ (p:=⟨h,10,none⟩) av (.slice A F D);have ag:Kept (fun k=>k=h∨k=z) U (U.setCell ⟨h,10,none⟩ (.slice A F D)):=(Kept.refl _ _).setCell (.inl (.inl rfl)) _;obtain⟨W3,al⟩:=yE (U.setCell ⟨h,10,none⟩ (.slice A F D));rw[←al]at af ah ag ⊢;have aj:=yh ah;have aq:=yh ag;have ao:=yh af;clear al af ah ag au aw;go_wp2_with (first|(refine yV (.tmp 1) ao underlying63 ?_)|(refine wpList_store_row rfl 63 (.tmp 2) (.tmp 7) rfl z (Qk ⟨id,aa,ab,Y,lev,V,ay,X,upto,ac,Q⟩ (.slice A F D)) rfl rfl 63 _ aj (by kernel_rfl) rfl (Ud _ _ _ _) ?_));refine yq (.agg (Qk ⟨id,aa,ab,Y,lev,V,ay,X,upto,ac,Q⟩ (.slice A F D))) (k:=2) (aj.row _) underlying63 ?_;have ak:=aq.setRow (z:=z) (.inl (.inr rfl)) (Qk ⟨id,aa,ab,Y,lev,V,ay,X,upto,ac,Q⟩ (.slice A F D));have h1:=ap.out;have h2:=ar.out;exact⟨_,xs,rfl,(HO.kept Qb ak (fun k hk=>by omega)).mono Qb am,HB.trans (ak.below HB.size (fun k hk=>by omega))⟩
end Go.Proofs.YtjdcokpmgionjaaGreat
