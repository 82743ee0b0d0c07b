/-
  Words, laws and contracts: StockA, StockB, StockC, StockD, StockE, StockF.
-/
import Derived.Test.YtjdcokpmgionjaaGreatBun10
import Derived.Test.YtjdcokpmgionjaaGreatBun13
import Derived.Test.YtjdcokpmgionjaaGreatBun14
set_option linter.unusedSimpArgs false
set_option linter.unusedVariables false
set_option maxRecDepth 100000
set_option maxHeartbeats 20000000
namespace Go.Proofs.YtjdcokpmgionjaaGreat
open Go.RowKit Go.Shelf
structure Sai where
 ship:Shp
 fares:Fares
 day:Int
 leaves:Int
 bks:List Bkg
 closed:Bool
structure SaiV where
 A:Option Addr
 n:Nat
 cap:Nat
 B:Option Addr
 m:Nat
 cap2:Nat
 D:Option Addr
 nd:Nat
 cd:Nat
 E:Option Addr
 ne:Nat
 ce:Nat
 C:Option Addr
 nb:Nat
 cb:Nat
abbrev Qa (x:Sai) (p:SaiV):Array Value:=#[.int .i64 x.ship.legs,.int .i64 x.ship.souls,.slice p.A p.n p.cap,.slice p.B p.m p.cap2,.slice p.D p.nd p.cd,.int .i64 x.fares.alone,.int .i64 x.fares.third,.slice p.E p.ne p.ce,.int .i64 x.fares.down,.int .i64 x.day,.int .i64 x.leaves,.slice p.C p.nb p.cb,.bool x.closed]
structure SaiR (w:World) (x:Sai) (p:SaiV):Prop where
 cats:Sl Um 2 w All p.A p.n p.cap x.ship.cats
 cabs:Sl ZW 4 w All p.B p.m p.cap2 x.ship.cabs
 fares:FareR w p.D p.nd p.cd x.fares p.E p.ne p.ce
 bks:Sl Vb 11 w All p.C p.nb p.cb x.bks
theorem SaiR.bel {w w':World}{x:Sai}{p:SaiV}(h:SaiR w x p)(A:yw w w'):SaiR w' x p:=⟨h.cats.bel A,h.cabs.bel A,h.fares.below A,h.bks.bel A⟩
def QI (b:Bkg):Bool:=decide (b.kind=2) && (Qy b && decide (b.cab < 0))
def UG (closed:Bool) (b:Bkg):Bool:=decide (b.kind=2) && (Qy b && (decide (b.cab < 0) == closed))
def Ua (x:Sai) (i:Nat):Int:=if ofE x.ship (x.bks.getD i default)≠0 then ofE x.ship (x.bks.getD i default)else if 0 < i∧(x.bks.getD i default).id≤(x.bks.getD (i - 1) default).id then 4 else 0
def Vc (x:Sai):Int:=if 16 < x.bks.length then 2 else if Qh (Ua x) x.bks.length≠0 then Qh (Ua x) x.bks.length else if x.bks.any (UG x.closed)=true then 4 else 0
def QR (l:List Bkg) (c:Nat):Bool:=!l.any (Uv c)
def Uj (x:Sai) (b:Bkg):List Int:=((List.range x.ship.cabs.length).filter (fun c:Nat=>Zp x.ship b (c:Int) && QR x.bks c)).map Int.ofNat
def QJ (x:Sai):List Bkg:=x.bks.filter QI
def Z5 (x:Sai):List Int:=(QJ x).map (·.id)
def Zs (x:Sai):List Bkg→Nat→List Edg
 | [],_=>[]
 | b::l,i=>(Uj x b).map (fun c=>⟨i,c⟩)++Zs x l (i+1)
def Zd (x:Sai):List Edg:=Zs x (QJ x) 0
def VWb (n:Nat) (l:List Edg):Prop:=∃M,IsM (Ux l) M∧M.length=n
noncomputable def Z9 (n:Nat) (l:List Edg):Bool:=@decide (VWb n l) (Classical.propDecidable _)
theorem Qta {n:Nat}{l:List Edg} : Z9 n l=true↔VWb n l:=by
 unfold Z9;exact @decide_eq_true_iff _ (Classical.propDecidable _)
theorem Xf {n:Nat}{l:List Edg}(h:VWb n l):Z9 n l=true:=Qta.2 h
def ZV (x:Sai):Bool:=(List.range x.ship.cabs.length).any (fun c=>!ZK x.bks (c:Int))
noncomputable def QQ (x:Sai):Int:=
 if ZV x=true then 6 else if x.ship.souls < mx (QM x.bks x.ship.legs.toNat)then 8 else if Z9 (Z5 x).length (Zd x)=true then 0 else 9
noncomputable def Qp (x:Sai):Int:=if ZJ x.ship≠0 then ZJ x.ship else if Zq x.fares x.ship.cats.length x.ship.legs≠0 then Zq x.fares x.ship.cats.length x.ship.legs
 else if (Qc x.day 0 9999 && Qc x.leaves 0 9999)=false then 3 else if Vc x≠0 then Vc x else if QQ x=8 then 2 else QQ x
structure OkBs (x:Sai):Prop where
 ship:OkShp x.ship
 bk:∀b∈x.bks,OkBk x.ship b
 len:x.bks.length≤16
 rise:∀i,i+1 < x.bks.length→(x.bks.getD i default).id < (x.bks.getD (i+1) default).id
 bad:x.bks.any (UG x.closed)=false
theorem ZQb (n:Int)(w:World):Calls Tryz.prog 79 #[.int .i64 n] w fun e w'=>e=.returned (.bool (Qc n 0 9999))∧w=w':=by
 go_enter Tryz.func79,Tryz.ntmps79
 go_wp2
 all_goals go_ret
 all_goals exact⟨ZN (by unfold Qc;simp;try omega),rfl⟩
theorem Yfb (id D O J:Int)(lev:Bool)(A E I upto Q:Int)(F:List Entry):QI ⟨id,D,O,J,lev,A,E,I,upto,Q,F⟩=(decide (D=2) && (Qy ⟨id,D,O,J,lev,A,E,I,upto,Q,F⟩ && decide (A < 0))):=rfl
theorem Yhb (b:Bkg)(v:Value)(w:World):Calls Tryz.prog 190 #[.agg (Qz b v)] w fun e w'=>e=.returned (.bool (QI b))∧yw w w':=by
 obtain⟨id,F,U,O,lev,D,I,J,upto,V,ac⟩:=b;obtain⟨r,Q⟩:∃r,r=QI ⟨id,F,U,O,lev,D,I,J,upto,V,ac⟩:=⟨_,rfl⟩;rw[←Q];rw[Yfb]at Q
 have Y:=fun W=>X5 ⟨id,F,U,O,lev,D,I,J,upto,V,ac⟩ v W
 obtain⟨q,hq⟩:∃q,q=Qy ⟨id,F,U,O,lev,D,I,J,upto,V,ac⟩:=⟨_,rfl⟩;rw[←hq]at Y Q;have HR:=yh Q;clear Q;have HL:=yh Y;clear Y;clear hq
 go_enter Tryz.func190,Tryz.ntmps190
 go_upto_region 0 with(fail)
 go_cut [1,2] (fun p _ wx=>∃h,p=.pointer (some ⟨h,0,none⟩)∧Blk wx h (Qz ⟨id,F,U,O,lev,D,I,J,upto,V,ac⟩ v) 63∧yw w wx)
 case first=>as_aux_lemma=>
  go_wp2_with fail
  go_meet
  exact⟨_,rfl,Za _ _,Qf _ _⟩
 obtain⟨h,rfl,A,E⟩:=hcut;have z0:yI wc h 0 id:=A.cell rfl;have z1:yI wc h 1 F:=A.cell rfl;have z2:yI wc h 2 U:=A.cell rfl;have z3:yI wc h 3 O:=A.cell rfl;have z4:wc.cell? ⟨h,4,none⟩=some (.bool lev):=A.cell rfl;have z5:yI wc h 5 D:=A.cell rfl;have z6:yI wc h 6 I:=A.cell rfl;have z7:yI wc h 7 J:=A.cell rfl;have z8:yI wc h 8 upto:=A.cell rfl;have z9:yI wc h 9 V:=A.cell rfl;have aa:wc.cell? ⟨h,10,none⟩=some (v):=A.cell rfl
 by_cases hk:F=2
 rotate_left
 ·obtain rfl:r=false:=by rw[HR.out,decide_eq_false hk];rfl
  have ab:(F == 2)=false:=by simpa using hk
  clear hk
  go_wp2_with fail
  go_ret
  exact⟨rfl,E⟩
 have X:=yh (show r=(q && decide (D < 0))by rw[HR.out,decide_eq_true hk];rfl);subst hk
 go_wp2_with fail
 refine(HL.out _).mono ?_;rintro e w2 ⟨rfl,Z⟩;replace A:=A.bel Z;replace E:=E.trans (Z.mono E.size);clear Z z0 z1 z2 z3 z4 z5 z6 z7 z8 z9 aa;have z5:yI w2 h 5 D:=A.cell rfl
 cases q
 ·obtain rfl:r=false:=X.out
  go_wp2_with fail
  go_ret
  exact⟨rfl,E⟩
 by_cases hcb:D < 0
 ·obtain rfl:r=true:=by rw[X.out,decide_eq_true hcb];rfl
  go_wp2_with fail
  go_ret
  exact⟨rfl,E⟩
 ·obtain rfl:r=false:=by rw[X.out,decide_eq_false hcb];rfl
  have hd:=decide_eq_false hcb;clear hcb
  go_wp2_with fail
  go_ret
  exact⟨rfl,E⟩
theorem Q1b (b:Bkg)(v:Value)(w:World):Calls Tryz.prog 203 #[.agg (Qz b v)] w fun e w'=>e=.returned (.bool (QI b))∧yw w w':=by
 obtain⟨id,F,D,U,lev,E,O,Q,upto,W,Y⟩:=b;obtain⟨r,V⟩:∃r,r=QI ⟨id,F,D,U,lev,E,O,Q,upto,W,Y⟩:=⟨_,rfl⟩;rw[←V];have X:=yh (show r=(decide (F=2) && (!decide (D=3) && decide (E < 0)))by rw[V];rfl);clear V
 go_enter Tryz.func203,Tryz.ntmps203
 go_upto_region 0 with(fail)
 go_cut [1,2] (fun p _ Z=>∃h,p=.pointer (some ⟨h,0,none⟩)∧Blk Z h (Qz ⟨id,F,D,U,lev,E,O,Q,upto,W,Y⟩ v) 63∧yw w Z)
 case first=>as_aux_lemma=>
  go_wp2_with fail
  go_meet
  exact⟨_,rfl,Za _ _,Qf _ _⟩
 obtain⟨h,rfl,A,I⟩:=hcut;have z0:yI wc h 0 id:=A.cell rfl;have z1:yI wc h 1 F:=A.cell rfl;have z2:yI wc h 2 D:=A.cell rfl;have z3:yI wc h 3 U:=A.cell rfl;have z4:wc.cell? ⟨h,4,none⟩=some (.bool lev):=A.cell rfl;have z5:yI wc h 5 E:=A.cell rfl;have z6:yI wc h 6 O:=A.cell rfl;have z7:yI wc h 7 Q:=A.cell rfl;have z8:yI wc h 8 upto:=A.cell rfl;have z9:yI wc h 9 W:=A.cell rfl;have ac:wc.cell? ⟨h,10,none⟩=some (v):=A.cell rfl
 by_cases hk:F=2
 rotate_left
 ·obtain rfl:r=false:=by rw[X.out,decide_eq_false hk];rfl
  have aa:(F == 2)=false:=by simpa using hk
  clear hk
  go_wp2_with fail
  go_ret
  exact⟨rfl,I⟩
 have J:=yh (show r=(!decide (D=3) && decide (E < 0))by rw[X.out,decide_eq_true hk];rfl);subst hk
 by_cases h3:D=3
 ·obtain rfl:r=false:=by rw[J.out,decide_eq_true h3];rfl
  subst h3
  go_wp2_with fail
  go_ret
  exact⟨rfl,I⟩
 have ab:(D != 3)=true:=by simpa using h3
 by_cases hcb:E < 0
 ·obtain rfl:r=true:=by rw[J.out,decide_eq_true hcb,decide_eq_false h3];rfl
  clear h3
  go_wp2_with fail
  go_ret
  exact⟨rfl,I⟩
 ·obtain rfl:r=false:=by rw[J.out,decide_eq_false hcb,Bool.and_false]
  clear h3
  go_wp2_with fail
  go_ret
  exact⟨rfl,I⟩
theorem Qac (b:Bkg)(v:Value)(I:Bool)(g:Nat)(w:World)(hg:w.cell? ⟨g,12,none⟩=some (.bool I)):Calls Tryz.prog 167 #[.agg (Qz b v),.pointer (some ⟨g,0,none⟩)] w fun e w'=>e=.returned (.bool (UG I b))∧yw w w':=by
 obtain⟨id,F,V,U,lev,E,O,Q,upto,ac,X⟩:=b;obtain⟨r,hr⟩:∃r,r=UG I ⟨id,F,V,U,lev,E,O,Q,upto,ac,X⟩:=⟨_,rfl⟩;rw[←hr]
 have Y:=fun W=>X5 ⟨id,F,V,U,lev,E,O,Q,upto,ac,X⟩ v W
 obtain⟨q,hq⟩:∃q,q=Qy ⟨id,F,V,U,lev,E,O,Q,upto,ac,X⟩:=⟨_,rfl⟩;have HR:=yh (show r=(decide (F=2) && (q && (decide (E < 0) == I)))by rw[hr,hq];rfl);rw[←hq]at Y;have HL:=yh Y;clear Y;have HG:=yh hg;clear hg;clear hq hr
 go_enter Tryz.func167,Tryz.ntmps167
 go_upto_region 0 with(fail)
 go_cut [1,2,3] (fun p0 p _ wx=>∃h,p0=.pointer (some ⟨g,0,none⟩)∧p=.pointer (some ⟨h,0,none⟩)∧Blk wx h (Qz ⟨id,F,V,U,lev,E,O,Q,upto,ac,X⟩ v) 63∧yw w wx)
 case first=>as_aux_lemma=>
  go_wp2_with fail
  go_meet
  exact⟨_,rfl,rfl,Za _ _,Qf _ _⟩
 obtain⟨h,rfl,rfl,A,D⟩:=hcut;have z0:yI wc h 0 id:=A.cell rfl;have z1:yI wc h 1 F:=A.cell rfl;have z2:yI wc h 2 V:=A.cell rfl;have z3:yI wc h 3 U:=A.cell rfl;have z4:wc.cell? ⟨h,4,none⟩=some (.bool lev):=A.cell rfl;have z5:yI wc h 5 E:=A.cell rfl;have z6:yI wc h 6 O:=A.cell rfl;have z7:yI wc h 7 Q:=A.cell rfl;have z8:yI wc h 8 upto:=A.cell rfl;have z9:yI wc h 9 ac:=A.cell rfl;have aa:wc.cell? ⟨h,10,none⟩=some (v):=A.cell rfl
 by_cases hk:F=2
 rotate_left
 ·obtain rfl:r=false:=by rw[HR.out,decide_eq_false hk];rfl
  have ab:(F == 2)=false:=by simpa using hk
  clear hk
  go_wp2_with fail
  go_ret
  exact⟨rfl,D⟩
 have J:=yh (show r=(q && (decide (E < 0) == I))by rw[HR.out,decide_eq_true hk];rfl);subst hk
 go_wp2_with fail
 refine(HL.out _).mono ?_;rintro e w2 ⟨rfl,Z⟩;replace A:=A.bel Z;replace D:=D.trans (Z.mono D.size);clear Z z0 z1 z2 z3 z4 z5 z6 z7 z8 z9 aa;have z5:yI w2 h 5 E:=A.cell rfl;have g5:=Qg D HG.out
 cases q
 ·obtain rfl:r=false:=J.out
  go_wp2_with fail
  go_ret
  exact⟨rfl,D⟩
 by_cases hcb:E < 0
 ·cases I
  ·obtain rfl:r=false:=by rw[J.out,decide_eq_true hcb];rfl
   go_wp2_with fail
   go_ret
   exact⟨rfl,D⟩
  ·obtain rfl:r=true:=by rw[J.out,decide_eq_true hcb];rfl
   go_wp2_with fail
   go_ret
   exact⟨rfl,D⟩
 ·have hd:=decide_eq_false hcb
  cases I
  ·obtain rfl:r=true:=by rw[J.out,decide_eq_false hcb];rfl
   clear hcb
   go_wp2_with fail
   go_ret
   exact⟨rfl,D⟩
  ·obtain rfl:r=false:=by rw[J.out,decide_eq_false hcb];rfl
   clear hcb
   go_wp2_with fail
   go_ret
   exact⟨rfl,D⟩
theorem XHb (b:Bkg)(v:Value)(c:Int)(g:Nat)(w:World)(Y:yI w g 0 c):Calls Tryz.prog 192 #[.agg (Qz b v),.pointer (some ⟨g,0,none⟩)] w fun e w'=>e=.returned (.bool (Uv c b))∧yw w w':=by
 obtain⟨id,J,O,I,lev,D,E,F,upto,Q,U⟩:=b
 have V:=fun W=>ZCb ⟨id,J,O,I,lev,D,E,F,upto,Q,U⟩ v c W
 obtain⟨q,X⟩:∃q,q=Uv c ⟨id,J,O,I,lev,D,E,F,upto,Q,U⟩:=⟨_,rfl⟩;rw[←X]at V;rw[←X];have HL:=yh V;clear V;have HG:=yh Y;clear Y;clear X
 go_enter Tryz.func192,Tryz.ntmps192
 go_upto_region 0 with(fail)
 go_cut [1,2,3] (fun p0 p _ Z=>∃h,p0=.pointer (some ⟨g,0,none⟩)∧p=.pointer (some ⟨h,0,none⟩)∧Blk Z h (Qz ⟨id,J,O,I,lev,D,E,F,upto,Q,U⟩ v) 63∧yw w Z)
 case first=>as_aux_lemma=>
  go_wp2_with fail
  go_meet
  exact⟨_,rfl,rfl,Za _ _,Qf _ _⟩
 obtain⟨h,rfl,rfl,A,ac⟩:=hcut;have z0:yI wc h 0 id:=A.cell rfl;have z1:yI wc h 1 J:=A.cell rfl;have z2:yI wc h 2 O:=A.cell rfl;have z3:yI wc h 3 I:=A.cell rfl;have z4:wc.cell? ⟨h,4,none⟩=some (.bool lev):=A.cell rfl;have z5:yI wc h 5 D:=A.cell rfl;have z6:yI wc h 6 E:=A.cell rfl;have z7:yI wc h 7 F:=A.cell rfl;have z8:yI wc h 8 upto:=A.cell rfl;have z9:yI wc h 9 Q:=A.cell rfl;have ab:wc.cell? ⟨h,10,none⟩=some (v):=A.cell rfl;have g5:=Qg ac HG.out
 go_wp2_with fail
 refine(HL.out _).mono ?_;rintro e w2 ⟨rfl,aa⟩
 go_wp2_with fail
 go_ret
 exact⟨rfl,ac.trans (aa.mono ac.size)⟩
theorem Vma (A:Option Addr)(n cap:Nat)(l:List Bkg)(g:Nat)(lb:Array Value)(p:Bkg→Bool)(w:World)(h:Sl Vb 11 w All A n cap l)
  (eg:∀Z w,(callFunc g Z).run Tryz.prog w=.ok (.enter g Z) w)
  (hp:∀(x:Bkg) (v:Value) (w1:World),x∈l→yw w w1→Calls Tryz.prog g (#[.agg (Qz x v)]++lb) w1 fun e w'=>e=.returned (.bool (p x))∧yw w1 w') :
  Calls Tryz.prog 189 #[.slice A n cap,.func (.func g) #[] lb] w fun e w'=>e=.returned (.int .i64 (Uq p l))∧yw w w':=by
 have Hp:=yh hp;clear hp;have ai:=h.bd;have HL:=yh h;have HN:=yh h.len;clear h
 go_enter Tryz.func189,Tryz.ntmps189
 go_wp2_with fail
 go_loopg [8] n (fun gk i wr=>∃k:Nat,k≤n∧n - k≤gk∧i=.int .i64 k∧Aside ((l.take k).any p=false)∧yw w wr)
 case atStart=>exact⟨0,Nat.zero_le _,by omega,rfl,rfl,Below.refl _ _⟩
 case round=>
  obtain⟨k,hk,aj,rfl,J,F⟩:=hrel
  by_cases hlt:k < n
  ·skip
   obtain⟨D,E,⟨id,ae,af,ad,lev,aa,ab,ac,upto,ag,ah⟩,V,n3,c3,hA,U,hF,hI,al⟩:=(HL.out.bel F).bkg hlt;subst hA;simp only at hF;have y0:yI wr D (E+k*11) id:=al 0 _ rfl;have y1:yI wr D (E+k*11+1) ae:=al 1 _ rfl;have y2:yI wr D (E+k*11+2) af:=al 2 _ rfl;have y3:yI wr D (E+k*11+3) ad:=al 3 _ rfl;have y4:wr.cell? ⟨D,E+k*11+4,none⟩=some (.bool lev):=al 4 _ rfl;have y5:yI wr D (E+k*11+5) aa:=al 5 _ rfl;have y6:yI wr D (E+k*11+6) ab:=al 6 _ rfl;have y7:yI wr D (E+k*11+7) ac:=al 7 _ rfl;have y8:yI wr D (E+k*11+8) upto:=al 8 _ rfl;have y9:yI wr D (E+k*11+9) ag:=al 9 _ rfl;have ak:yJ wr D (E+k*11+10) V n3 c3:=al 10 _ rfl;clear al;have Y:=yh U;have HM:=yh (List.mem_of_getElem? U);have O:=Hp.out _ (.slice V n3 c3) wr HM.out F;obtain⟨q,Q⟩:∃q,q=p ⟨id,ae,af,ad,lev,aa,ab,ac,upto,ag,ah⟩:=⟨_,rfl⟩;rw[←Q]at O;have W:=yh O;clear O;have X:=yh Q;clear Q;clear U hF hI
   cases q
   ·skip
    go_wp2_with fail
    go_at_fn g
    refine W.out.mono ?_;rintro e w1 ⟨rfl,I⟩;replace I:=F.trans (I.mono F.size)
    go_wp2_with fail
    go_roundg (n - (k+1))
    case measure=>omega
    case rel=>exact⟨k+1,by omega,by omega,by go_num,by show _=_;rw[QF Y.out,J,←X.out];rfl,I⟩
   ·skip
    go_wp2_with fail
    go_at_fn g
    refine W.out.mono ?_;rintro e w1 ⟨rfl,I⟩;replace I:=F.trans (I.mono F.size)
    go_wp2_with fail
    go_ret
    exact⟨ZH (VR J Y.out X.out.symm).symm,I⟩
  ·obtain rfl:k=n:=by omega
   have HT:=yh (List.take_of_length_le (Nat.le_of_eq HN.out))
   go_wp2_with fail
   go_ret
   exact⟨ZH (by rw[Ud (by rw[←HT.out];exact J)]),F⟩
theorem Xd (A:Option Addr)(n cap:Nat)(l:List Bkg)(g:Nat)(lb:Array Value)(p:Bkg→Bool)(w:World)(h:Sl Vb 11 w All A n cap l)
  (I:∀Q w,(callFunc g Q).run Tryz.prog w=.ok (.enter g Q) w)
  (D:∀(x:Bkg) (v:Value) (w1:World),x∈l→yw w w1→Calls Tryz.prog g (#[.agg (Qz x v)]++lb) w1 fun e w'=>e=.returned (.bool (p x))∧yw w1 w') :
  Calls Tryz.prog 166 #[.slice A n cap,.func (.func g) #[] lb] w fun e w'=>e=.returned (.bool (l.any p))∧yw w w':=by
 have E:=Vma A n cap l g lb p w h I D;clear D
 go_enter Tryz.func166,Tryz.ntmps166
 go_wp2_with fail
 refine E.mono ?_;rintro e w1 ⟨rfl,J⟩;have F:=yh (VD (p:=p) (l:=l));have O:=XL (p:=p) (l:=l) (by have:=h.bd;have:=h.len;omega)
 go_wp2_with fail
 go_ret
 exact⟨ZN F.out,J⟩
theorem XD {x:Sai}{k:Nat}{b:Bkg}(h:x.bks[k]? = some b):Ua x k=if ofE x.ship b≠0 then ofE x.ship b else if 0 < k∧b.id≤(x.bks.getD (k - 1) default).id then 4 else 0:=by
 unfold Ua;rw[List.getD_eq_getElem?_getD,h];rfl
theorem Xxa (x:Sai)(p:SaiV)(w:World)(h:SaiR w x p)(ho:OkShp x.ship) :
  Calls Tryz.prog 80 #[.agg (Qa x p)] w fun e w'=>e=.returned (.int .i64 (Vc x))∧yw w w':=by
 obtain⟨A,n,cap,B,m,ab,D,nd,cd,E,ne,ce,C,F,cb⟩:=p;obtain⟨r,hr⟩:∃r,r=Vc x:=⟨_,rfl⟩;rw[←hr];have HS:=yh h;have hl:Sl Vb 11 w All C F cb x.bks:=h.bks;have hc:Sl Um 2 w All A n cap x.ship.cats:=h.cats;have hd:Sl ZW 4 w All B m ab x.ship.cabs:=h.cabs;have HO:=yh (fun b X n3 Z W h1 h2 h3=>XE x.ship A n cap B m ab b X n3 Z W h1 h2 ho h3);have aN:=hl.bd;obtain⟨fe,U⟩:∃q,q=Qh (Ua x) F:=⟨_,rfl⟩;have HR:=yh (show r=if 16 < F then 2 else if fe≠0 then fe else if x.bks.any (UG x.closed)=true then 4 else 0 by rw[hr,U,←hl.len];rfl);have ar:=yh U;clear U;have HN:=yh hl.len;have HL:=yh hl;have HC:=yh hc;have HD:=yh hd;clear hr h hl hc hd
 go_enter Tryz.func80,Tryz.ntmps80
 go_upto_region 0 with(fail)
 go_cut [1,2] (fun q _ wx=>∃g,q=.pointer (some ⟨g,0,none⟩)∧Blk wx g (Qa x ⟨A,n,cap,B,m,ab,D,nd,cd,E,ne,ce,C,F,cb⟩) 32∧yw w wx)
 case first=>as_aux_lemma=>
  go_wp2_with fail
  go_meet
  exact⟨_,rfl,Za _ _,Qf _ _⟩
 obtain⟨g,rfl,hG,ay⟩:=hcut;have s0:yI wc g 0 x.ship.legs:=hG.cell rfl;have s1:yI wc g 1 x.ship.souls:=hG.cell rfl;have s2:yJ wc g 2 A n cap:=hG.cell rfl;have s3:yJ wc g 3 B m ab:=hG.cell rfl;have s4:yJ wc g 4 D nd cd:=hG.cell rfl;have s5:yI wc g 5 x.fares.alone:=hG.cell rfl;have s6:yI wc g 6 x.fares.third:=hG.cell rfl;have s7:yJ wc g 7 E ne ce:=hG.cell rfl;have s8:yI wc g 8 x.fares.down:=hG.cell rfl;have s9:yI wc g 9 x.day:=hG.cell rfl;have aA:yI wc g 10 x.leaves:=hG.cell rfl;have ag:yJ wc g 11 C F cb:=hG.cell rfl;have aB:wc.cell? ⟨g,12,none⟩=some (.bool x.closed):=hG.cell rfl
 by_cases h16:16 < F
 ·obtain rfl:r=2:=by rw[HR.out,if_pos h16]
  go_wp2_with fail
  go_ret
  exact⟨rfl,ay⟩
 have au:=yh (HR.out.trans (if_neg h16));obtain⟨W0,aG⟩:∃W,W=wc:=⟨_,rfl⟩;subst aG;have HG:=yh hG;clear hG;have al:=yh ay;clear ay
 go_wp2_with fail
 go_loopg [13] F (fun gk i wr=>∃k:Nat,k≤F∧F - k≤gk∧i=.int .i64 k∧Aside (Qh (Ua x) k=0)∧yw W0 wr)
 case atStart=>exact⟨0,Nat.zero_le _,by omega,rfl,rfl,Below.refl _ _⟩
 case round=>
  clear s0 s1 s2 s3 s4 s5 s6 s7 s8 s9 aA ag aB;obtain⟨k,hk,aO,rfl,Y,I⟩:=hrel
  by_cases hlt:k < F
  ·have aV:=al.out.trans (I.mono al.out.size)
   obtain⟨J,O,⟨id,af,ah,ae,lev,aa,ac,ad,upto,ai,aw⟩,X,n3,Z,hA,hx,hF,hI,Q⟩:=(HL.out.bel aV).bkg hlt;subst hA;simp only at hF;have y0:yI wr J (O+k*11) id:=Q 0 _ rfl;have y1:yI wr J (O+k*11+1) af:=Q 1 _ rfl;have y2:yI wr J (O+k*11+2) ah:=Q 2 _ rfl;have y3:yI wr J (O+k*11+3) ae:=Q 3 _ rfl;have y4:wr.cell? ⟨J,O+k*11+4,none⟩=some (.bool lev):=Q 4 _ rfl;have y5:yI wr J (O+k*11+5) aa:=Q 5 _ rfl;have y6:yI wr J (O+k*11+6) ac:=Q 6 _ rfl;have y7:yI wr J (O+k*11+7) ad:=Q 7 _ rfl;have y8:yI wr J (O+k*11+8) upto:=Q 8 _ rfl;have y9:yI wr J (O+k*11+9) ai:=Q 9 _ rfl;have aJ:yJ wr J (O+k*11+10) X n3 Z:=Q 10 _ rfl;clear Q
   go_upto_region 5 with(fail)
   go_cut [3,4] (fun i p1 wx=>∃z,i=.int .i64 k∧p1=.pointer (some ⟨z,0,none⟩)∧Blk wx z (Qz ⟨id,af,ah,ae,lev,aa,ac,ad,upto,ai,aw⟩ (.slice X n3 Z)) 63∧yw wr wx)
   case first=>as_aux_lemma=>
    go_wp2_with fail
    go_meet
    exact⟨_,rfl,rfl,Za _ _,Qf _ _⟩
   obtain⟨z,rfl,rfl,hZ,an⟩:=hcut;clear y0 y1 y2 y3 y4 y5 y6 y7 y8 y9 aJ;replace hF:=hF.bel an;replace I:=I.trans (an.mono I.size);replace aV:=aV.trans (an.mono aV.size);clear an;have hG:=HG.out.bel I;have s0:yI wc g 0 x.ship.legs:=hG.cell rfl;have s1:yI wc g 1 x.ship.souls:=hG.cell rfl;have s2:yJ wc g 2 A n cap:=hG.cell rfl;have s3:yJ wc g 3 B m ab:=hG.cell rfl;have s4:yJ wc g 4 D nd cd:=hG.cell rfl;have s5:yI wc g 5 x.fares.alone:=hG.cell rfl;have s6:yI wc g 6 x.fares.third:=hG.cell rfl;have s7:yJ wc g 7 E ne ce:=hG.cell rfl;have s8:yI wc g 8 x.fares.down:=hG.cell rfl;have s9:yI wc g 9 x.day:=hG.cell rfl;have aA:yI wc g 10 x.leaves:=hG.cell rfl;have ag:yJ wc g 11 (some ⟨J,O,none⟩) F cb:=hG.cell rfl;have aB:wc.cell? ⟨g,12,none⟩=some (.bool x.closed):=hG.cell rfl;have z0:yI wc z 0 id:=hZ.cell rfl;have z1:yI wc z 1 af:=hZ.cell rfl;have z2:yI wc z 2 ah:=hZ.cell rfl;have z3:yI wc z 3 ae:=hZ.cell rfl;have z4:wc.cell? ⟨z,4,none⟩=some (.bool lev):=hZ.cell rfl;have z5:yI wc z 5 aa:=hZ.cell rfl;have z6:yI wc z 6 ac:=hZ.cell rfl;have z7:yI wc z 7 ad:=hZ.cell rfl;have z8:yI wc z 8 upto:=hZ.cell rfl;have z9:yI wc z 9 ai:=hZ.cell rfl;have aK:wc.cell? ⟨z,10,none⟩=some ((.slice X n3 Z)):=hZ.cell rfl;obtain⟨q,hq⟩:∃q,q=ofE x.ship ⟨id,af,ah,ae,lev,aa,ac,ad,upto,ai,aw⟩:=⟨_,rfl⟩;have aq:=yh (HO.out ⟨id,af,ah,ae,lev,aa,ac,ad,upto,ai,aw⟩ X n3 Z wc (HC.out.bel aV) (HD.out.bel aV) hF);have ax:=XD hx;rw[←hq]at aq ax;have aj:=yh ax;clear ax;have HX:=yh hx;clear hx;have HZ:=yh hZ;clear hZ;have HQ:=yh hq;clear hq;clear hF hI hG
   go_wp2_with fail
   refine aq.out.mono ?_;rintro e w3 ⟨rfl,am⟩;replace I:=I.trans (am.mono I.size);replace aV:=aV.trans (am.mono aV.size);have hZ:=HZ.out.bel am;clear am s0 s1 s2 s3 s4 s5 s6 s7 s8 s9 aA ag aB z0 z1 z2 z3 z4 z5 z6 z7 z8 z9 aK aq HZ
   by_cases hq0:q=0
   rotate_left
   ·have U:fe=q:=by rw[ar.out,ZM Y (by rw[aj.out,if_pos hq0];exact hq0) hlt,aj.out,if_pos hq0]
    obtain rfl:r=q:=by rw[au.out,U,if_pos hq0]
    have aM:(r != 0)=true:=by simpa using hq0
    clear hq0 hZ U
    go_wp2_with fail
    go_ret
    exact⟨rfl,aV⟩
   subst hq0;have ak:=yh (aj.out.trans (if_neg (by simp)));have ag:yJ w3 g 11 (some ⟨J,O,none⟩) F cb:=(HG.out.bel I).cell rfl;have z0:yI w3 z 0 id:=hZ.cell rfl;clear hZ aj
   rcases k with _ | j
   ·have HZ:=yh (show Ua x 0=0 by rw[ak.out,if_neg (fun h=>absurd h.1 (Nat.lt_irrefl 0))])
    have V:=yh I;clear I;clear ak
    go_wp2_with fail
    go_quiet (fail)
    go_wp2_with fail
    go_roundg (F - 1)
    case measure=>omega
    case rel=>exact⟨1,by omega,by omega,by first | rfl | go_num,Zu Y HZ.out,by first | exact V.out | exact below_drewN V.out _ | exact V.out.drew⟩
   ·obtain⟨aL,aU,y,A4,n4,c4,aC,hy,_,_,aD⟩:=(HL.out.bel aV).bkg (k:=j) (by omega)
    simp only[Option.some.injEq,Addr.mk.injEq,and_true]at aC;obtain⟨rfl,rfl⟩:=aC;have u0:yI w3 J (O+j*11) y.id:=aD 0 _ rfl
    have aE:(x.bks.getD (j+1 - 1) default).id=y.id:=by rw[Nat.add_sub_cancel,List.getD_eq_getElem?_getD,hy];rfl
    have ao:=yh (ak.out);rw[aE]at ao;have hw:IntKind.i64.wrap (j:Int)=j:=IntWalk.i64_in _ (by omega);have aP:(0:Int)≤(j:Int):=Int.natCast_nonneg _
    have aQ:(j:Int) < (F:Int):=by omega
    have aR:(0:Int) < (j:Int)+1:=by omega
    have aS:decide ((0:Int) < ((j+1:Nat):Int))=true:=by simp
    have V:=yh I;have ap:=yh aV;clear aD hy aE ak aV I
    by_cases hle:id≤y.id
    ·have HV:=yh (show Ua x (j+1)=4 by rw[ao.out,if_pos ⟨Nat.succ_pos _,hle⟩])
     obtain rfl:r=4:=by
      have U:fe=4:=by rw[ar.out,ZM Y (by rw[HV.out];decide) hlt,HV.out]
      rw[au.out,U,if_pos (by decide)]
     go_wp2_with fail
     go_quiet (fail)
     go_wp2_with fail
     go_ret
     exact⟨rfl,by first | exact ap.out | exact below_drewN ap.out _ | exact ap.out.drew⟩
    ·have HV:=yh (show Ua x (j+1)=0 by rw[ao.out,if_neg (fun h=>hle h.2)])
     have aT:y.id < id:=by omega
     clear hle
     go_wp2_with fail
     go_quiet (fail)
     go_wp2_with fail
     go_roundg (F - (j+1+1))
     case measure=>omega
     case rel=>exact⟨j+1+1,by omega,by omega,by go_num,Zu Y HV.out,by first | exact V.out | exact below_drewN V.out _ | exact V.out.drew⟩
  ·obtain rfl:k=F:=by omega
   have aV:=al.out.trans (I.mono al.out.size);have hG:=HG.out.bel I;have ag:yJ wr g 11 C k cb:=hG.cell rfl;have av:=yh (show r=if x.bks.any (UG x.closed)=true then 4 else 0 by rw[au.out,if_neg (by rw[ar.out,show Qh (Ua x) k=0 from Y];simp)]);obtain⟨q,hq⟩:∃q,q=x.bks.any (UG x.closed):=⟨_,rfl⟩;have az:=Xd C k cb x.bks 167 #[.pointer (some ⟨g,0,none⟩)] (UG x.closed) wr (HL.out.bel aV) (enters_of Tryz.func167 (by kernel_rfl) rfl) (fun b v w1 _ aH=>Qac b v x.closed g w1 ((hG.bel aH).cell rfl));rw[←hq]at av az;have aF:=yh az;clear az;clear hq hG Y
   go_wp2_with fail
   refine aF.out.mono ?_;rintro e w4 ⟨rfl,aI⟩;replace aV:=aV.trans (aI.mono aV.size)
   cases q
   ·obtain rfl:r=0:=av.out
    go_wp2_with fail
    go_ret
    exact⟨rfl,aV⟩
   ·obtain rfl:r=4:=av.out
    go_wp2_with fail
    go_ret
    exact⟨rfl,aV⟩
def Apart (v u:Value):Prop:=∀k,v.ownBlock=some k→u.ownBlock≠some k
theorem Apart.symm {v u:Value}(h:Apart v u):Apart u v:=fun k A D=>h k D A
theorem Apart.nilL (u:Value):Apart (.slice none 0 0) u:=fun k A=>by simp[Value.ownBlock]at A
theorem Apart.step {v u A:Value}{w:World}(h:Apart v u)(I:∀k,v.ownBlock=some k→k < w.heap.size)(F:A.ownBlock=u.ownBlock∨A.ownBlock=some w.heap.size):Apart v A:=fun k E=>by
 rcases F with e | e
 ·rw[e];exact h k E
 ·rw[e];intro D;injection D with D;have:=I k E;omega
theorem Own.grownF {α:Type}{c:Cod α}{size:Nat}{e:TypeId}{w w':World}{base:Nat}{v u:Value}{l:List α}{xs:List Value}(V:VV c)(h:Own c size e w base v l xs)(W:w.grownBy w' u.ownBlock)(O:Apart v u):Own c size e w' base v l xs:=by
 refine⟨⟨h.row.1,?_⟩,fun i x X=>?_⟩
 ·rcases h.row.2 with J | ⟨g,cap,F,D,Q,A,r⟩
  ·exact .inl J
  ·refine .inr ⟨g,cap,F,D,Q,(W.block g (Array.getElem?_eq_some_iff.1 A).1 ?_).trans A,r⟩
   intro I;exact O g (by rw[D];rfl) I.symm
 ·obtain⟨E,U,r⟩:=h.el i x X
  exact⟨E,V _ _ _ _ _ _ U,r⟩
def Uw (x:Sai) (b:Bkg) (j:Nat):List Int:=((List.range j).filter (fun c:Nat=>Zp x.ship b (c:Int) && QR x.bks c)).map Int.ofNat
theorem XGa (x:Sai)(b:Bkg):Uj x b=Uw x b x.ship.cabs.length:=rfl
theorem V7a (x:Sai)(b:Bkg)(j:Nat):Uw x b (j+1)=Uw x b j++(if (Zp x.ship b j && QR x.bks j)=true then [(j:Int)]else []):=by
 unfold Uw;rw[List.range_succ,List.filter_append,List.map_append]
 congr 1
 cases h:(Zp x.ship b j && QR x.bks j)<;>simp[List.filter,h]
theorem UTa (x:Sai)(b:Bkg)(j:Nat):(Uw x b j).length≤j:=by
 unfold Uw;rw[List.length_map];have:=List.length_filter_le (fun c:Nat=>Zp x.ship b (c:Int) && QR x.bks c) (List.range j)
 rwa [List.length_range]at this
def toE (i:Nat) (l:List Int):List Edg:=l.map (fun c=>⟨i,c⟩)
theorem Uvb (i:Nat)(l k:List Int):toE i (l++k)=toE i l++toE i k:=List.map_append
theorem Zea (x:Sai):∀(l:List Bkg) (b:Bkg) (i:Nat),Zs x (l++[b]) i=Zs x l i++toE (i+l.length) (Uj x b)
 | [],b,i=>by simp[Zs,toE]
 | a::l,b,i=>by
  rw[List.cons_append]
  show(Uj x a).map _++Zs x (l++[b]) (i+1)=((Uj x a).map _++Zs x l (i+1))++_
  rw[Zea x l b (i+1),List.append_assoc,List.length_cons,show i+1+l.length=i+(l.length+1)by omega]
theorem Yi (x:Sai):∀(l:List Bkg) (i:Nat),(Zs x l i).length≤l.length*x.ship.cabs.length
 | [],_=>by simp[Zs]
 | a::l,i=>by
  have D:=Yi x l (i+1);have A:=UTa x a x.ship.cabs.length;rw[←XGa]at A
  show((Uj x a).map _++Zs x l (i+1)).length≤_
  rw[List.length_append,List.length_map,List.length_cons,Nat.add_mul];omega
def QV (x:Sai) (k:Nat):List Bkg:=(x.bks.take k).filter QI
theorem UV {x:Sai}{k:Nat}{b:Bkg}(h:x.bks[k]? = some b):QV x (k+1)=QV x k++(if QI b=true then [b]else []):=by
 unfold QV;rw[Qn h,List.filter_append]
 congr 1
 cases h:QI b<;>simp[List.filter,h]
theorem Xba (x:Sai)(k:Nat):(QV x k).length≤k:=by
 unfold QV;have:=List.length_filter_le QI (x.bks.take k);rw[List.length_take]at this;omega
theorem Xs {x:Sai}{k:Nat}(h:x.bks.length=k):QV x k=QJ x:=by
 unfold QV QJ;rw[List.take_of_length_le (by omega)]
theorem YQa {x:Sai}{b:Bkg}(h:OkBk x.ship b)(D:QI b=true):0≤b.cat∧b.cat < x.ship.cats.length:=by
 unfold QI at D;simp only[Bool.and_eq_true,decide_eq_true_iff]at D;have A:=h.kindE;unfold kindE at A;rw[if_pos D.1]at A;unfold QTa at A
 by_cases h2:Qc b.cat 0 ((x.ship.cats.length:Int) - 1)=false
 ·rw[if_pos h2]at A;omega
 ·have E:=Qj.1 (Ue h2)
  omega
theorem XDa (x:Sai):ZNa (Z5 x).length x.ship.cabs.length (Zd x):=by
 have I:∀(l:List Bkg) (i:Nat),∀e∈Zs x l i,(i:Int)≤e.lft∧e.lft < (i+l.length:Nat)∧0≤e.rgt∧e.rgt < x.ship.cabs.length:=by
  intro l
  induction l with
  | nil=>intro i e A;simp[Zs]at A
  | cons a l ih=>
   intro i e A
   rcases List.mem_append.1 A with A | A
   ·obtain⟨c,D,rfl⟩:=List.mem_map.1 A
    unfold Uj at D;obtain⟨d,F,E⟩:=List.mem_map.1 D;subst E;replace D:=F;have:=List.mem_range.1 (List.mem_filter.1 D).1;simp only[List.length_cons,Int.ofNat_eq_natCast];omega
   ·have:=ih (i+1) e A
    rw[List.length_cons];omega
 intro e A;have:=I (QJ x) 0 e A;unfold Z5;rw[List.length_map];simp only[Nat.zero_add]at this;exact⟨by omega,this.2.1,this.2.2.1,this.2.2.2⟩
theorem ZZa (x:Sai):(Z5 x).length≤x.bks.length:=by
 unfold Z5 QJ;rw[List.length_map];exact List.length_filter_le _ _
theorem Ura (x:Sai)(p:SaiV)(w:World)(h:SaiR w x p)(ho:OkShp x.ship)(hk:∀b∈x.bks,OkBk x.ship b)(a9:x.bks.length≤16) :
  Calls Tryz.prog 111 #[.agg (Qa x p)] w fun e w'=>∃v1 v2 al ac,e=.returned (.tuple #[v1,v2])∧Own QL 1 3 w' w.heap.size v1 (Z5 x) al∧Own UM 2 94 w' w.heap.size v2 (Zd x) ac∧yw w w':=by
 obtain⟨A,n,cap,B,m,av,D,nd,cd,E,ne,ce,C,nb,cb⟩:=p;have hl:Sl Vb 11 w All C nb cb x.bks:=h.bks;have hc:Sl Um 2 w All A n cap x.ship.cats:=h.cats;have hd:Sl ZW 4 w All B m av x.ship.cabs:=h.cabs;have bj:=yh (fun b v (k:Nat) W h1 h2 h3 h4 h5=>Qqa x.ship A n cap B m av b v k W h1 h2 ho h3 h4 h5);have HN:=yh hl.len
 have bL:nb≤16:=by rw[←hl.len];exact a9
 have bz:m≤12:=by rw[←hd.len];exact ho.cabs12
 have bm:=yh hc.len;have HM:=yh hd.len;have HL:=yh hl;have HC:=yh hc;have HD:=yh hd;have HK:=yh hk;clear hk;clear h hl hc hd a9
 go_enter Tryz.func111,Tryz.ntmps111
 go_upto_region 0 with(fail)
 go_cut [1,2,3] (fun q _ _ wx=>∃g,q=.pointer (some ⟨g,0,none⟩)∧Blk wx g (Qa x ⟨A,n,cap,B,m,av,D,nd,cd,E,ne,ce,C,nb,cb⟩) 32∧yw w wx)
 case first=>as_aux_lemma=>
  go_wp2_with fail
  go_meet
  exact⟨_,rfl,Za _ _,Qf _ _⟩
 obtain⟨g,rfl,hG,bb⟩:=hcut;have ak:yJ wc g 11 C nb cb:=hG.cell rfl;obtain⟨W0,bu⟩:∃W,W=wc:=⟨_,rfl⟩;subst bu;have bE:=yh hG.lt;have HG:=yh hG;clear hG;have ai:=yh bb;clear bb
 go_wp2_with fail
 go_loopg [4,5,12] nb (fun gk v1 v2 i wr=>∃(k:Nat) (al ac:List Value),k≤nb∧nb - k≤gk∧i=.int .i64 k∧Own QL 1 3 wr W0.heap.size v1 ((QV x k).map (·.id)) al∧Own UM 2 94 wr W0.heap.size v2 (Zs x (QV x k) 0) ac∧Apart v1 v2∧yw W0 wr)
 case atStart=>exact⟨0,[],[],Nat.zero_le _,by omega,rfl,Own.nil _ _ _ _ _,Own.nil _ _ _ _ _,Apart.nilL _,Below.refl _ _⟩
 case round=>
  clear ak;obtain⟨k,al,ac,hk,bI,rfl,I,F,aj,hb⟩:=hrel;obtain⟨A1,n1,c1,rfl,a0⟩:=I.sl Qb;obtain⟨A2,n2,c2,rfl,bf⟩:=F.sl Qx
  by_cases hlt:k < nb
  ·have aY:n1=(QV x k).length:=by have:=a0.len;rw[List.length_map]at this;exact this.symm
   have bR:=ai.out.trans (hb.mono ai.out.size);obtain⟨ab,aa,⟨id,V,bQ,U,lev,J,O,Q,upto,X,Z⟩,A3,n3,c3,hA,hx,hF,hI,ad⟩:=(HL.out.bel bR).bkg hlt;subst hA;simp only at hF;have y0:yI wr ab (aa+k*11) id:=ad 0 _ rfl;have y1:yI wr ab (aa+k*11+1) V:=ad 1 _ rfl;have y2:yI wr ab (aa+k*11+2) bQ:=ad 2 _ rfl;have y3:yI wr ab (aa+k*11+3) U:=ad 3 _ rfl;have y4:wr.cell? ⟨ab,aa+k*11+4,none⟩=some (.bool lev):=ad 4 _ rfl;have y5:yI wr ab (aa+k*11+5) J:=ad 5 _ rfl;have y6:yI wr ab (aa+k*11+6) O:=ad 6 _ rfl;have y7:yI wr ab (aa+k*11+7) Q:=ad 7 _ rfl;have y8:yI wr ab (aa+k*11+8) upto:=ad 8 _ rfl;have y9:yI wr ab (aa+k*11+9) X:=ad 9 _ rfl;have bD:yJ wr ab (aa+k*11+10) A3 n3 c3:=ad 10 _ rfl;clear ad
   go_upto_region 5 with(fail)
   go_cut [7] (fun p1 wx=>∃z,p1=.pointer (some ⟨z,0,none⟩)∧wr.heap.size≤z∧Blk wx z (Qz ⟨id,V,bQ,U,lev,J,O,Q,upto,X,Z⟩ (.slice A3 n3 c3)) 63∧yw wr wx)
   case first=>as_aux_lemma=>
    go_wp2_with fail
    go_meet
    exact⟨_,rfl,Nat.le_refl _,Za _ _,Qf _ _⟩
   obtain⟨z,rfl,bO,hZ,aH⟩:=hcut;clear y0 y1 y2 y3 y4 y5 y6 y7 y8 y9 bD a0 bf hF;have bc:=I.lt;have bd:=F.lt
   have bh:(Value.slice A1 n1 c1).ownBlock≠some z:=fun e=>by have:=(bc z e).2;omega
   have bi:(Value.slice A2 n2 c2).ownBlock≠some z:=fun e=>by have:=(bd z e).2;omega
   replace I:=I.bel aH;replace F:=F.bel aH;replace hb:=hb.trans (aH.mono hb.size);have aI:=UV hx;have bA:=Xba x k;have bn:=yh (HK.out _ (List.mem_of_getElem? hx));obtain⟨q,hq⟩:∃q,q=QI ⟨id,V,bQ,U,lev,J,O,Q,upto,X,Z⟩:=⟨_,rfl⟩;have ar:=yh (fun W=>Yhb ⟨id,V,bQ,U,lev,J,O,Q,upto,X,Z⟩ (.slice A3 n3 c3) W);rw[←hq]at ar aI;obtain⟨Y,ba⟩:∃Y,Y=QV x k:=⟨_,rfl⟩;rw[←ba]at I F aY bA aI;have a5:=yh aI;clear aI;have HQ:=yh hq;clear hq;have bl:=yh aY;clear aY;have aW:=hI.id;simp only at aW;have bw:=yh aW;have z0:yI wc z 0 id:=hZ.cell rfl;have z1:yI wc z 1 V:=hZ.cell rfl;have z2:yI wc z 2 bQ:=hZ.cell rfl;have z3:yI wc z 3 U:=hZ.cell rfl;have z4:wc.cell? ⟨z,4,none⟩=some (.bool lev):=hZ.cell rfl;have z5:yI wc z 5 J:=hZ.cell rfl;have z6:yI wc z 6 O:=hZ.cell rfl;have z7:yI wc z 7 Q:=hZ.cell rfl;have z8:yI wc z 8 upto:=hZ.cell rfl;have z9:yI wc z 9 X:=hZ.cell rfl;have ay:wc.cell? ⟨z,10,none⟩=some ((.slice A3 n3 c3)):=hZ.cell rfl;have ae:=yh I;clear I;have af:=yh F;clear F;have am:=yh aj;clear aj;have bG:=yh bh;clear bh;have bs:=yh bi;clear bi;clear hx hI aH ba bc bd aW bR
   go_wp2_with fail
   refine(ar.out _).mono ?_;rintro e w3 ⟨rfl,aC⟩;replace hb:=hb.trans (aC.mono hb.size);have hZ:=hZ.bel aC;have I:=ae.out.bel aC;have F:=af.out.bel aC;have bP:=hZ.lt;clear aC z0 z1 z2 z3 z4 z5 z6 z7 z8 z9 ay ar ae af
   cases q
   ·have HV:=yh (a5.out.trans (by simp:_=Y))
    have ae:=yh I;clear I;have af:=yh F;clear F;clear hZ
    go_wp2_with fail
    go_roundg (nb - (k+1))
    case measure=>omega
    case rel=>exact⟨k+1,al,ac,by omega,by omega,by go_num,by rw[HV.out];exact ae.out,by rw[HV.out];exact af.out,am.out,hb⟩
   ·have HV:=yh (a5.out.trans (by simp:_=Y++[⟨id,V,bQ,U,lev,J,O,Q,upto,X,Z⟩]))
    have a4:=yh (YQa bn.out HQ.out.symm);have hG:=HG.out.bel hb;have s3:yJ w3 g 3 B m av:=hG.cell rfl;obtain⟨ln,aX⟩:∃ln:Nat,ln=n1:=⟨_,rfl⟩;have a7:=yh (aX.trans bl.out);have bk:=yh aX;have ae:=yh I;clear I;have af:=yh F;clear F;have HZ:=yh hZ;clear hZ;have HB:=yh hb;clear hb;clear hG aX
    go_wp2_with fail
    go_loopg [5,23] m (fun bt v2 i aL=>∃(j:Nat) (ac:List Value),j≤m∧m - j≤bt∧i=.int .i64 j∧Own QL 1 3 aL W0.heap.size (.slice A1 n1 c1) (Y.map (·.id)) al∧Own UM 2 94 aL W0.heap.size v2 (Zs x Y 0++toE Y.length (Uw x ⟨id,V,bQ,U,lev,J,O,Q,upto,X,Z⟩ j)) ac∧Apart (.slice A1 n1 c1) v2∧v2.ownBlock≠some z∧Blk aL z (Qz ⟨id,V,bQ,U,lev,J,O,Q,upto,X,Z⟩ (.slice A3 n3 c3)) 63∧yw W0 aL)
    case atStart=>exact⟨0,_,Nat.zero_le _,by omega,rfl,ae.out,by show Own _ _ _ _ _ _ (_++[]) _;rw[List.append_nil];exact af.out,am.out,bs.out,HZ.out,HB.out⟩
    case round=>
     clear s3;obtain⟨j,ac,hj,bH,rfl,I,F,aj,aZ,hZ,hb⟩:=hrel;obtain⟨A4,n4,c4,rfl,a1⟩:=F.sl Qx
     have bK:n4≤1000:=by
      have h1:=a1.len;have h2:=Yi x Y 0;have h3:=UTa x ⟨id,V,bQ,U,lev,J,O,Q,upto,X,Z⟩ j;have h4:Y.length*x.ship.cabs.length≤16*12:=Nat.mul_le_mul (by omega) (by rw[HM.out];exact bz);rw[List.length_append]at h1;unfold toE at h1;rw[List.length_map]at h1;omega
     by_cases hlj:j < m
     ·have bR:=ai.out.trans (hb.mono ai.out.size)
      have hG:=HG.out.bel hb;have s0:yI wr g 0 x.ship.legs:=hG.cell rfl;have s1:yI wr g 1 x.ship.souls:=hG.cell rfl;have s2:yJ wr g 2 A n cap:=hG.cell rfl;have s3:yJ wr g 3 B m av:=hG.cell rfl;have s4:yJ wr g 4 D nd cd:=hG.cell rfl;have s5:yI wr g 5 x.fares.alone:=hG.cell rfl;have s6:yI wr g 6 x.fares.third:=hG.cell rfl;have s7:yJ wr g 7 E ne ce:=hG.cell rfl;have s8:yI wr g 8 x.fares.down:=hG.cell rfl;have s9:yI wr g 9 x.day:=hG.cell rfl;have aJ:yI wr g 10 x.leaves:=hG.cell rfl;have ak:yJ wr g 11 (some ⟨ab,aa,none⟩) nb cb:=hG.cell rfl;have aK:wr.cell? ⟨g,12,none⟩=some (.bool x.closed):=hG.cell rfl;have z0:yI wr z 0 id:=hZ.cell rfl;have z1:yI wr z 1 V:=hZ.cell rfl;have z2:yI wr z 2 bQ:=hZ.cell rfl;have z3:yI wr z 3 U:=hZ.cell rfl;have z4:wr.cell? ⟨z,4,none⟩=some (.bool lev):=hZ.cell rfl;have z5:yI wr z 5 J:=hZ.cell rfl;have z6:yI wr z 6 O:=hZ.cell rfl;have z7:yI wr z 7 Q:=hZ.cell rfl;have z8:yI wr z 8 upto:=hZ.cell rfl;have z9:yI wr z 9 X:=hZ.cell rfl;have ay:wr.cell? ⟨z,10,none⟩=some ((.slice A3 n3 c3)):=hZ.cell rfl;have bN:=hZ.lt
      go_upto_region 9 with(fail)
      go_cut [8] (fun p1 wx=>∃y,p1=.pointer (some ⟨y,0,none⟩)∧wr.heap.size≤y∧Blk wx y #[.int .i64 (j:Int)] 3∧yw wr wx)
      case first=>as_aux_lemma=>
       clear s0 s1 s2 s3 s4 s5 s6 s7 s8 s9 aJ ak aK z0 z1 z2 z3 z4 z5 z6 z7 z8 z9 ay
       go_wp2_with fail
       go_meet
       exact⟨_,rfl,Nat.le_refl _,Za _ _,Qf _ _⟩
      obtain⟨y,rfl,bM,hY,ao⟩:=hcut;have be:=F.lt
      have bg:(Value.slice A4 n4 c4).ownBlock≠some y:=fun e=>by have:=(be y e).2;omega
      replace I:=I.bel ao;replace F:=F.bel ao;replace hb:=hb.trans (ao.mono hb.size);replace bR:=bR.trans (ao.mono bR.size);replace hG:=hG.bel ao;replace hZ:=hZ.bel ao;clear ao s0 s1 s2 s3 s4 s5 s6 s7 s8 s9 aJ ak aK z0 z1 z2 z3 z4 z5 z6 z7 z8 z9 ay a1 be;have s0:yI wc g 0 x.ship.legs:=hG.cell rfl;have s1:yI wc g 1 x.ship.souls:=hG.cell rfl;have s2:yJ wc g 2 A n cap:=hG.cell rfl;have s3:yJ wc g 3 B m av:=hG.cell rfl;have s4:yJ wc g 4 D nd cd:=hG.cell rfl;have s5:yI wc g 5 x.fares.alone:=hG.cell rfl;have s6:yI wc g 6 x.fares.third:=hG.cell rfl;have s7:yJ wc g 7 E ne ce:=hG.cell rfl;have s8:yI wc g 8 x.fares.down:=hG.cell rfl;have s9:yI wc g 9 x.day:=hG.cell rfl;have aJ:yI wc g 10 x.leaves:=hG.cell rfl;have ak:yJ wc g 11 (some ⟨ab,aa,none⟩) nb cb:=hG.cell rfl;have aK:wc.cell? ⟨g,12,none⟩=some (.bool x.closed):=hG.cell rfl;have z0:yI wc z 0 id:=hZ.cell rfl;have z1:yI wc z 1 V:=hZ.cell rfl;have z2:yI wc z 2 bQ:=hZ.cell rfl;have z3:yI wc z 3 U:=hZ.cell rfl;have z4:wc.cell? ⟨z,4,none⟩=some (.bool lev):=hZ.cell rfl;have z5:yI wc z 5 J:=hZ.cell rfl;have z6:yI wc z 6 O:=hZ.cell rfl;have z7:yI wc z 7 Q:=hZ.cell rfl;have z8:yI wc z 8 upto:=hZ.cell rfl;have z9:yI wc z 9 X:=hZ.cell rfl;have ay:wc.cell? ⟨z,10,none⟩=some ((.slice A3 n3 c3)):=hZ.cell rfl;have u0:yI wc y 0 (j:Int):=hY.cell rfl;have aE:=V7a x ⟨id,V,bQ,U,lev,J,O,Q,upto,X,Z⟩ j;have aV:=bj.out ⟨id,V,bQ,U,lev,J,O,Q,upto,X,Z⟩ (.slice A3 n3 c3) j wc (HC.out.bel bR) (HD.out.bel bR) hlj a4.out.1 (by have:=a4.out.2;rwa [bm.out]at this);obtain⟨f,hf⟩:∃f,f=Zp x.ship ⟨id,V,bQ,U,lev,J,O,Q,upto,X,Z⟩ (j:Int):=⟨_,rfl⟩;rw[←hf]at aV aE;obtain⟨a,ha⟩:∃a,a=x.bks.any (Uv (j:Int)):=⟨_,rfl⟩
      replace aE:Uw x ⟨id,V,bQ,U,lev,J,O,Q,upto,X,Z⟩ (j+1)=Uw x ⟨id,V,bQ,U,lev,J,O,Q,upto,X,Z⟩ j++(if (f && !a)=true then [(j:Int)]else []):=by rw[aE,ha];rfl
      have ax:=fun W (hW:yw wc W)=>Xd (some ⟨ab,aa,none⟩) nb cb x.bks 192 #[.pointer (some ⟨y,0,none⟩)] (Uv (j:Int)) W (HL.out.bel (bR.trans (hW.mono bR.size))) (enters_of Tryz.func192 (by kernel_rfl) rfl) (fun b v w1 _ bv=>XHb b v (j:Int) y w1 (((hY.bel hW).bel bv).cell rfl))
      rw[←ha]at ax;have aP:=yh aE;clear aE;have ar:=yh aV;clear aV;have a2:=yh ax;clear ax;have ae:=yh I;clear I;have af:=yh F;clear F;have am:=yh aj;clear aj;have aF:=yh aZ;clear aZ;have bF:=yh bg;clear bg;clear hf ha
      go_wp2_with fail
      refine ar.out.mono ?_;rintro e w5 ⟨rfl,ah⟩;have ax:=a2.out _ ah;replace hb:=hb.trans (ah.mono hb.size);replace bR:=bR.trans (ah.mono bR.size);replace hG:=hG.bel ah;replace hZ:=hZ.bel ah;replace hY:=hY.bel ah;have I:=ae.out.bel ah;have F:=af.out.bel ah;have az:=yh I;clear I;have aA:=yh F;clear F;have a3:=yh ax;clear ax;clear ah s0 s1 s2 s3 s4 s5 s6 s7 s8 s9 aJ ak aK z0 z1 z2 z3 z4 z5 z6 z7 z8 z9 ay u0 ar ae af a2;have ak:yJ w5 g 11 (some ⟨ab,aa,none⟩) nb cb:=hG.cell rfl
      cases f
      ·have aB:=yh (show Uw x ⟨id,V,bQ,U,lev,J,O,Q,upto,X,Z⟩ (j+1)=Uw x ⟨id,V,bQ,U,lev,J,O,Q,upto,X,Z⟩ j by rw[aP.out];simp)
       have a6:=yh hG;clear hG;have au:=yh hZ;clear hZ;clear hY
       go_wp2_with fail
       go_roundg (m - (j+1))
       case measure=>omega
       case rel=>exact⟨j+1,ac,by omega,by omega,by go_num,az.out,by rw[aB.out];exact aA.out,am.out,aF.out,au.out,hb⟩
      ·skip
       have a6:=yh hG;clear hG;have au:=yh hZ;clear hZ;have a8:=yh hY;clear hY
       go_wp2_with fail
       refine a3.out.mono ?_;rintro e w6 ⟨rfl,aw⟩;replace hb:=hb.trans (aw.mono hb.size);have hZ:=au.out.bel aw;have hY:=a8.out.bel aw;have I:=az.out.bel aw;have F:=aA.out.bel aw;clear aw ak a3 az aA a6 au a8;have u0:yI w6 y 0 (j:Int):=hY.cell rfl
       cases a
       rotate_left
       ·have aB:=yh (show Uw x ⟨id,V,bQ,U,lev,J,O,Q,upto,X,Z⟩ (j+1)=Uw x ⟨id,V,bQ,U,lev,J,O,Q,upto,X,Z⟩ j by rw[aP.out];simp)
        have az:=yh I;clear I;have aA:=yh F;clear F;have au:=yh hZ;clear hZ;clear hY
        go_wp2_with fail
        go_roundg (m - (j+1))
        case measure=>omega
        case rel=>exact⟨j+1,ac,by omega,by omega,by go_num,az.out,by rw[aB.out];exact aA.out,am.out,aF.out,au.out,hb⟩
       ·have aB:=yh (show Zs x Y 0++toE Y.length (Uw x ⟨id,V,bQ,U,lev,J,O,Q,upto,X,Z⟩ (j+1))=(Zs x Y 0++toE Y.length (Uw x ⟨id,V,bQ,U,lev,J,O,Q,upto,X,Z⟩ j))++[⟨(ln:Int),(j:Int)⟩]by
         rw[aP.out,if_pos (by rfl),Uvb,←List.append_assoc,a7.out];rfl)
        have bx:ln=n1:=bk.out
        have bJ:ln≤16:=by have:=a7.out;omega
        subst bx;have aQ:=I.bel (Qf w6 (.cells #[.int .i64 (ln:Int),.int .i64 (j:Int)] 94));have an:=F.bel (Qf w6 (.cells #[.int .i64 (ln:Int),.int .i64 (j:Int)] 94));have aS:=hZ.bel (Qf w6 (.cells #[.int .i64 (ln:Int),.int .i64 (j:Int)] 94));have bC:=hb.size
        have aD:W0.heap.size≤(w6.alloc (.cells #[.int .i64 (ln:Int),.int .i64 (j:Int)] 94)).heap.size:=by simp;omega
        have aU:((Zs x Y 0++toE Y.length (Uw x ⟨id,V,bQ,U,lev,J,O,Q,upto,X,Z⟩ j)).length+1)*16≤140737488355328:=by
         obtain⟨_,_,_,he,bB⟩:=F.sl Qx;simp only[Value.slice.injEq]at he;have:=bB.len;omega
        have aM:=yh (hb.alloc hb.size (.cells #[.int .i64 (ln:Int),.int .i64 (j:Int)] 94))
        have aO:=yh (fun(v':Value) (w':World) (aq:List Value) (ap:Own UM 2 94 w' W0.heap.size v' ((Zs x Y 0++toE Y.length (Uw x ⟨id,V,bQ,U,lev,J,O,Q,upto,X,Z⟩ j))++[⟨(ln:Int),(j:Int)⟩]) aq) (ag:(w6.alloc (.cells #[.int .i64 (ln:Int),.int .i64 (j:Int)] 94)).grownBy w' (Value.slice A4 n4 c4).ownBlock) (aG:v'.ownBlock=(Value.slice A4 n4 c4).ownBlock∨v'.ownBlock=some (w6.alloc (.cells #[.int .i64 (ln:Int),.int .i64 (j:Int)] 94)).heap.size)=>
         (⟨Own.grownF ZD aQ ag am.out,Apart.step am.out (fun k hk=>(aQ.lt k hk).2) aG,(show v'.ownBlock≠some z from by
          rcases aG with e | e
          ·rw[e];exact aF.out
          ·rw[e];intro h2;injection h2 with h2;have:=aS.lt;omega),Blk.grown aS ag (fun e=>aF.out e.symm),QP aM.out an ag aD⟩:Own QL 1 3 w' W0.heap.size (.slice A1 ln c1) (Y.map (·.id)) al∧Apart (.slice A1 ln c1) v'∧v'.ownBlock≠some z∧Blk w' z (Qz ⟨id,V,bQ,U,lev,J,O,Q,upto,X,Z⟩ (.slice A3 n3 c3)) 63∧yw W0 w'))
        have bo:=yh (Zpb w6 All (ln:Int) (j:Int) 94 (.of (by omega) (by omega)) (.of (by omega) (by omega)) trivial);have aN:=yh an;clear I F hZ hY aQ an aS hb
        go_wp2_with (at_builtin;refine QC (t:=74) (e:=94) (bytes:=16) rfl (.tmp 38) (.tmp 43) rfl UIa Qx rfl aN.out rfl bo.out (fun _ _ hc=>hc) aU (by omega) aD ?_;intro v' w' aq ap ag aT)
        obtain⟨p1,p2,p3,p4,p5⟩:=aO.out _ _ _ ap ag aT
        go_roundg (m - (j+1))
        case measure=>omega
        case rel=>exact⟨j+1,aq,by omega,by omega,by go_num,p1,by rw[aB.out];exact ap,p2,p3,p4,p5⟩
     ·obtain rfl:j=m:=by omega
      have bq:=yh (show Zs x (QV x (k+1)) 0=Zs x Y 0++toE Y.length (Uw x ⟨id,V,bQ,U,lev,J,O,Q,upto,X,Z⟩ j)by rw[HV.out,Zea,Nat.zero_add,XGa,HM.out]);have br:=yh (show(QV x (k+1)).map (·.id)=Y.map (·.id)++[id]by rw[HV.out,List.map_append];rfl);have z0:yI wr z 0 id:=hZ.cell rfl;have an:=I.bel (Qf wr (.cells #[.int .i64 id] 3));have aR:=F.bel (Qf wr (.cells #[.int .i64 id] 3));have bC:=hb.size
      have aD:W0.heap.size≤(wr.alloc (.cells #[.int .i64 id] 3)).heap.size:=by simp;omega
      have aU:((Y.map (·.id)).length+1)*8≤140737488355328:=by rw[List.length_map];omega
      have aM:=yh (hb.alloc hb.size (.cells #[.int .i64 id] 3))
      have aO:=yh (fun(v':Value) (w':World) (aq:List Value) (ap:Own QL 1 3 w' W0.heap.size v' (Y.map (·.id)++[id]) aq) (ag:(wr.alloc (.cells #[.int .i64 id] 3)).grownBy w' (Value.slice A1 n1 c1).ownBlock) (aG:v'.ownBlock=(Value.slice A1 n1 c1).ownBlock∨v'.ownBlock=some (wr.alloc (.cells #[.int .i64 id] 3)).heap.size)=>
       (⟨Own.grownF Xk aR ag aj.symm,(Apart.step aj.symm (fun k hk=>(aR.lt k hk).2) aG).symm,QP aM.out an ag aD⟩:Own UM 2 94 w' W0.heap.size (.slice A4 n4 c4) (Zs x Y 0++toE Y.length (Uw x ⟨id,V,bQ,U,lev,J,O,Q,upto,X,Z⟩ j)) ac∧Apart v' (.slice A4 n4 c4)∧yw W0 w'))
      have bp:=yh (Zsa wr All id 3 bw.out trivial);have aN:=yh an;clear I F hZ an aR hb a1 aj aZ
      go_wp2_with (at_builtin;refine QC (t:=70) (e:=3) (bytes:=8) rfl (.tmp 46) (.tmp 49) rfl Ur Qb rfl aN.out rfl bp.out (fun _ _ hc=>hc) aU (by omega) aD ?_;intro v' w' aq ap ag aT)
      obtain⟨p1,p2,p3⟩:=aO.out _ _ _ ap ag aT
      go_roundg (nb - (k+1))
      case measure=>omega
      case rel=>exact⟨k+1,aq,ac,by omega,by omega,by go_num,by rw[br.out];exact ap,by rw[bq.out];exact p1,p2,p3⟩
  ·obtain rfl:k=nb:=by omega
   rw[Xs HN.out]at I F;have ae:=yh (I.mono Qb ai.out.size);have af:=yh (F.mono Qx ai.out.size);clear I F a0 bf
   go_wp2_with fail
   go_ret2
   exact⟨_,_,al,ac,rfl,ae.out,af.out,ai.out.trans (hb.mono ai.out.size)⟩
theorem QAb {x:Sai}(Q:OkShp x.ship)(h:Vc x=0):OkBs x:=by
 unfold Vc at h
 by_cases h1:16 < x.bks.length
 ·rw[if_pos h1]at h;omega
 rw[if_neg h1]at h
 by_cases E:Qh (Ua x) x.bks.length≠0
 ·rw[if_pos E]at h;exact absurd h E
 rw[if_neg E]at h;have E:Qh (Ua x) x.bks.length=0:=Decidable.not_not.1 E
 have J:∀i b,x.bks[i]? = some b→ofE x.ship b=0∧¬(0 < i∧b.id≤(x.bks.getD (i - 1) default).id):=fun i b D=>by
  have A:=UA E i (List.getElem?_eq_some_iff.1 D).1;rw[XD D]at A
  by_cases F:ofE x.ship b≠0
  ·rw[if_pos F]at A;exact absurd A F
  ·rw[if_neg F]at A
   refine⟨Decidable.not_not.1 F,fun O=>?_⟩;rw[if_pos O]at A;omega
 refine⟨Q,fun b D=>?_,by omega,fun i I=>?_,?_⟩
 ·obtain⟨i,I⟩:=List.getElem?_of_mem D
  exact UAa (J i b I).1
 ·have D:x.bks[i+1]? = some x.bks[i+1]:=List.getElem?_eq_getElem I
  have A:=(J (i+1) _ D).2;rw[Nat.add_sub_cancel]at A
  have F:x.bks.getD (i+1) default=x.bks[i+1]:=by rw[List.getD_eq_getElem?_getD,D];rfl
  rw[F];omega
 ·cases hq:x.bks.any (UG x.closed)with
  | false=>rfl
  | true=>rw[if_pos hq]at h;omega
theorem Uva {left right:Nat}{l:List Edg}{E:List Int}{no:List Nat}{D:Nat→Prop}(h:Asked (Ux l) right (fun x=>x < left) E no D)(A:ZNa left right l):Z9 left l=decide (no.length=0):=by
 by_cases h0:no.length=0
 ·rw[decide_eq_true h0]
  have:=h.best (QOa A);exact Xf ⟨_,h.isM,by omega⟩
 ·rw[decide_eq_false h0]
  cases hq:Z9 left l with
  | false=>rfl
  | true=>
   obtain⟨M,I,F⟩:=Qta.1 hq;have:=h.most (QOa A) I;omega
theorem ZBb (left right:Nat)(A:Option Addr)(n cap:Nat)(l:List Edg)(w:World)(h:Sl UM 2 w All A n cap l)(X:left≤16)(Z:right≤16)(E:ZNa left right l)(Y:n≤1000) :
  Calls Tryz.prog 168 #[.int .i64 (left:Int),.int .i64 (right:Int),.slice A n cap] w fun e w'=>e=.returned (.bool (Z9 left l))∧yw w w':=by
 have W:=yh (VIb left right A n cap l w h X Z E Y);have V:=yh E;clear h E
 go_enter Tryz.func168,Tryz.ntmps168
 go_wp2_with fail
 refine W.out.mono ?_;rintro e w1 ⟨P,G,N,O,v,ab,no,D,xs,rfl,_,J,I,_,_,_,hb⟩;obtain⟨A1,n1,c1,rfl,U⟩:=J.sl Qb
 have Q:n1=no.length:=by have:=U.len;rw[List.length_map]at this;exact this.symm
 have F:=yh (show Z9 left l=decide (n1=0)by rw[Uva I V.out,Q]);clear J I U Q
 by_cases h0:n1=0
 ·have ac:=yh (F.out.trans (decide_eq_true h0))
  subst h0
  go_wp2_with fail
  go_ret
  exact⟨ZN ac.out.symm,hb⟩
 ·have ac:=yh (F.out.trans (decide_eq_false h0))
  have aa:((n1:Int) == 0)=false:=by rw[beq_eq_false_iff_ne];omega
  clear h0
  go_wp2_with fail
  go_ret
  exact⟨ZN ac.out.symm,hb⟩
theorem VSa {p:Nat→Bool}{n i:Nat}(A:i < n)(D:p i=true):(List.range n).any p=true:=List.any_eq_true.2 ⟨i,List.mem_range.2 A,D⟩
theorem Qua {p:Nat→Bool}{n:Nat}(h:∀i,i < n→p i=false):(List.range n).any p=false:=List.any_eq_false.2 fun i A=>by rw[h i (List.mem_range.1 A)];simp
theorem Uta (x:Sai)(p:SaiV)(w:World)(h:SaiR w x p)(ho:OkShp x.ship)(hk:∀b∈x.bks,OkBk x.ship b)(ab:x.bks.length≤16) :
  Calls Tryz.prog 81 #[.agg (Qa x p)] w fun e w'=>e=.returned (.int .i64 (QQ x))∧yw w w':=by
 have aR:=yh (fun W h=>Ura x p W h ho hk ab);have HS:=yh h;obtain⟨A,n,cap,B,m,V,D,nd,cd,E,ne,ce,C,F,I⟩:=p;have hl:Sl Vb 11 w All C F I x.bks:=h.bks;have hd:Sl ZW 4 w All B m V x.ship.cabs:=h.cabs
 have a4:F≤16:=by rw[←hl.len];exact ab
 have aX:m≤12:=by rw[←hd.len];exact ho.cabs12
 have aT:=yh (fun(c:Int) W hW=>VOa C F I x.bks c W hW (YL ho hk) (by omega));obtain⟨r,hr⟩:∃r,r=QQ x:=⟨_,rfl⟩;rw[←hr];have HR:=yh (show r=if (List.range m).any (fun c=>!ZK x.bks (c:Int))=true then 6 else if x.ship.souls < mx (QM x.bks x.ship.legs.toNat)then 8 else if Z9 (Z5 x).length (Zd x)=true then 0 else 9 by rw[hr,←hd.len];rfl);have HN:=yh hl.len;have HM:=yh hd.len;have HL:=yh hl;have ay:=yh ho;have HK:=yh hk;clear hk;have au:=yh ab;clear ab;clear h hl hd hr ho
 go_enter Tryz.func81,Tryz.ntmps81
 go_upto_region 0 with(fail)
 go_cut [1,2] (fun q _ wx=>∃g,q=.pointer (some ⟨g,0,none⟩)∧Blk wx g (Qa x ⟨A,n,cap,B,m,V,D,nd,cd,E,ne,ce,C,F,I⟩) 32∧yw w wx)
 case first=>as_aux_lemma=>
  go_wp2_with fail
  go_meet
  exact⟨_,rfl,Za _ _,Qf _ _⟩
 obtain⟨g,rfl,hG,aJ⟩:=hcut;have s3:yJ wc g 3 B m V:=hG.cell rfl;obtain⟨W0,aU⟩:∃W,W=wc:=⟨_,rfl⟩;subst aU;have HG:=yh hG;clear hG;have ar:=yh aJ;clear aJ
 go_wp2_with fail
 go_loopg [12] m (fun gk i wr=>∃k:Nat,k≤m∧m - k≤gk∧i=.int .i64 k∧Aside (∀j,j < k→ZK x.bks (j:Int)=true)∧yw W0 wr)
 case atStart=>exact⟨0,Nat.zero_le _,by omega,rfl,fun j hj=>absurd hj (Nat.not_lt_zero _),Below.refl _ _⟩
 case round=>
  clear s3;obtain⟨k,hk,a3,rfl,HE,hb⟩:=hrel;have hG:=HG.out.bel hb;have a7:=ar.out.trans (hb.mono ar.out.size)
  by_cases an:k < m
  ·have aq:yJ wr g 11 C F I:=hG.cell rfl
   have al:=aT.out (k:Int) wr (HL.out.bel a7);obtain⟨q,O⟩:∃q,q=ZK x.bks (k:Int):=⟨_,rfl⟩;rw[←O]at al;have af:=yh al;clear al;have HQ:=yh O;clear O;clear hG
   go_wp2_with fail
   refine af.out.mono ?_;rintro e w2 ⟨v,xs,rfl,hO,aj⟩;obtain⟨A1,Z,c1,rfl,_⟩:=hO.sl Ql;replace hb:=hb.trans (aj.mono hb.size);replace a7:=a7.trans (aj.mono a7.size);clear hO aj aq
   cases q
   ·obtain rfl:r=6:=by rw[HR.out,if_pos (VSa an (by show(!ZK x.bks (k:Int))=true;rw[←HQ.out];rfl))]
    go_wp2_with fail
    go_ret
    exact⟨rfl,a7⟩
   ·skip
    go_wp2_with fail
    go_roundg (m - (k+1))
    case measure=>omega
    case rel=>exact⟨k+1,by omega,by omega,by go_num,fun j hj=>by
     by_cases e:j=k
     ·subst e;exact HQ.out.symm
     ·exact HE j (by omega),hb⟩
  ·obtain rfl:k=m:=by omega
   have az:=yh (HR.out.trans (if_neg (by
    rw[Qua (fun i Q=>by show(!ZK x.bks (i:Int))=false;rw[HE i Q];rfl)];simp)))
   have aW:=Yv ay.out;obtain⟨N,aF⟩:∃N:Nat,x.ship.legs=N:=⟨x.ship.legs.toNat,by omega⟩
   have ag:x.ship.legs.toNat=N:=by omega
   have ae:=yh (fun W hW=>Qob N C F I x.bks W hW (by rw[←ag];exact ZEb ay.out HK.out) (by omega) (by omega));obtain⟨sl,Y⟩:∃q,q=QM x.bks N:=⟨_,rfl⟩;rw[←Y,←aF]at ae;have aD:=yh (show sl.length=N by rw[Y];exact Uf _ _)
   have aC:=yh (show ∀y∈sl,0≤y∧y≤4*F from fun y U=>by
    rw[Y]at U;obtain⟨i,Q⟩:=List.getElem?_of_mem U
    have an:i < N:=by have:=(List.getElem?_eq_some_iff.1 Q).1;rwa [Uf]at this
    rw[Xw _ _ _ an]at Q
    injection Q with Q
    have:=QWa (l:=x.bks) (fun b hb=>(HK.out b hb).gst) i;have:=HN.out;omega)
   have ax:=yh (show 0 < N∧N≤7 from by omega);obtain⟨M,hM⟩:∃M,M=mx sl:=⟨_,rfl⟩;have aA:=yh (show r=if x.ship.souls < M then 8 else if Z9 (Z5 x).length (Zd x)=true then 0 else 9 by rw[az.out,ag,←Y,←hM]);have aQ:=yh hM;clear hM;have aa:=yh (show ∀X,yw wr X→(fun w'=>yI w' g 0 x.ship.legs∧yI w' g 1 x.ship.souls∧yJ w' g 11 C F I) X from fun X hX=>⟨(hG.bel hX).cell rfl,(hG.bel hX).cell rfl,(hG.bel hX).cell rfl⟩);have av:=yh (HL.out.bel a7);clear aW aF ag Y HE az HR
   go_upto_region 8 with(fail)
   go_cut [35] (fun t wx=>t=.bool (decide (x.ship.souls < M))∧yw wr wx)
   case first=>as_aux_lemma=>
    have J:yw wr wr.drew:=(Below.refl _ wr).drew;clear hG hb a7;refine wp_region_held_drew (S:=(fun w'=>yI w' g 0 x.ship.legs∧yI w' g 1 x.ship.souls∧yJ w' g 11 C F I)) (by kernel_rfl) (aa.out _ J) (fun aE=>?_);refine yT [0,1,2,3,4,7,8,9] (by kernel_rfl) (by assumption) ?_
    iterate 8 (refine yS (v:=?_) (gA rfl) (fun _ _ _ h=>h) rfl ?_ ?_;rotate_left;(focus (intro w ah;(try dsimp only at ah);go_simp<;>with_reducible rfl));simp only[yP,yA,yB,yC])
    refine yR 5 (by kernel_rfl) (gA rfl) fun K hK=>?_
    go_simp
    (go_at_call 120;refine(ae.out _ (av.out.bel J)).mono ?_;rintro e w3 ⟨G,rfl,a2,hR,aI⟩;have ao:=hR.own (base:=0) (by omega) (fun y U=>by have:=aC.out y U;exact .of (by omega) (by omega)) (by have:=aD.out;have:=ax.out.2;omega);rw[aD.out]at ao;obtain⟨A4,n4,c4,aN,aM⟩:=ao.sl Qb;simp only[Value.slice.injEq]at aN;obtain⟨rfl,rfl,rfl⟩:=aN;have aw:=yh (Y4b _ _ _ sl w3 (aM.all Qb (by omega)) ax.out.1 (fun y U=>(aC.out y U).1));rw[←aQ.out]at aw;replace J:=J.trans (aI.mono J.size);clear aI ao aM hR)
    go_wp2_with fail
    refine hK.out _ _ (aa.out _ J) fun aE=>?_
    clear hK K
    try simp only[yP,yQ,yA,yB,yC]
    refine yR 6 (by kernel_rfl) (gA rfl) fun K hK=>?_
    go_simp
    (go_at_call 121;refine aw.out.mono ?_;rintro e w4 ⟨rfl,rfl⟩)
    go_wp2_with fail
    refine hK.out _ _ (aa.out _ J) fun aE=>?_
    clear hK K
    try simp only[yP,yQ,yA,yB,yC]
    refine yT [10] (by kernel_rfl) (by assumption) ?_
    iterate 1 (refine yS (v:=?_) (gA rfl) (fun _ _ _ h=>h) rfl ?_ ?_;rotate_left;(focus (intro w ah;(try dsimp only at ah);go_simp<;>with_reducible rfl));simp only[yP,yA,yB,yC])
    refine wpAnyH_done (by kernel_rfl) ?_ _
    go_wp2_with fail
    go_meet
    exact⟨rfl,J⟩
   obtain⟨rfl,ac⟩:=hcut;replace hG:=hG.bel ac;replace hb:=hb.trans (ac.mono hb.size);replace a7:=a7.trans (ac.mono a7.size);clear ac aa av ae
   by_cases h8:x.ship.souls < M
   ·obtain rfl:r=8:=by rw[aA.out,if_pos h8]
    clear hG
    go_wp2_with fail
    go_ret
    exact⟨rfl,a7⟩
   have aS:=yh (aA.out.trans (if_neg h8))
   have a1:M≤x.ship.souls:=by omega
   have af:=yh (aR.out _ (HS.out.bel a7));have s0:yI wc g 0 x.ship.legs:=hG.cell rfl;have s1:yI wc g 1 x.ship.souls:=hG.cell rfl;have s2:yJ wc g 2 A n cap:=hG.cell rfl;have s3:yJ wc g 3 B k V:=hG.cell rfl;have s4:yJ wc g 4 D nd cd:=hG.cell rfl;have s5:yI wc g 5 x.fares.alone:=hG.cell rfl;have s6:yI wc g 6 x.fares.third:=hG.cell rfl;have s7:yJ wc g 7 E ne ce:=hG.cell rfl;have s8:yI wc g 8 x.fares.down:=hG.cell rfl;have s9:yI wc g 9 x.day:=hG.cell rfl;have aZ:yI wc g 10 x.leaves:=hG.cell rfl;have aq:yJ wc g 11 C F I:=hG.cell rfl;have a0:wc.cell? ⟨g,12,none⟩=some (.bool x.closed):=hG.cell rfl;have aP:=yh hG;clear hG h8
   go_wp2_with fail
   refine af.out.mono ?_;rintro e w5 ⟨v1,v2,a5,a6,rfl,aG,aH,ak⟩;obtain⟨A1,Z,c1,rfl,aL⟩:=aG.sl Qb;obtain⟨A2,n2,c2,rfl,ap⟩:=aH.sl Qx;have hG:=aP.out.bel ak;have s3:yJ w5 g 3 B k V:=hG.cell rfl;have ad:Z=(Z5 x).length:=aL.len.symm
   have aY:Z≤16:=by have:=ZZa x;rw[ad];have:=au.out;omega
   have am:=XDa x;rw[←ad,HM.out]at am
   have aK:n2≤1000:=by
    have h1:=Yi x (QJ x) 0
    have h2:(QJ x).length≤16:=by have:=ZZa x;unfold Z5 at this;rw[List.length_map]at this;have:=au.out;omega
    have h3:(QJ x).length*x.ship.cabs.length≤16*12:=Nat.mul_le_mul h2 (by rw[HM.out];exact aX);have h4:=ap.len;unfold Zd at h4;omega
   have ai:=ZBb Z k A2 n2 c2 (Zd x) w5 (ap.all Qx (by omega)) aY (by omega) am aK;obtain⟨q,O⟩:∃q,q=Z9 Z (Zd x):=⟨_,rfl⟩;have aB:=yh (show r=if q=true then 0 else 9 by rw[aS.out,O,ad]);rw[←O]at ai;have aO:=yh ai;clear ai;replace a7:=a7.trans (ak.mono a7.size);clear ak aG aH aL ap am ad aK O s0 s1 s2 s4 s5 s6 s7 s8 s9 aZ aq a0 hG hb
   go_wp2_with fail
   refine aO.out.mono ?_;rintro e w6 ⟨rfl,aV⟩;replace a7:=a7.trans (aV.mono a7.size)
   cases q
   ·obtain rfl:r=9:=aB.out
    go_wp2_with fail
    go_ret
    exact⟨rfl,a7⟩
   ·obtain rfl:r=0:=aB.out
    go_wp2_with fail
    go_ret
    exact⟨rfl,a7⟩
end Go.Proofs.YtjdcokpmgionjaaGreat
