/-
  Words, laws and contracts: ChgA, ChgB, ChgC, ChgD.
-/
import Derived.Test.YtjdcokpmgionjaaGreatBun23
import Derived.BigQuiet
set_option linter.unusedSimpArgs false
set_option linter.unusedVariables false
set_option maxRecDepth 100000
set_option maxHeartbeats 20000000
namespace Go.Proofs.YtjdcokpmgionjaaGreat
open Go.RowKit Go.Shelf
def Zx (x:Sai) (i:Nat) (b:Bkg):Sai:={ x with bks:=x.bks.set i b }
def Vl (x:Sai) (t:Int):Bkg:=x.bks.getD (ZG x.bks t) default
def Vd (x:Sai) (t:Int):Bool:=ZI x.bks t && Qy (Vl x t)
def Qjb (b:Bkg):Int:=if b.state=1 then 0 else 4
def Xma (b:Bkg):Bkg:={ b with state:=2,til:=0 }
def UYa (x:Sai) (b:Bkg) (a:Int):Bkg:={ b with fol:=b.fol++[⟨x.day,2,-a⟩] }
def YVa (x:Sai) (b:Bkg) (a:Int):Int:=if Qc a 1 100000000=false then 3 else if ZR b.fol < a then 4 else Qe (UYa x b a).fol
def Vxa (x:Sai) (b:Bkg) (day:Int):Int:=if b.state=2∧0 < Zz b.fol then ZEa x.fares (Zz b.fol) (max 0 (x.leaves - day))else 0
def Vf (x:Sai) (b:Bkg) (day:Int):Int:=if b.state=2∧100000000 < Zz b.fol then 3 else Qe (Ut b.fol day (Vxa x b day))
def Yk (x:Sai) (b:Bkg) (day:Int):Bkg:={ b with state:=3,til:=0,fol:=Ut b.fol day (Vxa x b day) }
def Q3 (b:Bkg) (c:Int):Bkg:={ b with cab:=c }
noncomputable def YMa (x:Sai) (i:Nat) (b:Bkg) (c:Int):Int:=
 if b.cab < 0 then 4 else if c < 0∨(x.ship.cabs.length:Int)≤c then 3 else if c=b.cab then 6 else if ofE x.ship (Q3 b c)≠0 then ofE x.ship (Q3 b c)else QQ (Zx x i (Q3 b c))
def Xza (x:Sai) (t E:Int):Int:=if Vd x t=true then E else 5
noncomputable def chE (x:Sai) (t E:Int):Int:=if Qp x≠0 then Qp x else Xza x t E
theorem Zoc {x:Sai}{t E:Int}(h:Qp x=0):chE x t E=Xza x t E:=by unfold chE;rw[if_neg (by simpa using h)]
noncomputable def Yz (x:Sai) (t:Int):Int:=chE x t (Qjb (Vl x t))
def YA (x:Sai) (t:Int):Sai:=Zx x (ZG x.bks t) (Xma (Vl x t))
noncomputable def Yr (x:Sai) (t a:Int):Int:=chE x t (YVa x (Vl x t) a)
def Ys (x:Sai) (t a:Int):Sai:=Zx x (ZG x.bks t) (UYa x (Vl x t) a)
noncomputable def Yl (x:Sai) (t:Int):Int:=chE x t (Vf x (Vl x t) x.day)
def Ym (x:Sai) (t:Int):Sai:=Zx x (ZG x.bks t) (Yk x (Vl x t) x.day)
noncomputable def Yo (x:Sai) (t c:Int):Int:=chE x t (YMa x (ZG x.bks t) (Vl x t) c)
def Yp (x:Sai) (t c:Int):Sai:=Zx x (ZG x.bks t) (Q3 (Vl x t) c)
theorem ZLb {S:Nat→Prop}{W X:World}{p:Addr}{v:Value}(hK:Kept S W X)(D:¬S p.block)(A:W.cell? p=some v):X.cell? p=some v:=(World.cell?_of_block (hK.block _ (World.block_lt_of_cell? W p A) D)).trans A
theorem XK {B:Nat}{W X:World}{p:Addr}(A:Below B W X)(E:p.block < B)(D:W.frozen? p=false):X.frozen? p=false:=(A.frozen E).trans D
theorem QLa {l:List Bkg}{t:Int}(O:Xe l)(h:ZI l t=true):∃b,l[ZG l t]? = some b∧b.id=t∧ZG l t < l.length∧atI l t=(ZG l t:Int):=by
 unfold ZI at h;obtain⟨b,Q,F⟩:=List.any_eq_true.1 h;have F:=of_decide_eq_true F;obtain⟨i,D⟩:=List.getElem?_of_mem Q;have V:=(List.getElem?_eq_some_iff.1 D).1
 have J:Zya l t i:=fun q c E A=>by have:=O q i c b E A D;omega
 have U:Vy l t i:=fun q c E A=>by
  rcases Nat.lt_or_ge i q with I | I
  ·have:=O i q b c I D A;omega
  ·obtain rfl:q=i:=by omega
   rw[D]at A;injection A with A;subst A;omega
 have W:=Zkb (by omega) J U;rw[W];refine⟨b,D,F,V,?_⟩;refine VR (x:=b) ?_ D (decide_eq_true F)
 refine List.any_eq_false.2 fun c A=>?_
 obtain⟨q,E⟩:=List.getElem?_of_mem A;have X:=(List.getElem?_eq_some_iff.1 E).1;rw[List.length_take]at X;rw[List.getElem?_take,if_pos (by omega)]at E;have:=J q c (by omega) E
 simp;omega
theorem Vn {x:Sai}{t:Int}(O:Xe x.bks)(h:Vd x t=true):∃b,x.bks[ZG x.bks t]? = some b∧b.id=t∧ZG x.bks t < x.bks.length∧atI x.bks t=(ZG x.bks t:Int)∧b.state≠3∧Vl x t=b:=by
 unfold Vd at h;obtain⟨J,A⟩:=Bool.and_eq_true_iff.1 h;obtain⟨b,D,E,F,I⟩:=QLa O J
 have e:Vl x t=b:=by unfold Vl;rw[List.getD_eq_getElem?_getD,D];rfl
 refine⟨b,D,E,F,I,?_,e⟩;rw[e]at A;unfold Qy at A
 simpa using A
theorem Yqb {l:List Bkg}{i:Nat}{b b':Bkg}(X:Xe l)(E:l[i]? = some b)(U:b'.id=b.id):Xe (l.set i b'):=by
 have V:=(List.getElem?_eq_some_iff.1 E).1
 have F:∀(k:Nat) (c:Bkg),(l.set i b')[k]? = some c→∃D,l[k]? = some D∧c.id=D.id:=fun k c A=>by
  by_cases hk:k=i
  ·subst hk
   rw[List.getElem?_set_self V]at A
   injection A with A
   subst A;exact⟨b,E,U⟩
  ·rw[List.getElem?_set_ne (fun e=>hk e.symm)]at A
   exact⟨c,A,rfl⟩
 intro p q c d W A Q;obtain⟨D,J,Y⟩:=F p c A;obtain⟨I,O,Z⟩:=F q d Q;have:=X p q D I W J O;omega
theorem XQb {x:Fares}{c I n d:Int}(F:FareOk x c I)(A:0≤n)(J:n≤100000000):0≤ZEa x n d∧ZEa x n d≤100000000:=by
 unfold ZEa
 split
 ·omega
 ·obtain⟨p,D⟩:∃p,p=(x.bands[(V5a x d).toNat]?.getD default).part:=⟨_,rfl⟩
  rw[←D]
  have E:0≤p∧p≤100:=by
   rw[D]
   rcases h:x.bands[(V5a x d).toNat]? with _ | b
   ·decide
   ·have:=F.band b (List.mem_of_getElem? h)
    simpa using ⟨this.2.2.1,this.2.2.2⟩
  unfold VF;have O:0≤n*p:=Int.mul_nonneg A E.1;have Q:n*p≤n*100:=Int.mul_le_mul_of_nonneg_left E.2 A;omega
theorem ZHc {x:Sai}{b:Bkg}{d:Int}(A:FareOk x.fares x.ship.cats.length x.ship.legs)(h:¬(b.state=2∧100000000 < Zz b.fol)):0≤Vxa x b d∧Vxa x b d≤100000000:=by
 unfold Vxa
 split
 ·next hc=>exact XQb A (by omega) (by have:=hc.1;omega)
 ·omega
theorem QFb {l:List Entry}{d p:Int}(h:Qe l=0)(A:0≤p)(D:p≤100000000):Vk l d p=Qe (Ut l d p):=by
 unfold Vk;rw[if_neg (by simpa using h),if_neg (by omega)]
theorem QLc {x:Sai}{n d:Int}(E:Zq x.fares x.ship.cats.length x.ship.legs=0)(A:0≤n)(I:0≤d):Vvb x.fares x.ship.cats.length x.ship.legs n d=if 100000000 < n then 3 else 0:=by
 have F:XNa x.fares x.ship.cats.length x.ship.legs n=if 100000000 < n then 3 else 0:=by
  unfold XNa;rw[if_neg (by rw[E];simp)]
  by_cases h:100000000 < n
  ·rw[if_pos h,if_neg (fun D=>by have:=Qj.1 D;omega)]
  ·rw[if_neg h,if_pos (Qj.2 ⟨A,by omega⟩)]
 unfold Vvb;rw[F]
 by_cases h:100000000 < n
 ·rw[if_pos h,if_pos (by decide)]
 ·rw[if_neg h,if_neg (by decide),if_neg (by omega)]
section
variable {α:Type} {c:Cod α} {size:Nat} {e:TypeId} {w:World} {base g n cap:Nat} {l:List α} {xs:List Value}
theorem Own.putG (hg:Good c)(h:Own c size e w base (.slice (some ⟨g,0,none⟩) n cap) l xs){i j:Nat}{x x':α}{u:Value}(hx:l[i]? = some x)(Y:j < size)
  (hc:∀D,c (w.setCell ⟨g,i*size+j,none⟩ u) (QO base (.slice (some ⟨g,0,none⟩) n cap)) x D→c (w.setCell ⟨g,i*size+j,none⟩ u) (QO base (.slice (some ⟨g,0,none⟩) n cap)) x' (D.set j u)) :
  Own c size e (w.setCell ⟨g,i*size+j,none⟩ u) base (.slice (some ⟨g,0,none⟩) n cap) (l.set i x') (xs.set (i*size+j) u):=by
 have aa:=h.row;have hn:=h.len;subst hn;have hk:Kept (fun b=>b=g) w (w.setCell ⟨g,i*size+j,none⟩ u):=(Kept.refl (fun b=>b=g) w).setCell (p:=⟨g,i*size+j,none⟩) (.inl rfl) u
 have Z:∀(x:α) (F:List Value),c w (QO base (.slice (some ⟨g,0,none⟩) l.length cap)) x F→c (w.setCell ⟨g,i*size+j,none⟩ u) (QO base (.slice (some ⟨g,0,none⟩) l.length cap)) x F:=fun x F h0=>
  hg.keep h0 fun b W Q=>⟨hk.block b Q (fun e=>by subst e;exact W.2 rfl),W⟩
 have X:i < l.length:=(List.getElem?_eq_some_iff.1 hx).1;have ab:xs.length=l.length*size:=aa.1
 have Q:i*size+j < xs.length:=by have:=Zxc X Y;omega
 refine⟨by rw[List.length_set];exact(aa.stored _ u).1,fun k y E=>?_⟩
 by_cases hki:k=i
 ·subst hki
  rw[List.getElem?_set_self X]at E
  injection E with E
  subst E;obtain⟨D,I,O,J⟩:=h.el k x hx;refine⟨D.set j u,hc _ (Z _ _ I),by simpa using O,fun q v A=>?_⟩
  by_cases U:q=j
  ·subst U
   rw[List.getElem?_set_self (by omega)]at A;rw[List.getElem?_set_self Q];exact A
  ·rw[List.getElem?_set_ne (by omega)]at A
   rw[List.getElem?_set_ne (by omega)];exact J q v A
 ·rw[List.getElem?_set_ne (by omega)]at E
  obtain⟨D,I,O,J⟩:=h.el k y E;refine⟨D,Z _ _ I,O,fun q v A=>?_⟩
  have U:q < size:=by have:=(List.getElem?_eq_some_iff.1 A).1;omega
  rw[List.getElem?_set_ne ?_]
  ·exact J q v A
  ·intro he
   rcases Nat.lt_or_ge k i with V | V
   ·have:=XLb V U;omega
   ·have:=XLb (show i < k by omega) Y;omega
end
theorem Y2 {w:World}{S:Nat→Prop}{b:Bkg}{D:List Value}{s:Int}(h:Vj w S b D)(F:InI s):Vj w S { b with state:=s } (D.set 2 (.int .i64 s)):=by
 obtain⟨v,rfl,E,A⟩:=h;exact⟨v,rfl,E,A.id,A.kind,F,A.gst,A.cab,A.cat,A.frm,A.upto,A.til⟩
theorem UBa {w:World}{S:Nat→Prop}{b:Bkg}{D:List Value}{s:Int}(h:Vj w S b D)(F:InI s):Vj w S { b with til:=s } (D.set 9 (.int .i64 s)):=by
 obtain⟨v,rfl,E,A⟩:=h;exact⟨v,rfl,E,A.id,A.kind,A.state,A.gst,A.cab,A.cat,A.frm,A.upto,F⟩
theorem Yea {w:World}{S:Nat→Prop}{b:Bkg}{D:List Value}{s:Int}(h:Vj w S b D)(F:InI s):Vj w S { b with cab:=s } (D.set 5 (.int .i64 s)):=by
 obtain⟨v,rfl,E,A⟩:=h;exact⟨v,rfl,E,A.id,A.kind,A.state,A.gst,F,A.cat,A.frm,A.upto,A.til⟩
theorem Yfa {w:World}{S:Nat→Prop}{b:Bkg}{D:List Value}{v:Value}{f:List Entry}(h:Vj w S b D)(E:InnO Qw 3 140 w S v f):Vj w S { b with fol:=f } (D.set 10 v):=by
 obtain⟨I,rfl,F,A⟩:=h;exact⟨v,rfl,E,A.id,A.kind,A.state,A.gst,A.cab,A.cat,A.frm,A.upto,A.til⟩
section
variable {w0:World} {b0:Nat} {w:World} {base:Nat} {x:Sai} {p:SaiV} {g i:Nat} {b:Bkg}
theorem SaiW.put {j:Nat}{b':Bkg}{u:Value}(h:SaiW w0 b0 w base x p)(F:p.C=some ⟨g,0,none⟩)(X:x.bks[i]? = some b)(Z:j < 11)
  (Y:∀E,Vj (w.setCell ⟨g,i*11+j,none⟩ u) (QO w0.heap.size (.slice (some ⟨g,0,none⟩) p.nb p.cb)) b E→Vj (w.setCell ⟨g,i*11+j,none⟩ u) (QO w0.heap.size (.slice (some ⟨g,0,none⟩) p.nb p.cb)) b' (E.set j u)) :
  SaiW w0 b0 (w.setCell ⟨g,i*11+j,none⟩ u) base (Zx x i b') p:=by
 obtain⟨J,O,Q,U,A,xs,D⟩:=h;rw[F]at D;have hg:=(D.lt g rfl).1;have I:Kept (fun b=>b=g) w (w.setCell ⟨g,i*11+j,none⟩ u):=(Kept.refl (fun b=>b=g) w).setCell (p:=⟨g,i*11+j,none⟩) (.inl rfl) u;refine⟨J,O,Nat.le_trans Q I.size,fun k V W=>(I.block k (by omega) (by omega)).trans (U k V W),⟨A.cats,A.cabs,A.leg,A.bands,A.a,A.t,A.d⟩,xs.set (i*11+j) u,?_⟩;rw[F];exact D.putG Zi X Z Y
theorem SaiW.at (h:SaiW w0 b0 w base x p)(I:x.bks[i]? = some b):∃g A E D,p.C=some ⟨g,0,none⟩∧w0.heap.size≤g∧g < w.heap.size∧(∀j u,(Qz b (.slice A E D)).toList[j]? = some u→w.cell? ⟨g,i*11+j,none⟩=some u)∧
  (∀j,w.frozen? ⟨g,j,none⟩=false)∧Sl Qw 3 w All A E D b.fol∧BkIn b∧x.bks.length=p.nb:=by
 obtain⟨a1,a2,a3,a4,a5,xs,F⟩:=h;obtain⟨g,cap,Z,V,W⟩:=F.form (by have:=(List.getElem?_eq_some_iff.1 I).1;omega)
 injection Z with e1 e2 e3
 rw[e1]at F;obtain⟨cs,O,hl,Q,U⟩:=F.cells I;obtain⟨v,rfl,X,J⟩:=O;obtain⟨A,E,D,rfl,Y⟩:=X.sl Qd Uc;exact⟨g,A,E,D,e1,V,W,Q,U,Y.all Qd (by omega),J,e2.symm⟩
theorem SaiW.neB {y:Nat}{D:Array Value}{t:TypeId}(h:SaiW w0 b0 w base x p)(E:p.C=some ⟨g,0,none⟩)(F:Blk w y D t)(I:t≠63):g≠y:=by
 obtain⟨J,O,Q,U,V,xs,A⟩:=h;rw[E]at A
 exact fun e=>A.neTy F I (by rw[e];rfl)
end
theorem UHc {w:World}{a o:Nat}{b:Bkg}{v:Value}(h:∀j u,(Qz b v).toList[j]? = some u→w.cell? ⟨a,o+j,none⟩=some u):yI w a o b.id∧yI w a (o+1) b.kind∧yI w a (o+2) b.state∧
  yI w a (o+3) b.gst∧w.cell? ⟨a,o+4,none⟩=some (.bool b.lev)∧yI w a (o+5) b.cab∧yI w a (o+6) b.cat∧yI w a (o+7) b.frm∧
  yI w a (o+8) b.upto∧yI w a (o+9) b.til∧w.cell? ⟨a,o+10,none⟩=some v:=
 ⟨h 0 _ rfl,h 1 _ rfl,h 2 _ rfl,h 3 _ rfl,h 4 _ rfl,h 5 _ rfl,h 6 _ rfl,h 7 _ rfl,h 8 _ rfl,h 9 _ rfl,h 10 _ rfl⟩
theorem set_set (x:Sai)(i:Nat)(b c:Bkg):Zx (Zx x i b) i c=Zx x i c:=by unfold Zx;rw[List.set_set]
theorem XS {x:Sai}{i:Nat}{b c:Bkg}(h:x.bks[i]? = some c):(Zx x i b).bks[i]? = some b:=List.getElem?_set_self (List.getElem?_eq_some_iff.1 h).1
abbrev Yja (x:Sai) (p:SaiV) (i:Nat):Array Value:=#[.int .i64 x.ship.legs,.int .i64 x.ship.souls,.slice p.A p.n p.cap,.slice p.B p.m p.cap2,.slice p.D p.nd p.cd,.int .i64 x.fares.alone,.int .i64 x.fares.third,.slice p.E p.ne p.ce,.int .i64 x.fares.down,.int .i64 x.day,.int .i64 x.leaves,.slice p.C p.nb p.cb,.bool x.closed,.int .i64 (i:Int)]
theorem ZOb {x:Sai}{p:SaiV}{i j:Nat}{u:Value}(h:(Qa x p)[j]? = some u):(Yja x p i)[j]? = some u:=by
 have A:j < 13:=(Array.getElem?_eq_some_iff.1 h).1;rw[←h]
 rcases j with _ | _ | _ | _ | _ | _ | _ | _ | _ | _ | _ | _ | _ | j<;>first | rfl | omega
theorem ZNb {w:World}{y:Nat}{x:Sai}{p:SaiV}{i:Nat}{t:TypeId}(h:Blk w y (Yja x p i) t):w.rangeAt y 0 (Qa x p).toList:=fun j u A=>by
 rw[Nat.zero_add];exact h.cell (ZOb (by simpa using A))
def Chg (w':World) (base:Nat) (x:Sai) (i:Nat) (v:Value):Prop:=∃(y:Nat) (p:SaiV) (w0:World) (b0:Nat),v=.pointer (some ⟨y,0,none⟩)∧Blk w' y (Yja x p i) 158∧SaiW w0 b0 w' base x p∧w0.heap.size≤y
theorem Q2b (x:Sai)(p:SaiV)(i y g:Nat)(w:World)(A:Blk w y (Yja x p i) 158)(D:p.C=some ⟨g,0,none⟩)(J:i < p.nb)(_:p.nb≤16) :
  Calls Tryz.prog 97 #[.pointer (some ⟨y,0,none⟩)] w fun e w'=>e=.returned (.pointer (some ⟨g,i*11,none⟩))∧yw w w':=by
 have F:yJ w y 11 (some ⟨g,0,none⟩) p.nb p.cb:=D ▸ A.cell rfl;have Q:yI w y 13 (i:Int):=A.cell rfl;have I:yw w w:=Below.refl _ _
 have O:(i:Int) < (p.nb:Int):=by omega
 obtain⟨U,E⟩:∃q,q=p.nb:=⟨_,rfl⟩;rw[←E]at F J O;clear A D E
 go_enter Tryz.func97,Tryz.ntmps97
 go_upto_region 1 with(fail)
 go_quiet (fail)
 go_wp2_with fail
 go_ret
 exact⟨rfl,below_drewN I _⟩
theorem UMb (x:Sai)(p:SaiV)(t:Int)(w:World)(hS:SaiR w x p)(ht:InI t) :
  Calls Tryz.prog 179 #[.agg (Qa x p),.int .i64 t] w fun e w'=>∃v,e=.returned (.tuple #[v,.int .i64 (chE x t 0)])∧Zkc (chE x t 0) (Chg w' w.heap.size x (ZG x.bks t) v)∧yw w w':=by
 have ad:=yh (fun X I=>Q8 x p X I);have aa:=yh (fun X (ho:OkSai x) hl=>Vs x p t X hl (Zc ho.bs.rise) (Zja ho) ho.bs.len ht);have an:=yh (fun X h ho=>ZU x p X h ho);obtain⟨r,hr⟩:∃r,r=Qp x:=⟨_,rfl⟩;obtain⟨R,hR⟩:∃r,r=chE x t 0:=⟨_,rfl⟩;obtain⟨O,ak⟩:∃r,r=Vd x t:=⟨_,rfl⟩;obtain⟨hi,ac⟩:∃r,r=ZI x.bks t:=⟨_,rfl⟩;have HR:=yh (show R=if r≠0 then r else if O=true then 0 else 5 by rw[hR,hr,ak];rfl);have ag:=yh (show O=(hi && Qy (Vl x t))by rw[ak,ac];rfl);have ax:=yh ac;have az:=yh hr;rw[←hr]at ad;rw[←ac]at aa;rw[←hR];have HS:=yh hS;clear hr hR ak ac hS ht;obtain⟨A,n,cap,B,m,aA,D,nd,cd,E,ne,ce,C,nb,cb⟩:=p;simp only at aa
 go_enter Tryz.func179,Tryz.ntmps179
 go_upto_region 0 with(fail)
 go_cut [2,4,5] (fun p p2 Q wx=>∃g,p=.pointer (some ⟨g,0,none⟩)∧p2=.pointer none∧Q=.int .i64 0∧Blk wx g (Qa x ⟨A,n,cap,B,m,aA,D,nd,cd,E,ne,ce,C,nb,cb⟩) 32∧yw w wx)
 case first=>as_aux_lemma=>
  go_wp2_with fail
  go_meet
  exact⟨_,rfl,rfl,rfl,Za _ _,Qf _ _⟩
 obtain⟨g,rfl,rfl,rfl,hG,ai⟩:=hcut;obtain⟨W1,aC⟩:∃V,V=wc:=⟨_,rfl⟩;subst aC;have F:=yh (fun X (I:yw W1 X)=>ai.trans (I.mono ai.size));have Z:=yh (fun X (I:yw W1 X)=>hG.bel I);have aP:=yh (fun X (I:yw W1 X)=>HS.out.bel (F.out X I));have hb:yw W1 W1:=Below.refl _ _;clear hG ai;have HC:=yh (ad.out _ (aP.out _ hb))
 go_wp2_with (refine wpList_load_row rfl 32 (.tmp 2) rfl g rfl 32 _ (0,0) _ (Z.out _ hb) Tryz.underlying32 rfl (by kernel_rfl) ?_)
 refine HC.out.mono ?_;rintro e w1 ⟨rfl,aO⟩;replace hb:=hb.trans (aO.mono hb.size);clear aO HC ad
 by_cases q0:r=0
 rotate_left
 ·obtain rfl:R=r:=by rw[HR.out,if_pos q0]
  have aN:(R != 0)=true:=by simpa using q0
  have Q0:=yh q0;clear q0
  go_wp2_with fail
  go_ret2
  exact⟨_,rfl,fun h=>absurd h Q0.out,F.out _ hb⟩
 have U:=yh (Ze (az.out.symm.trans q0));have ah:=yh (HR.out.trans (if_neg (by rw[q0];simp)));subst q0;have HC:=yh (aa.out _ U.out (aP.out _ hb).bks)
 go_wp2_with (refine wpList_load_row rfl 32 (.tmp 2) rfl g rfl 32 _ (0,0) _ (Z.out _ hb) Tryz.underlying32 rfl (by kernel_rfl) ?_)
 refine HC.out.mono ?_;rintro e w2 ⟨k,rfl,hk,au,aO⟩;replace hb:=hb.trans (aO.mono hb.size);have am:=yh au;clear aO HC aa au
 cases hi
 ·obtain rfl:O=false:=by rw[ag.out];rfl
  obtain rfl:R=5:=by rw[ah.out];rfl
  go_wp2_with fail
  go_ret2
  exact⟨_,rfl,fun h=>absurd h (by decide),F.out _ hb⟩
 obtain⟨b,J,h2,h3,h4⟩:=QLa (Zc U.out.bs.rise) ax.out.symm;have h5:=Zja U.out b (List.mem_of_getElem? J);obtain rfl:k=ZG x.bks t:=am.out ⟨by omega,by omega⟩;have al:=yh (show Vl x t=b by unfold Vl;rw[List.getD_eq_getElem?_getD,J];rfl);obtain⟨k,aj⟩:∃q,q=ZG x.bks t:=⟨_,rfl⟩;rw[←aj]at J h3 ⊢;have ay:=yh aj;clear h2 h4 h5 am hk aj;have aE:nb=x.bks.length:=HS.out.bks.len.symm
 have aw:k < nb:=by omega
 have aF:=U.out.bs.len;have aJ:(0:Int)≤(k:Int):=Int.natCast_nonneg _
 have aK:(k:Int) < (nb:Int):=by omega
 obtain⟨ab,aH,b',A3,n3,c3,hA,hx,hF,hI,ar⟩:=(aP.out _ hb).bks.bkg aw
 obtain rfl:b'=b:=by rw[hx]at J;injection J
 simp only at hA;subst hA;have aG:yJ w2 g 11 (some ⟨ab,aH,none⟩) nb cb:=(Z.out _ hb).cell rfl;obtain⟨y0,y1,y2,y3,y4,y5,y6,y7,y8,y9,aI⟩:=UHc ar;have af:=yh (fun W=>X5 b' (.slice A3 n3 c3) W);have ae:=yh (show O=Qy b' by rw[ag.out,al.out];rfl);obtain⟨ll,av⟩:∃q,q=Qy b':=⟨_,rfl⟩;rw[←av]at af ae;obtain rfl:O=ll:=ae.out;clear J h3 hx hF hI ar ae ag al aE av aw aF
 go_wp2_with fail
 refine(af.out _).mono ?_;rintro e w3 ⟨rfl,aO⟩;replace hb:=hb.trans (aO.mono hb.size);clear aO af aG y0 y1 y2 y3 y4 y5 y6 y7 y8 y9 aI
 cases O
 ·obtain rfl:R=5:=by rw[ah.out];rfl
  go_wp2_with fail
  go_ret2
  exact⟨_,rfl,fun h=>absurd h (by decide),F.out _ hb⟩
 obtain rfl:R=0:=by rw[ah.out];rfl
 have HC:=yh (an.out _ (aP.out _ hb) U.out)
 go_wp2_with (refine wpList_load_row rfl 32 (.tmp 2) rfl g rfl 32 _ (0,0) _ (Z.out _ hb) Tryz.underlying32 rfl (by kernel_rfl) ?_)
 refine HC.out.mono ?_;rintro e Y ⟨Q,rfl,aB,aq⟩;obtain⟨v0,b0,ap⟩:=aB;have aL:=hb.size;have aM:=(F.out _ hb).size;replace hb:=hb.trans (aq.mono hb.size);have ao:=yh ap;clear ap;clear aq HC an
 go_wp2_with fail
 go_ret2
 have aD:SaiW v0 b0 (Y.alloc (.cells (Yja x Q k) 158)) w.heap.size x Q:=by
  obtain⟨a1,a2,a3,a4,a5,xs,a6⟩:=ao.out.bel (Qf Y (.cells (Yja x Q k) 158));exact⟨by omega,a2,a3,a4,a5,xs,a6⟩
 exact⟨_,rfl,fun _=>by rw[←ay.out];exact⟨Y.heap.size,Q,v0,b0,rfl,Blk.new Y _ _,aD,by obtain⟨_,_,a3,_⟩:=ao.out;exact a3⟩,(F.out _ hb).trans ((Qf Y _).mono (F.out _ hb).size)⟩
def YV (x:Sai) (i:Nat) (b:Bkg) (day:Int):Sai:=if Vf x b day=0 then Zx x i (Yk x b day)else x
theorem UNa {x:Sai}{i:Nat}{b:Bkg}{day:Int}(h:Vf x b day=0):YV x i b day=Zx x i (Yk x b day):=if_pos h
theorem YHa {x:Sai}{i:Nat}{b:Bkg}{day:Int}(h:¬Vf x b day=0):YV x i b day=x:=if_neg h
theorem VMa (w0:World)(b0:Nat)(x:Sai)(p:SaiV)(i g y:Nat)(b:Bkg)(day:Int)(base:Nat)(w:World)(hW:SaiW w0 b0 w base x p)(hC:p.C=some ⟨g,0,none⟩)
  (hY:∀j u,(Qa x p)[j]? = some u→w.cell? ⟨y,j,none⟩=some u) (hb:x.bks[i]? = some b) (aq:Zq x.fares x.ship.cats.length x.ship.legs=0) (aN:Qc x.leaves 0 9999=true) (aS:x.bks.length≤16) (ar:Qe b.fol=0) (hd:0≤day∧day≤9999) :
  Calls Tryz.prog 102 #[.pointer (some ⟨y,0,none⟩),.int .i64 (i:Int),.int .i64 day] w fun e w'=>e=.returned (.int .i64 (Vf x b day))∧SaiW w0 b0 w' base (YV x i b day) p∧Kept (fun k=>k=g) w w':=by
 obtain⟨g',A3,n3,c3,aF,bc,au,aK,aM,hF,hI,a1⟩:=hW.at hb
 obtain rfl:g'=g:=by rw[aF]at hC;injection hC with h;injection h
 have ad:=hW.sai;have Y:=yh (fun X hF=>X7a p.D p.nd p.cd x.fares p.E p.ne p.ce x.ship.cats.length x.ship.legs (Zz b.fol) (max 0 (x.leaves - day)) X hF);have ah:=yh (fun X h=>VLa A3 n3 c3 b.fol X h (VO ar));have af:=yh (fun X h (h1:InI (Vxa x b day))=>Qqb A3 n3 c3 b.fol day (Vxa x b day) X h (.of (by omega) (by omega)) h1);have aL:=YG aq;have bf:=Qj.1 aN;obtain⟨O,U⟩:∃r,r=Zz b.fol:=⟨_,rfl⟩;obtain⟨Q,Z⟩:∃r,r=Vxa x b day:=⟨_,rfl⟩;obtain⟨W,hE⟩:∃r,r=Vf x b day:=⟨_,rfl⟩;obtain⟨lt,av⟩:∃r,r=ZEa x.fares (Zz b.fol) (max 0 (x.leaves - day)):=⟨_,rfl⟩;obtain⟨pe,ax⟩:∃r,r=Vvb x.fares x.ship.cats.length x.ship.legs (Zz b.fol) (max 0 (x.leaves - day)):=⟨_,rfl⟩;obtain⟨L,hL⟩:∃r,r=Ut b.fol day (Vxa x b day):=⟨_,rfl⟩;obtain⟨am,ap⟩:∃r,r=Qe (Ut b.fol day (Vxa x b day)):=⟨_,rfl⟩;have HE:=yh (show W=if b.state=2∧100000000 < O then 3 else am by rw[hE,U,ap];rfl);have HP:=yh (show Q=if b.state=2∧0 < O then lt else 0 by rw[Z,U,av];rfl);have aC:=yh (show ¬(b.state=2∧100000000 < O)→0≤Q∧Q≤100000000 from fun h=>by rw[Z];rw[U]at h;exact ZHc aL h);have aD:=yh (show 0 < O→pe=if 100000000 < O then 3 else 0 from fun h=>by rw[ax,U];rw[U]at h;exact QLc aq (by omega) (by omega));have aA:=yh (show 0≤Q→Q≤100000000→Vk b.fol day Q=am from fun h0 h1=>by rw[ap];rw[Z]at h0 h1 ⊢;exact QFb ar h0 h1);have al:=yh (show W=0→YV x i b day=Zx x i { b with state:=3,til:=0,fol:=L }from fun h=>by rw[UNa (hE.symm.trans h),hL];rfl);have aj:=yh (show ¬W=0→YV x i b day=x from fun h=>YHa (fun h2=>h (hE.trans h2)));obtain⟨GS,an⟩:∃r,r=YV x i b day:=⟨_,rfl⟩;rw[←ax,←av,←U]at Y;rw[←U]at ah;rw[←Z]at af;rw[←Z]at hL;rw[←hL]at af;rw[←hE,←an];rw[←an]at al aj;have a3:IntKind.i64.wrap (x.leaves - day)=x.leaves - day:=IntWalk.i64_in _ (by omega);have HW:=yh hW;have aB:=yh (fun X (hX:yw w X)=>ad.fares.below hX);have HF:=yh hF;have aQ:=yh (show x.ship.cats.length=p.n from ad.cats.len);have J:=yh hY;have ag:=yh aK;have ai:=yh aM;have ae:=yh hb;have HI:=yh hI;have be:(0:Int)≤(i:Int):=Int.natCast_nonneg _;have a0:=(List.getElem?_eq_some_iff.1 hb).1
 have aZ:(i:Int) < (p.nb:Int):=by omega
 have a2:p.nb≤16:=by omega
 have aY:p.n≤9223372036854775807:=ad.cats.bd;rw[aQ.out]at Y;clear U Z hE av ax hL ap an aL hW ad hF hY aK aM hb hI aq aN aS ar aF a1 a0;obtain⟨A,n,cap,B,m,a7,D,nd,cd,E,ne,ce,C,nb,cb⟩:=p;obtain⟨id,bh,state,bb,lev,a6,a8,ba,upto,til,fol⟩:=b;simp only at hC Y aZ a2 aY HE HP aC aA al;subst hC;have a4:yJ w y 11 (some ⟨g',0,none⟩) nb cb:=J.out 11 _ rfl;have b2:yI w g' (i*11+2) state:=ag.out 2 _ rfl;have ac:yJ w g' (i*11+10) A3 n3 c3:=ag.out 10 _ rfl;have aE:=yh (show ∀X,yw w X→(fun w'=>yI w' y 0 x.ship.legs∧yJ w' y 2 A n cap∧yJ w' y 4 D nd cd∧yI w' y 5 x.fares.alone∧yI w' y 6 x.fares.third∧yJ w' y 7 E ne ce∧yI w' y 8 x.fares.down∧yI w' y 10 x.leaves) X from fun X hX=>⟨Qg hX (J.out 0 _ rfl),Qg hX (J.out 2 _ rfl),Qg hX (J.out 4 _ rfl),Qg hX (J.out 5 _ rfl),Qg hX (J.out 6 _ rfl),Qg hX (J.out 7 _ rfl),Qg hX (J.out 8 _ rfl),Qg hX (J.out 10 _ rfl)⟩);have az:=yh (show ∀X,yw w X→yI X g' (i*11+2) state from fun X hX=>Qg hX b2);have ay:=yh (show ∀X,yw w X→yJ X g' (i*11+10) A3 n3 c3 from fun X hX=>Qg hX ac);have hb:yw w w:=Below.refl _ _
 go_enter Tryz.func102,Tryz.ntmps102
 go_wp2_with fail
 refine(ah.out _ HF.out).mono ?_;rintro e w1 ⟨rfl,aH⟩;replace hb:=hb.trans (aH.mono hb.size);clear aH ah b2 ac a4;have b2:=az.out _ hb
 by_cases qA:state=2∧100000000 < O
 ·obtain rfl:W=3:=by rw[HE.out,if_pos qA]
  obtain⟨rfl,F⟩:=qA;have q3:decide (0 < O)=true:=decide_eq_true (by omega)
  obtain rfl:pe=3:=by rw[aD.out (by omega),if_pos F]
  have HG:=yh (aj.out (by decide))
  go_upto_region 5 with(fail)
  replace hb:=hb.drew
  go_region_held3 (fun w'=>w'.cell? ⟨y,0,none⟩=some (.int .i64 x.ship.legs)∧w'.cell? ⟨y,2,none⟩=some (.slice A n cap)∧w'.cell? ⟨y,4,none⟩=some (.slice D nd cd)∧w'.cell? ⟨y,5,none⟩=some (.int .i64 x.fares.alone)∧w'.cell? ⟨y,6,none⟩=some (.int .i64 x.fares.third)∧w'.cell? ⟨y,7,none⟩=some (.slice E ne ce)∧w'.cell? ⟨y,8,none⟩=some (.int .i64 x.fares.down)∧w'.cell? ⟨y,10,none⟩=some (.int .i64 x.leaves)) (first | exact aE.out _ hb | go_keep) (first | (go_at_call 90;refine(Y.out _ (aB.out _ hb)).mono ?_;rintro e w5 ⟨rfl,aa⟩;replace hb:=hb.trans (aa.mono hb.size);clear aa))
  go_wp2_with fail
  go_ret
  exact⟨rfl,by rw[HG.out];exact HW.out.bel hb,Kept.of_below hb (fun k I h=>by omega)⟩
 have aR:=yh (aC.out qA)
 obtain rfl:W=am:=by rw[HE.out,if_neg qA]
 obtain⟨W1,aT⟩:∃V,V=w1:=⟨_,rfl⟩;subst aT;obtain⟨tv,aO⟩:∃q,q=(decide (state=2) && decide (0 < O)):=⟨_,rfl⟩;have ab:=yh aO;clear aO
 go_upto_region 4 with(fail)
 go_cut [33] (fun q wx=>q=.bool tv∧W1=wx)
 case first=>as_aux_lemma=>
  by_cases F:state=2
  ·obtain rfl:tv=decide (0 < O):=by rw[ab.out,decide_eq_true F];rfl
   subst F
   go_wp2_with fail
   go_meet
   exact⟨rfl,rfl⟩
  ·obtain rfl:tv=false:=by rw[ab.out,decide_eq_false F];rfl
   have q4:(state == 2)=false:=by simpa using F
   clear F
   go_wp2_with fail
   go_meet
   exact⟨rfl,rfl⟩
 obtain⟨rfl,rfl⟩:=hcut
 go_upto_if 33 with(fail)
 go_cut [8] (fun q wx=>q=.int .i64 Q∧yw w wx)
 case first=>
  cases tv
  ·obtain rfl:Q=0:=by
    rw[HP.out]
    refine if_neg fun h=>?_
    have:=ab.out;rw[decide_eq_true h.1,decide_eq_true h.2]at this
    cases this
   go_wp2_with fail
   go_meet
   exact⟨rfl,hb⟩
  ·obtain⟨h1,h2⟩:=Bool.and_eq_true_iff.1 ab.out.symm
   have F:=of_decide_eq_true h1;have q3:=of_decide_eq_true h2
   obtain rfl:pe=0:=by rw[aD.out q3,if_neg (fun h=>qA ⟨F,h⟩)]
   obtain rfl:Q=lt:=by rw[HP.out,if_pos ⟨F,q3⟩]
   clear h1 h2 F q3 qA
   go_upto_region 5 with(fail)
   replace hb:=hb.drew
   go_region_held3 (fun w'=>w'.cell? ⟨y,0,none⟩=some (.int .i64 x.ship.legs)∧w'.cell? ⟨y,2,none⟩=some (.slice A n cap)∧w'.cell? ⟨y,4,none⟩=some (.slice D nd cd)∧w'.cell? ⟨y,5,none⟩=some (.int .i64 x.fares.alone)∧w'.cell? ⟨y,6,none⟩=some (.int .i64 x.fares.third)∧w'.cell? ⟨y,7,none⟩=some (.slice E ne ce)∧w'.cell? ⟨y,8,none⟩=some (.int .i64 x.fares.down)∧w'.cell? ⟨y,10,none⟩=some (.int .i64 x.leaves)) (first | exact aE.out _ hb | go_keep) (first | (go_at_call 90;refine(Y.out _ (aB.out _ hb)).mono ?_;rintro e w5 ⟨rfl,aa⟩;replace hb:=hb.trans (aa.mono hb.size);clear aa))
   go_wp2_with fail
   go_meet
   exact⟨rfl,hb⟩
 obtain⟨rfl,aI⟩:=hcut;replace hb:=aI;obtain⟨p0,p1⟩:=aR.out;have aP:=yh (aA.out p0 p1);have ac:=ay.out _ hb;have HC:=yh (af.out _ (HF.out.bel hb) (.of (by omega) (by omega)));clear aI b2 qA Y a3;obtain⟨W2,aU⟩:∃V,V=wc:=⟨_,rfl⟩;subst aU
 go_wp2_with fail
 refine HC.out.mono ?_;rw[aP.out];rintro e w3 ⟨v,xs,rfl,hO,aJ⟩;have bg:=hb.size;replace hb:=hb.trans (aJ.mono hb.size);clear aJ HC ac;have HO:=yh hO;clear hO
 by_cases q5:W=0
 rotate_left
 ·have q6:(W != 0)=true:=by simpa using q5
  have HG:=yh (aj.out q5);clear q5
  go_wp2_with fail
  go_ret
  exact⟨rfl,by rw[HG.out];exact HW.out.bel hb,Kept.of_below hb (fun k I h=>by omega)⟩
 have ao:Own Qw 3 140 w3 W2.heap.size v L xs:=by
  have:=HO.out
  rwa [q5,QG]at this
 have HG:=yh (al.out q5);subst q5;obtain⟨A5,n5,c5,rfl,_⟩:=ao.sl Qd;have f2:w3.frozen? ⟨g',i*11+2,none⟩=false:=XK hb au (ai.out _);have f9:w3.frozen? ⟨g',i*11+9,none⟩=false:=XK hb au (ai.out _);have a9:w3.frozen? ⟨g',i*11+10,none⟩=false:=XK hb au (ai.out _);have c2:=az.out _ hb;have c9:yI w3 g' (i*11+9) til:=Qg hb (ag.out 9 _ rfl);have a5:=ay.out _ hb;have HB:=yh hb;have ak:=yh ao;clear hb ao
 go_wp2_with fail
 go_ret
 have aV:=HW.out.bel HB.out;have aW:=aV.put rfl ae.out (j:=2) (by omega) (u:=.int .i64 3) (fun cs h=>Y2 h (.of (by decide) (by decide)));have aX:=aW.put rfl (XS ae.out) (j:=9) (by omega) (u:=.int .i64 0) (fun cs h=>UBa h (.of (by decide) (by decide)));have hK:Kept (fun k=>k=g') w3 (((w3.setCell ⟨g',i*11+2,none⟩ (.int .i64 3)).setCell ⟨g',i*11+9,none⟩ (.int .i64 0)).setCell ⟨g',i*11+10,none⟩ (.slice A5 n5 c5)):=QMa w3 g' [(i*11+2,.int .i64 3),(i*11+9,.int .i64 0),(i*11+10,.slice A5 n5 c5)]
 have aw:∀k,(Value.slice A5 n5 c5).ownBlock=some k→W2.heap.size≤k∧k≠g':=fun k I=>by have:=ak.out.lt k I;exact⟨this.1,by omega⟩
 have aG:=aX.put rfl (XS (XS ae.out)) (j:=10) (by omega) (u:=.slice A5 n5 c5) (fun cs h=>Yfa (f:=L) h ⟨xs,(ak.out.keepB Uc (fun k I=>hK.block k (ak.out.lt k I).2 (aw k I).2)).mono Qd (Nat.zero_le _),fun k I=>⟨by have:=(aw k I).1;omega,fun e=>(aw k I).2 (by injection e)⟩⟩);rw[set_set,set_set]at aG;exact⟨rfl,by rw[HG.out];exact aG,(Kept.of_below HB.out (fun k I h=>by omega)).trans hK⟩
def UAb (f:Nat) (lb:Array Value) (K:World→Prop) (x:Sai) (i:Nat) (E:Int) (X:Sai):Prop:=
 ∀(w0:World) (b0 y g:Nat) (p:SaiV) (base:Nat) (w:World),K w→SaiW w0 b0 w base x p→Blk w y (Yja x p i) 158→p.C=some ⟨g,0,none⟩→
  Calls Tryz.prog f (#[.pointer (some ⟨y,0,none⟩)]++lb) w fun e w'=>e=.returned (.int .i64 E)∧Zkc E (SaiW w0 b0 w' base X p)∧Kept (fun k=>k=g) w w'
theorem Zub (x:Sai)(i:Nat)(b:Bkg)(F:x.bks[i]? = some b)(ag:x.bks.length≤16):UAb 96 #[] (fun _=>True) x i (Qjb b) (Zx x i (Xma b)):=by
 intro w0 b0 y g p base w _ U hY O
 show Calls Tryz.prog 96 #[.pointer (some ⟨y,0,none⟩)] w _
 obtain⟨D,A3,n3,c3,E,ah,ac,V,W,hF,hI,af⟩:=U.at F
 obtain rfl:D=g:=by rw[E]at O;injection O with h;injection h
 have ae:=(List.getElem?_eq_some_iff.1 F).1;have aa:=yh (Q2b x p i y D w hY E (by omega) (by omega));obtain⟨R,Q⟩:∃r,r=Qjb b:=⟨_,rfl⟩;rw[←Q];have J:=yh (show R=if b.state=1 then 0 else 4 from Q);have HW:=yh U;have HC:=yh E;have Z:=yh F;obtain⟨Y,X⟩:∃q,q=b.state:=⟨_,rfl⟩
 have c2:w.cell? ⟨D,i*11+2,none⟩=some (.int .i64 Y):=by rw[X];exact V 2 _ rfl
 have c9:yI w D (i*11+9) b.til:=V 9 _ rfl;have f2:=W (i*11+2);have f9:=W (i*11+9);rw[←X]at J;clear Q U hY O E F V W hF hI af ae X
 go_enter Tryz.func96,Tryz.ntmps96
 go_wp2_with fail
 refine aa.out.mono ?_;rintro e w1 ⟨rfl,A⟩;replace c2:=Qg A c2;replace c9:=Qg A c9;replace f2:=XK A ac f2;replace f9:=XK A ac f9;have I:=yh A;clear A;clear aa
 by_cases q1:Y=1
 ·obtain rfl:R=0:=by rw[J.out,if_pos q1]
  subst q1
  go_wp2_with fail
  go_ret
  have ad:=(HW.out.bel I.out).put HC.out Z.out (j:=2) (by omega) (u:=.int .i64 2) (fun cs h=>Y2 h (.of (by decide) (by decide)));have ab:=ad.put HC.out (XS Z.out) (j:=9) (by omega) (u:=.int .i64 0) (fun cs h=>UBa h (.of (by decide) (by decide)));rw[set_set]at ab;exact⟨rfl,fun _=>ab,(Kept.of_below I.out (fun k hk h=>by omega)).trans (QMa w1 D [(i*11+2,.int .i64 2),(i*11+9,.int .i64 0)])⟩
 ·obtain rfl:R=4:=by rw[J.out,if_neg q1]
  have q2:(Y != 1)=true:=by simpa using q1
  clear q1
  go_wp2_with fail
  go_ret
  exact⟨rfl,fun h=>absurd h (by decide),Kept.of_below I.out (fun k hk h=>by omega)⟩
def AmtK (q:Nat) (a:Int) (w:World):Prop:=Blk w q #[.int .i64 a] 3
theorem AmtK.bel {q:Nat}{a:Int}{w w':World}(h:AmtK q a w)(A:yw w w'):AmtK q a w':=Blk.bel h A
theorem Vub (x:Sai)(i:Nat)(b:Bkg)(a:Int)(q:Nat)(ha:InI a)(A:x.bks[i]? = some b)(aA:x.bks.length≤16)(ah:Qe b.fol=0)(ar:Qc x.day 0 9999=true):UAb 98 #[.pointer (some ⟨q,0,none⟩)] (AmtK q a) x i (YVa x b a) (Zx x i (UYa x b a)):=by
 intro w0 b0 y g p base w hQ hW hY hC
 show Calls Tryz.prog 98 #[.pointer (some ⟨y,0,none⟩),.pointer (some ⟨q,0,none⟩)] w _
 obtain⟨E,F,n3,J,aa,aM,aF,aq,au,hF,hI,aI⟩:=hW.at A
 obtain rfl:E=g:=by rw[aa]at hC;injection hC with h;injection h
 have aG:=(List.getElem?_eq_some_iff.1 A).1;have aE:=Qj.1 ar;have aj:=yh (Q2b x p i y E w hY aa (by omega) (by omega));have ac:=yh (fun X h=>Xpa F n3 J b.fol X h (VO ah));have ab:=yh (fun X h (h1:InI (-a))=>Y3b F n3 J b.fol x.day 2 (-a) X h (.of (by omega) (by omega)) (.of (by decide) (by decide)) h1);obtain⟨R,hR⟩:∃r,r=YVa x b a:=⟨_,rfl⟩;obtain⟨du,ag⟩:∃r,r=ZR b.fol:=⟨_,rfl⟩;obtain⟨ce,af⟩:∃r,r=Qe (b.fol++[⟨x.day,2,-a⟩]):=⟨_,rfl⟩;obtain⟨L,hL⟩:∃r,r=b.fol++[⟨x.day,2,-a⟩]:=⟨_,rfl⟩
 have am:Qyb b.fol ⟨x.day,2,-a⟩=ce:=by unfold Qyb;rw[if_pos ah,af]
 have HR:=yh (show R=if Qc a 1 100000000=false then 3 else if du < a then 4 else ce by rw[hR,ag,af];rfl);have HX:=yh (show Zx x i (UYa x b a)=Zx x i { b with fol:=L }by rw[hL];rfl);rw[am,←hL]at ab;rw[←ag]at ac;rw[←hR,HX.out];have HW:=yh hW;have HC:=yh aa;have ax:=yh A;have HF:=yh hF;have az:=yh (au (i*11+10));have aQ:=yh (show ∀X,yw w X→yJ X E (i*11+10) F n3 J from fun X Q=>Qg Q (aq 10 _ rfl));have HA:=yh (show ∀X,yw w X→yI X q 0 a from fun X Q=>(AmtK.bel hQ Q).cell rfl);have ay:=yh (show ∀X,yw w X→yI X y 9 x.day from fun X Q=>(hY.bel Q).cell rfl)
 have aK : -1000≤x.day:=by omega
 have aL:x.day≤10000:=by omega
 clear hR ag af hL am hW hY hC aa A aq au hF hI aI aG hQ aE ar ah aA;have A:yw w w:=Below.refl _ _
 go_enter Tryz.func98,Tryz.ntmps98
 go_wp2_with fail
 refine aj.out.mono ?_;rintro e w1 ⟨rfl,an⟩;replace A:=A.trans (an.mono A.size);clear an aj;have a0:=HA.out _ A
 by_cases q1:a < 1
 ·obtain rfl:R=3:=by rw[HR.out,if_pos (by unfold Qc;simp;omega)]
  go_wp2_with fail
  go_ret
  exact⟨rfl,fun h=>absurd h (by decide),Kept.of_below A (fun k D h=>by omega)⟩
 by_cases q2:100000000 < a
 ·obtain rfl:R=3:=by rw[HR.out,if_pos (by unfold Qc;simp;omega)]
  go_wp2_with fail
  go_ret
  exact⟨rfl,fun h=>absurd h (by decide),Kept.of_below A (fun k D h=>by omega)⟩
 have ak:=yh (HR.out.trans (if_neg (by unfold Qc;simp;omega)));have al:=aQ.out _ A
 go_upto_region 4 with(fail)
 obtain⟨tv,av⟩:∃q,q=decide (du < a):=⟨_,rfl⟩;have ae:=yh av;clear av
 go_cut [16] (fun v wx=>v=.bool tv∧yw w wx)
 case first=>
  replace A:=A.drew
  go_region_held3 (fun w'=>w'.cell? ⟨q,0,none⟩=some (.int .i64 a)∧w'.cell? ⟨E,i*11+10,none⟩=some (.slice F n3 J)) (first | exact⟨HA.out _ A,aQ.out _ A⟩ | go_keep) (first | (go_at_call 99;refine(ac.out _ (HF.out.bel A)).mono ?_;rintro e w5 ⟨rfl,U⟩;replace A:=A.trans (U.mono A.size);clear U))
  go_wp2_with fail
  go_meet
  exact⟨by rw[ae.out],A⟩
 obtain⟨rfl,ao⟩:=hcut;obtain⟨I,aB⟩:∃V,V=wc:=⟨_,rfl⟩;subst aB;replace A:=ao;clear ao ac a0 al
 cases tv
 rotate_left
 ·obtain rfl:R=4:=by rw[ak.out,if_pos (of_decide_eq_true ae.out.symm)]
  go_wp2_with fail
  go_ret
  exact⟨rfl,fun h=>absurd h (by decide),Kept.of_below A (fun k D h=>by omega)⟩
 obtain rfl:R=ce:=by rw[ak.out,if_neg (of_decide_eq_false ae.out.symm)]
 go_upto_region 6 with(fail)
 go_cut [5,6] (fun v v2 wx=>v2=.int .i64 R∧(∃xs,Own Qw 3 140 wx I.heap.size v (okL R L) xs)∧yw I wx)
 case first=>
  have aH:InI (-a):=.of (by omega) (by omega);have aN:IntKind.i64.wrap (-a)=-a:=IntWalk.i64_in _ (by omega);replace A:=A.drew
  go_region_held3 (fun w'=>w'.cell? ⟨q,0,none⟩=some (.int .i64 a)∧w'.cell? ⟨E,i*11+10,none⟩=some (.slice F n3 J)∧w'.cell? ⟨y,9,none⟩=some (.int .i64 x.day)) (first | exact⟨HA.out _ A,aQ.out _ A,ay.out _ A⟩ | go_keep) (first | (go_at_call 100;refine(ab.out _ (HF.out.bel A) aH).mono ?_;rintro e w5 ⟨v,xs,rfl,hO,U⟩;replace A:=A.trans (U.mono A.size)))
  go_wp2_with fail
  go_meet
  exact⟨rfl,⟨_,hO⟩,((Below.refl _ I).drew).trans U⟩
 obtain⟨rfl,⟨xs,hO⟩,ap⟩:=hcut;obtain⟨Y,aC⟩:∃V,V=wc:=⟨_,rfl⟩;subst aC;have aO:=A.size;replace A:=A.trans (ap.mono A.size);clear ap ab;have HO:=yh hO;clear hO
 by_cases q5:R=0
 rotate_left
 ·have q6:(R == 0)=false:=by simpa using q5
  have Q5:=yh q5;clear q5
  go_wp2_with fail
  go_ret
  exact⟨rfl,fun h=>absurd h Q5.out,Kept.of_below A (fun k D h=>by omega)⟩
 have O:=HO.out;rw[q5,QG]at O;subst q5;obtain⟨W,n5,Z,aw,_⟩:=O.sl Qd;rw[aw]at O;subst aw;have aJ:Y.frozen? ⟨E,i*11+10,none⟩=false:=XK A aF az.out;have al:=aQ.out _ A;have HB:=yh A;have ad:=yh O;clear A O HO
 go_wp2_with fail
 go_ret
 have hK:Kept (fun k=>k=E) Y (Y.setCell ⟨E,i*11+10,none⟩ (.slice W n5 Z)):=QMa Y E [(i*11+10,.slice W n5 Z)]
 have ai:∀k,(Value.slice W n5 Z).ownBlock=some k→I.heap.size≤k∧k≠E:=fun k D=>by have:=ad.out.lt k D;exact⟨this.1,by omega⟩
 have aP:w0.heap.size≤I.heap.size:=by obtain⟨_,_,a3,_⟩:=HW.out;omega
 have aD:=(HW.out.bel HB.out).put HC.out ax.out (j:=10) (by omega) (u:=.slice W n5 Z) (fun cs h=>Yfa (f:=L) h ⟨xs,(ad.out.keepB Uc (fun k D=>hK.block k (ad.out.lt k D).2 (ai k D).2)).mono Qd (Nat.zero_le _),fun k D=>⟨by have:=(ai k D).1;omega,fun e=>(ai k D).2 (by injection e)⟩⟩);exact⟨rfl,fun _=>aD,(Kept.of_below HB.out (fun k D h=>by omega)).trans hK⟩
theorem QVb (x:Sai)(i:Nat)(b:Bkg)(A:x.bks[i]? = some b)(Y:x.bks.length≤16)(ab:Qe b.fol=0)(Z:Qc x.day 0 9999=true)(ad:Qc x.leaves 0 9999=true)(aa:Zq x.fares x.ship.cats.length x.ship.legs=0) :
  UAb 101 #[] (fun _=>True) x i (Vf x b x.day) (Zx x i (Yk x b x.day)):=by
 intro w0 b0 y g p base w _ U hY J
 show Calls Tryz.prog 101 #[.pointer (some ⟨y,0,none⟩)] w _
 have W:=yh (fun X (D:yw w X)=>VMa w0 b0 x p i g y b x.day base X (U.bel D) J (fun j u hu=>(hY.bel D).cell (ZOb hu)) A aa ad Y ab (Qj.1 Z));obtain⟨E,F⟩:∃r,r=Vf x b x.day:=⟨_,rfl⟩;have ag:=yh (show E=0→YV x i b x.day=Zx x i (Yk x b x.day)from fun h=>UNa (F.symm.trans h));obtain⟨GS,O⟩:∃r,r=YV x i b x.day:=⟨_,rfl⟩;rw[←F,←O]at W;rw[←O]at ag;rw[←F];have c9:yI w y 9 x.day:=hY.cell rfl;have ae:yI w y 13 (i:Int):=hY.cell rfl;have I:=yh (show ∀X,yw w X→yI X y 9 x.day∧yI X y 13 (i:Int)from fun X D=>⟨Qg D c9,Qg D ae⟩)
 have ac:¬y=g:=fun h=>U.neB J hY (by decide) h.symm
 clear F O U hY J A Y ab Z ad aa;have A:yw w w:=Below.refl _ _
 go_enter Tryz.func101,Tryz.ntmps101
 go_upto_region 1 with(fail)
 replace A:=A.drew
 go_region_held3 (fun w'=>w'.cell? ⟨y,9,none⟩=some (.int .i64 x.day)∧w'.cell? ⟨y,13,none⟩=some (.int .i64 (i:Int))) (first | exact af | exact I.out _ A | go_keep) (first | (go_at_call 102;refine(W.out _ A).mono ?_;rintro e w5 ⟨rfl,V,Q⟩;have af:=And.intro (ZLb Q ac (I.out _ A).1) (ZLb Q ac (I.out _ A).2);replace V:=yh V))
 go_wp2_with fail
 go_ret
 exact⟨rfl,fun h=>by rw[←ag.out h];exact V.out,(Kept.of_below A (fun k hk h=>by omega)).trans Q⟩
theorem Q5b (x:Sai)(i:Nat)(b:Bkg)(c:Int)(q:Nat)(hc:InI c)(D:x.bks[i]? = some b)(ho:OkSai x):UAb 103 #[.pointer (some ⟨q,0,none⟩)] (AmtK q c) x i (YMa x i b c) (Zx x i (Q3 b c)):=by
 intro w0 b0 y g p base w hQ hW hY hC
 show Calls Tryz.prog 103 #[.pointer (some ⟨y,0,none⟩),.pointer (some ⟨q,0,none⟩)] w _
 obtain⟨F,A3,n3,c3,a3,a5,aW,J,aE,hF,hI,aZ⟩:=hW.at D
 obtain rfl:F=g:=by rw[a3]at hC;injection hC with h;injection h
 have aY:=(List.getElem?_eq_some_iff.1 D).1;have aB:=ho.bs.len;have ar:=yh (Q2b x p i y F w hY a3 (by omega) (by omega))
 have aX:¬y=F:=fun h=>hW.neB a3 hY (by decide) h.symm
 obtain⟨R,hR⟩:∃r,r=YMa x i b c:=⟨_,rfl⟩;obtain⟨I,ae⟩:∃r,r=Q3 b c:=⟨_,rfl⟩;obtain⟨Y,af⟩:∃r,r=ofE x.ship I:=⟨_,rfl⟩;obtain⟨X,E⟩:∃r,r=Zx x i I:=⟨_,rfl⟩;obtain⟨rm,ap⟩:∃r,r=QQ X:=⟨_,rfl⟩;have hM:x.ship.cabs.length=p.m:=hW.sai.cabs.len;have HR:=yh (show R=if b.cab < 0 then 4 else if c < 0∨(p.m:Int)≤c then 3 else if c=b.cab then 6 else if Y≠0 then Y else rm by rw[hR,ap,E,af,ae,←hM];rfl)
 have ai:=yh (fun W (h:SaiR W X p) (h0:Y=0)=>Uta X p W h (by rw[E];exact ho.bs.ship) (fun d hd=>by
  rw[E]at hd
  rcases List.mem_or_eq_of_mem_set hd with h1 | h1
  ·rw[E];exact ho.bs.bk d h1
  ·subst h1;rw[E];exact UAa (af.symm.trans h0)) (by rw[E];show(x.bks.set i I).length≤16;rw[List.length_set];exact aB))
 have ah:=yh (fun Z n4 c4 W aV aU hF=>XE x.ship p.A p.n p.cap p.B p.m p.cap2 I Z n4 c4 W aV aU ho.bs.ship hF)
 have av:=yh (fun W (aT:yw w W)=>show SaiW w0 b0 (W.setCell ⟨F,i*11+5,none⟩ (.int .i64 c)) base X p from by
  rw[E,ae];exact(hW.bel aT).put a3 D (j:=5) (by omega) (u:=.int .i64 c) (fun cs h=>Yea h hc))
 rw[←ap]at ai;rw[←af]at ah;rw[←hR,←ae,←E];have aO:=yh (show X.bks[i]? = some I by rw[E];exact XS D);have aA:=yh (show X.ship=x.ship by rw[E];rfl);have aN:=yh (show Qa X p=Qa x p by rw[E];rfl);have HC:=yh a3;obtain⟨cb,an⟩:∃r,r=b.cab:=⟨_,rfl⟩;have ab:=yh (show ∀X,yw w X→X.cell? ⟨F,i*11+5,none⟩=some (.int .i64 cb)from fun X E=>by rw[an];exact Qg E (J 5 _ rfl));have aq:=yh (aE (i*11+5));have HA:=yh (show ∀X,yw w X→yI X q 0 c from fun X E=>(AmtK.bel hQ E).cell rfl);have ak:=yh (show ∀X,yw w X→Blk X y (Yja x p i) 158 from fun X E=>hY.bel E);rw[←an]at HR;have a1:(0:Int)≤(p.m:Int):=Int.natCast_nonneg _;have a2:=hW.sai.cabs.bd;clear hR ap E af ae hM hW hY hC a3 D J aE hF hI aZ aY hQ aB ho an;have D:yw w w:=Below.refl _ _
 go_enter Tryz.func103,Tryz.ntmps103
 go_wp2_with fail
 refine ar.out.mono ?_;rintro e w1 ⟨rfl,aD⟩;replace D:=D.trans (aD.mono D.size);clear aD ar;have c5:=ab.out _ D
 by_cases q1:cb < 0
 ·obtain rfl:R=4:=by rw[HR.out,if_pos q1]
  have q2:decide (cb < 0)=true:=decide_eq_true q1
  go_wp2_with fail
  go_ret
  exact⟨rfl,fun h=>absurd h (by decide),Kept.of_below D (fun k hk h=>by omega)⟩
 have aw:=yh (HR.out.trans (if_neg q1));have q2:decide (cb < 0)=false:=decide_eq_false q1;clear q1;obtain⟨W1,aP⟩:∃V,V=w1:=⟨_,rfl⟩;subst aP
 go_upto_region 4 with(fail)
 have a0:=HA.out _ D;have y3:yJ W1 y 3 p.B p.m p.cap2:=(ak.out _ D).cell rfl;obtain⟨tv,aF⟩:∃q,q=decide (c < 0∨(p.m:Int)≤c):=⟨_,rfl⟩;have aa:=yh aF;clear aF
 go_cut [14] (fun v Q=>v=.bool tv∧yw w Q)
 case first=>
  by_cases q3:c < 0
  ·have q4:decide (c < 0)=true:=decide_eq_true q3
   go_quiet (fail)
   go_wp2_with fail
   go_meet
   exact⟨by rw[aa.out,decide_eq_true (show c < 0∨(p.m:Int)≤c from .inl q3)],below_drewN D _⟩
  ·have q4:decide (c < 0)=false:=decide_eq_false q3
   by_cases q5:(p.m:Int)≤c
   ·have q6:decide ((p.m:Int)≤c)=true:=decide_eq_true q5
    go_quiet (fail)
    go_wp2_with fail
    go_meet
    exact⟨by rw[aa.out,decide_eq_true (show c < 0∨(p.m:Int)≤c from .inr q5)],below_drewN D _⟩
   ·have q6:decide ((p.m:Int)≤c)=false:=decide_eq_false q5
    go_quiet (fail)
    go_wp2_with fail
    go_meet
    exact⟨by rw[aa.out,decide_eq_false (show ¬(c < 0∨(p.m:Int)≤c)by omega)],below_drewN D _⟩
 obtain⟨rfl,O⟩:=hcut;replace D:=O;clear O a0 y3 c5
 cases tv
 rotate_left
 ·obtain rfl:R=3:=by rw[aw.out,if_pos (of_decide_eq_true aa.out.symm)]
  go_wp2_with fail
  go_ret
  exact⟨rfl,fun h=>absurd h (by decide),Kept.of_below D (fun k hk h=>by omega)⟩
 have ax:=yh (aw.out.trans (if_neg (of_decide_eq_false aa.out.symm)));obtain⟨W2,aQ⟩:∃V,V=wc:=⟨_,rfl⟩;subst aQ;have c5:=ab.out _ D;have a0:=HA.out _ D
 go_upto_region 6 with(fail)
 obtain⟨aH,aG⟩:∃q,q=decide (c=cb):=⟨_,rfl⟩;have aj:=yh aG;clear aG
 go_cut [28] (fun v Q=>v=.bool aH∧yw w Q)
 case first=>
  go_quiet (fail)
  go_wp2_with fail
  go_meet
  exact⟨by rw[aj.out];congr 1,below_drewN D _⟩
 obtain⟨rfl,O⟩:=hcut;replace D:=O;clear O a0 c5
 cases aH
 rotate_left
 ·obtain rfl:R=6:=by rw[ax.out,if_pos (of_decide_eq_true aj.out.symm)]
  go_wp2_with fail
  go_ret
  exact⟨rfl,fun h=>absurd h (by decide),Kept.of_below D (fun k hk h=>by omega)⟩
 have ay:=yh (ax.out.trans (if_neg (of_decide_eq_false aj.out.symm)));obtain⟨W3,aR⟩:∃V,V=wc:=⟨_,rfl⟩;subst aR;have c5:=ab.out _ D;have a0:=HA.out _ D;have f5:W3.frozen? ⟨F,i*11+5,none⟩=false:=XK D aW aq.out
 go_upto_region 8 with(fail)
 go_cut [] (fun Q=>SaiW w0 b0 Q base X p∧Kept (fun k=>k=F) w Q)
 case first=>
  go_wp2_with fail
  go_meet
  exact⟨av.out _ D,(Kept.of_below D (fun k hk h=>by omega)).trans (QMa W3 F [(i*11+5,.int .i64 c)])⟩
 obtain⟨ac,am⟩:=hcut;obtain⟨U,aS⟩:∃V,V=wc:=⟨_,rfl⟩;subst aS;have a4:=(ak.out w (Below.refl _ _)).kept am aX;obtain⟨g9,Z,n4,c4,al,_,_,J,_,aC,_,_⟩:=ac.at aO.out
 obtain rfl:F=g9:=by have:=HC.out;rw[this]at al;injection al with h;injection h
 have ag:=ac.sai;have aI:=yh (fun W (E:yw U W)=>ah.out Z n4 c4 W (by have:=ag.cats.bel E;rwa [aA.out]at this) (by have:=ag.cabs.bel E;rwa [aA.out]at this) (aC.bel E));have aL:=yh (fun W (E:yw U W)=>ai.out W (ag.bel E));have az:=yh ac;have ao:=ZNb a4;rw[←aN.out]at ao;have aK:=yh (show ∀W,yw U W→W.rangeAt y 0 (Qa X p).toList from fun W E j u hu=>Qg E (ao j u hu));have aM:=yh (show ∀W,yw U W→(fun w'=>yI w' y 0 x.ship.legs∧yI w' y 1 x.ship.souls∧yJ w' y 2 p.A p.n p.cap∧yJ w' y 3 p.B p.m p.cap2∧yI w' F (i*11) I.id∧yI w' F (i*11+1) I.kind∧yI w' F (i*11+2) I.state∧yI w' F (i*11+3) I.gst∧w'.cell? ⟨F,i*11+4,none⟩=some (.bool I.lev)∧yI w' F (i*11+5) I.cab∧yI w' F (i*11+6) I.cat∧yI w' F (i*11+7) I.frm∧yI w' F (i*11+8) I.upto∧yI w' F (i*11+9) I.til∧yJ w' F (i*11+10) Z n4 c4) W from fun W E=>⟨Qg E (a4.cell rfl),Qg E (a4.cell rfl),Qg E (a4.cell rfl),Qg E (a4.cell rfl),Qg E (J 0 _ rfl),Qg E (J 1 _ rfl),Qg E (J 2 _ rfl),Qg E (J 3 _ rfl),Qg E (J 4 _ rfl),Qg E (J 5 _ rfl),Qg E (J 6 _ rfl),Qg E (J 7 _ rfl),Qg E (J 8 _ rfl),Qg E (J 9 _ rfl),Qg E (J 10 _ rfl)⟩);have au:=yh am;clear am;clear a4 al J aC ag ao av ah ai ab HA ak aq ac a0 f5 c5 D;have D:yw U U:=Below.refl _ _
 go_upto_region 9 with(fail)
 go_cut [5] (fun v Q=>v=.int .i64 Y∧yw U Q)
 case first=>
  replace D:=D.drew
  go_region_held3 (fun w'=>w'.cell? ⟨y,0,none⟩=some (.int .i64 x.ship.legs)∧w'.cell? ⟨y,1,none⟩=some (.int .i64 x.ship.souls)∧w'.cell? ⟨y,2,none⟩=some (.slice p.A p.n p.cap)∧w'.cell? ⟨y,3,none⟩=some (.slice p.B p.m p.cap2)∧w'.cell? ⟨F,i*11,none⟩=some (.int .i64 I.id)∧w'.cell? ⟨F,i*11+1,none⟩=some (.int .i64 I.kind)∧w'.cell? ⟨F,i*11+2,none⟩=some (.int .i64 I.state)∧w'.cell? ⟨F,i*11+3,none⟩=some (.int .i64 I.gst)∧w'.cell? ⟨F,i*11+4,none⟩=some (.bool I.lev)∧w'.cell? ⟨F,i*11+5,none⟩=some (.int .i64 I.cab)∧w'.cell? ⟨F,i*11+6,none⟩=some (.int .i64 I.cat)∧w'.cell? ⟨F,i*11+7,none⟩=some (.int .i64 I.frm)∧w'.cell? ⟨F,i*11+8,none⟩=some (.int .i64 I.upto)∧w'.cell? ⟨F,i*11+9,none⟩=some (.int .i64 I.til)∧w'.cell? ⟨F,i*11+10,none⟩=some (.slice Z n4 c4)) (first | exact aM.out _ D | go_keep) (first | (go_at_call 104;refine(aI.out _ D).mono ?_;rintro e w5 ⟨rfl,ad⟩;replace D:=D.trans (ad.mono D.size);clear ad))
  go_wp2_with fail
  go_meet
  exact⟨rfl,D⟩
 obtain⟨rfl,O⟩:=hcut;replace D:=O;clear O
 by_cases q5:Y=0
 rotate_left
 ·obtain rfl:R=Y:=by rw[ay.out,if_pos q5]
  have q6:(R != 0)=true:=by simpa using q5
  clear q5
  go_wp2_with fail
  go_ret
  exact⟨rfl,fun h=>az.out.bel D,au.out.trans (Kept.of_below D (fun k hk h=>by omega))⟩
 obtain rfl:R=rm:=by rw[ay.out,if_neg (by rw[q5];simp)]
 have HC:=yh (aL.out _ D q5);have aJ:=yh (aK.out _ D);subst q5
 go_wp2_with (refine wpList_load_mid rfl 32 (.tmp 53) rfl y 0 rfl _ _ aJ.out Tryz.underlying32 rfl (by kernel_rfl) ?_)
 refine HC.out.mono ?_;rintro e w5 ⟨rfl,ad⟩;replace D:=D.trans (ad.mono D.size)
 go_wp2_with fail
 go_ret
 exact⟨rfl,fun h=>az.out.bel D,au.out.trans (Kept.of_below D (fun k hk h=>by omega))⟩
end Go.Proofs.YtjdcokpmgionjaaGreat
