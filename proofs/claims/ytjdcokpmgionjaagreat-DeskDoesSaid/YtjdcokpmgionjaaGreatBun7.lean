/-
  Laws and contracts.
-/
import Derived.Test.YtjdcokpmgionjaaGreatBun3
import Derived.Test.YtjdcokpmgionjaaGreatBun5
import Derived.Test.YtjdcokpmgionjaaGreatBun6
import Derived.Shelf.SlSortCmp.WholeK
import Derived.Shelf.SlSortCmp.NoneTotal
import Derived.Deep.RegionHeld3
set_option linter.unusedSimpArgs false
set_option linter.unusedVariables false
set_option maxRecDepth 100000
set_option maxHeartbeats 20000000
namespace Go.Proofs.YtjdcokpmgionjaaGreat
open Proofs.Tryz Go.RowKit Go.Shelf
theorem Urb (x y:Span):Q2 x y=Q2 y x:=by
 unfold Q2;rw[Bool.and_comm]
def Via (out:List Span) (s:Span):Option (List Span):=if adE out s=0 then some (Ug s out)else none
def spF (ls:List Span):Option (List Span):=ls.foldl (fun o s=>o.bind (fun out=>Via out s)) (some [])
theorem UQa (ls:List Span)(s:Span):spF (ls++[s])=(spF ls).bind (fun out=>Via out s):=by
 unfold spF;rw[List.foldl_append];rfl
theorem X2a {l:List Span}{s:Span} : adE l s=0↔l.any (fun x=>Q2 x s)=false:=by
 unfold adE;cases h:l.any (fun x=>Q2 x s)
 ·simp
 ·simp
theorem YQa {α:Type}{p:List α→Prop}(A:p [])(D:∀l x,p l→p (l++[x])):∀l,p l:=fun l=>by
 have:∀l:List α,p l.reverse:=fun l=>by
  induction l with
  | nil=>exact A
  | cons x l ih=>rw[List.reverse_cons];exact D _ _ ih
 have h:=this l.reverse
 rwa [List.reverse_reverse]at h
theorem USb:∀ls:List Span,∀out:List Span,(∀x∈ls,x.frm < x.upto)→spF ls=some out→out.Perm ls∧out.Pairwise (fun x y=>x.upto≤y.frm):=by
 refine YQa (p:=fun ls=>∀out:List Span,(∀x∈ls,x.frm < x.upto)→spF ls=some out→out.Perm ls∧out.Pairwise (fun x y=>x.upto≤y.frm)) ?_ ?_
 ·intro out _ h;injection h with h;subst h;exact⟨List.Perm.refl _,List.Pairwise.nil⟩
 ·intro ls s I out A h;rw[UQa]at h
  cases ho:spF ls with
  | none=>rw[ho]at h;cases h
  | some o=>
   rw[ho]at h;have h:Via o s=some out:=h;unfold Via at h;by_cases h1:adE o s=0
   ·rw[M3 h1]at h;injection h with h;subst h;obtain⟨E,F⟩:=I _ (fun x D=>A x (List.mem_append_left _ D)) ho;exact⟨(Uoa s o).trans (E.append_right [s]),VLb (A s (by simp)) (fun x D=>A x (List.mem_append_left _ (E.subset D))) F (X2a.1 h1)⟩
   ·rw[M2 h1]at h;cases h
theorem XT {ls out:List Span}(A:∀x∈ls,x.frm < x.upto)(D:spF ls=some out):out.Perm ls∧out.Pairwise (fun x y=>x.upto≤y.frm):=USb ls out A D
theorem QWb:∀ls:List Span,(∀x∈ls,x.frm < x.upto)→ls.Pairwise (fun x y=>Q2 x y=false)→∃out,spF ls=some out:=by
 refine YQa (p:=fun ls=>(∀x∈ls,x.frm < x.upto)→ls.Pairwise (fun x y=>Q2 x y=false)→∃out,spF ls=some out) (fun _ _=>⟨[],rfl⟩) ?_;intro ls s J F D;rw[List.pairwise_append]at D;obtain⟨o,E⟩:=J (fun x A=>F x (List.mem_append_left _ A)) D.1;have I:=(XT (fun x A=>F x (List.mem_append_left _ A)) E).1;rw[UQa,E];refine⟨Ug s o,?_⟩
 show Via o s=_
 unfold Via;rw[M3 (X2a.2 (List.any_eq_false.2 fun x A=>by rw[D.2.2 x (I.subset A) s (by simp)];simp))]
theorem Zra {ls:List Span}(A:∀x∈ls,x.frm < x.upto)(D:ls.Pairwise (fun x y=>Q2 x y=false)):∃out,spF ls=some out:=QWb ls A D
theorem UBa {R:Span→Span→Prop}(D:∀x y z,R x y→R y z→R x z):∀{s:List Span},(∀i x y,s[i]? = some x→s[i+1]? = some y→R x y)→s.Pairwise R
 | [],_=>List.Pairwise.nil
 | [x],_=>by simp
 | x::y::s,h=>by
  have F:=UBa D (s:=y::s) (fun i a b I J=>h (i+1) a b (by simpa using I) (by simpa using J));have E:=h 0 x y rfl rfl;rw[List.pairwise_cons];refine⟨fun z A=>?_,F⟩;rcases List.mem_cons.1 A with rfl | A
  ·exact E
  ·exact D x y z E ((List.pairwise_cons.1 F).1 z A)
theorem V3a {s:List Span}(h:s.Pairwise (fun x y=>x.upto≤y.frm)):s.Pairwise (fun x y=>Q2 x y=false):=
 h.imp fun A=>by unfold Q2;simp;omega
theorem UVb {ls s:List Span}(D:∀x∈ls,x.frm < x.upto)(I:s.Perm ls)(Y:s.Pairwise (fun x y=>x.frm≤y.frm)) :
  ((∀i x y,s[i]? = some x→s[i+1]? = some y→Q2 x y=false)→spF ls=some s)∧((∃i x y,s[i]? = some x∧s[i+1]? = some y∧Q2 x y=true)→spF ls=none):=by
 have X:∀x∈s,x.frm < x.upto:=fun x A=>D x (I.subset A)
 have Z:∀{x y:Span},Q2 x y=false→Q2 y x=false:=fun {x y} h=>by rw[Urb];exact h
 refine⟨fun h=>?_,fun h=>?_⟩
 ·have hw:s.Pairwise (fun x y=>x.upto≤y.frm):=by
   refine List.Pairwise.imp (R:=fun x y=>x.upto≤y.frm∧y.frm < y.upto) (fun h=>h.1) (UBa (fun x y z V h2=>⟨by omega,h2.2⟩) fun i x y A E=>?_);have ab:=X x (J6 A);have aa:=X y (J6 E)
   have ac:x.frm≤y.frm:=by
    obtain⟨O,rfl⟩:=J0.1 A;obtain⟨Q,rfl⟩:=J0.1 E;exact List.pairwise_iff_getElem.1 Y i (i+1) O Q (by omega)
   rcases Uwa (h i x y A E) ab aa with e | e
   ·exact⟨e,aa⟩
   ·omega
  obtain⟨o,F⟩:=Zra D ((I.pairwise_iff (fun {x y}=>Z)).1 (V3a hw));obtain⟨J,U⟩:=XT D F;rw[F,Voa (I.trans J.symm) Y (YGb (fun x A=>D x (J.subset A)) U)]
 ·obtain⟨i,x,y,A,E,W⟩:=h
  cases F:spF ls with
  | none=>rfl
  | some o=>
   obtain⟨J,U⟩:=XT D F;have V:s.Pairwise (fun x y=>Q2 x y=false):=((I.trans J.symm).pairwise_iff (fun {x y}=>Z)).2 (V3a U);obtain⟨O,rfl⟩:=J0.1 A;obtain⟨Q,rfl⟩:=J0.1 E;have:=List.pairwise_iff_getElem.1 V i (i+1) O Q (by omega);rw[this]at W;exact absurd W (by simp)
structure Bkg where
 id:Int
 kind:Int
 state:Int
 gst:Int
 lev:Bool
 cab:Int
 cat:Int
 frm:Int
 upto:Int
 til:Int
 fol:List Entry
 deriving Inhabited
structure BkIn (x:Bkg):Prop where
 id:InI x.id
 kind:InI x.kind
 state:InI x.state
 gst:InI x.gst
 cab:InI x.cab
 cat:InI x.cat
 frm:InI x.frm
 upto:InI x.upto
 til:InI x.til
abbrev Qj (x:Bkg) (v:Value):Array Value:=#[.int .i64 x.id,.int .i64 x.kind,.int .i64 x.state,.int .i64 x.gst,.bool x.lev,.int .i64 x.cab,.int .i64 x.cat,.int .i64 x.frm,.int .i64 x.upto,.int .i64 x.til,v]
def ZJ:Cod Bkg:=fun w S x cs=>∃A n cap,cs=(Qj x (.slice A n cap)).toList∧Sl Ql 3 w S A n cap x.fol∧BkIn x
theorem XF:Good ZJ:=⟨fun h E=>by
  obtain⟨A,n,cap,rfl,h,F⟩:=h
  exact⟨A,n,cap,rfl,h.keep Qb (by omega) E,F⟩,fun h u D=>by
  obtain⟨A,n,cap,rfl,h,F⟩:=h
  simp[Qj]at D;rcases D with rfl | rfl | rfl | rfl | rfl | rfl | rfl | rfl | rfl | rfl | rfl<;>rfl⟩
instance bkgK:CodK ZJ 11:=⟨XF,by omega⟩
instance entryK:CodK Ql 3:=⟨Qb,by omega⟩
def Yi (c:Cab) (b:Bkg):Bool:=decide (b.gst≤c.ber) && (c.lev || !b.lev)
def Qxa (x:Shp) (i:Int):Cab:=x.cabs.getD i.toNat default
def Zd (x:Shp) (b:Bkg) (i:Int):Bool:=Yi (Qxa x i) b && Zsa (QW x.cats) (Qxa x i).cat.toNat b.cat.toNat
def Yz (x:Shp) (b:Bkg):Int:=if Qd b.cab 0 ((x.cabs.length:Int) - 1)=false then 3 else if b.cat≠0 then 1 else if Yi (Qxa x b.cab) b=false then 4 else 0
def QSa (x:Shp) (b:Bkg):Int:=if Qd b.cat 0 ((x.cats.length:Int) - 1)=false then 3 else if b.frm≠0∨b.upto≠x.legs then 4 else if Qd b.cab (-1) ((x.cabs.length:Int) - 1)=false then 3
 else if 0≤b.cab∧Zd x b b.cab=false then 4 else 0
def kindE (x:Shp) (b:Bkg):Int:=if b.kind=2 then QSa x b else Yz x b
def ofE (x:Shp) (b:Bkg):Int:=if (Qd b.kind 1 2 && Qd b.state 1 3)=false then 7 else if (Qd b.id 1 999999 && Qd b.gst 1 4)=false then 3 else if VA ⟨b.frm,b.upto⟩ x.legs≠0 then VA ⟨b.frm,b.upto⟩ x.legs
 else if kindE x b≠0 then kindE x b else if Qd b.til 0 9999=false then 3 else if b.til≠0∧b.state≠1 then 1 else Qe b.fol
def Qx (b:Bkg):Bool:=!decide (b.state=3)
def UK (c:Int) (b:Bkg):Bool:=Qx b && decide (b.cab=c)
def spL (l:List Bkg) (c:Int):List Span:=(l.filter (UK c)).map (fun b=>⟨b.frm,b.upto⟩)
def Ui (l:List Bkg) (k:Nat):Int:=(l.map (fun b=>if Qx b=true∧b.frm≤k∧(k:Int) < b.upto then b.gst else 0)).sum
def QS (l:List Bkg) (legs:Nat):List Int:=(List.range legs).map (Ui l)
abbrev Vob (c:Cab):Array Value:=#[Zb c.name,.int .i64 c.cat,.int .i64 c.ber,.bool c.lev]
theorem ZW (n a b:Int)(w:World):Calls prog 122 #[.int .i64 n,.int .i64 a,.int .i64 b] w fun e w'=>e=.returned (.bool (Qd n a b))∧w=w':=by
 go_enter func122,ntmps122;go_wp2
 all_goals go_ret
 all_goals exact⟨Un (by unfold Qd;simp;try omega),rfl⟩
theorem Yma {c:Cab}{b:Bkg}(h:b.gst≤c.ber):Yi c b=(c.lev || !b.lev):=by unfold Yi;rw[J2 h];rfl
theorem VKa {c:Cab}{b:Bkg}(h:¬b.gst≤c.ber):Yi c b=false:=by unfold Yi;rw[J3 h];rfl
theorem Qg {B:Nat}{W X:World}{p:Addr}{v:Value}(E:Below B W X)(A:W.cell? p=some v)(D:B=W.heap.size:=by rfl):X.cell? p=some v:=(World.cell?_of_block (E.block _ (by rw[D];exact World.block_lt_of_cell? W p A))).trans A
theorem VBa (c:Cab)(x:Bkg)(v:Value)(w:World) :
  Calls prog 232 #[.agg (Vob c),.agg (Qj x v)] w fun e w'=>e=.returned (.bool (Yi c x))∧yw w w':=by
 obtain⟨W,O,A,F⟩:=c;obtain⟨id,V,X,D,lev,I,J,U,upto,Y,Q⟩:=x;obtain⟨r,E⟩:=yE (Yi ⟨W,O,A,F⟩ ⟨id,V,X,D,lev,I,J,U,upto,Y,Q⟩);rw[←E];have HT:=yh (fun h:D≤A=>E.trans (Yma (c:=⟨W,O,A,F⟩) (b:=⟨id,V,X,D,lev,I,J,U,upto,Y,Q⟩) h));have HF:=yh (fun h:¬D≤A=>E.trans (VKa (c:=⟨W,O,A,F⟩) (b:=⟨id,V,X,D,lev,I,J,U,upto,Y,Q⟩) h));clear E;go_enter func232,ntmps232;go_upto_region 0 with(fail);go_cut [2,3,4] (fun p q _ Z=>∃g k,yp p g∧yp q k∧Blk Z g (Vob ⟨W,O,A,F⟩) 136∧Blk Z k (Qj ⟨id,V,X,D,lev,I,J,U,upto,Y,Q⟩ v) 63∧yw w Z)
 case first=>as_aux_lemma=>
  go_wp2_with fail;go_meet;exact⟨_,_,rfl,rfl,QB _ _ _,QC _ _ _,Zl _ _ _⟩
 obtain⟨g,k,rfl,rfl,hG,hK,hb⟩:=hcut;have g2:yI wc g 2 A:=hG.cell rfl;have g3:wc.cell? ⟨g,3,none⟩=some (.bool F):=hG.cell rfl;have k3:yI wc k 3 D:=hK.cell rfl;have k4:wc.cell? ⟨k,4,none⟩=some (.bool lev):=hK.cell rfl;by_cases h1:D≤A
 ·have E:=HT h1;cases F<;>cases lev<;>(simp at E;subst E;go_wp2_with fail;go_ret;exact⟨rfl,hb⟩)
 ·obtain rfl:=HF h1
  have h2:A < D:=by omega
  go_wp2_with fail;go_ret;exact⟨rfl,hb⟩
theorem Zwa (c:Cab)(x:Bkg)(v:Value)(w:World) :
  Calls prog 146 #[.agg (Vob c),.agg (Qj x v)] w fun e w'=>e=.returned (.bool (Yi c x))∧yw w w':=by
 obtain⟨W,O,A,F⟩:=c;obtain⟨id,V,X,D,lev,I,J,U,upto,Y,Q⟩:=x;obtain⟨r,E⟩:=yE (Yi ⟨W,O,A,F⟩ ⟨id,V,X,D,lev,I,J,U,upto,Y,Q⟩);rw[←E];have HT:=yh (fun h:D≤A=>E.trans (Yma (c:=⟨W,O,A,F⟩) (b:=⟨id,V,X,D,lev,I,J,U,upto,Y,Q⟩) h));have HF:=yh (fun h:¬D≤A=>E.trans (VKa (c:=⟨W,O,A,F⟩) (b:=⟨id,V,X,D,lev,I,J,U,upto,Y,Q⟩) h));clear E;go_enter func146,ntmps146;go_upto_region 0 with(fail);go_cut [2,3,4] (fun p q _ Z=>∃g k,yp p g∧yp q k∧Blk Z g (Vob ⟨W,O,A,F⟩) 136∧Blk Z k (Qj ⟨id,V,X,D,lev,I,J,U,upto,Y,Q⟩ v) 63∧yw w Z)
 case first=>as_aux_lemma=>
  go_wp2_with fail;go_meet;exact⟨_,_,rfl,rfl,QB _ _ _,QC _ _ _,Zl _ _ _⟩
 obtain⟨g,k,rfl,rfl,hG,hK,hb⟩:=hcut;have g2:yI wc g 2 A:=hG.cell rfl;have g3:wc.cell? ⟨g,3,none⟩=some (.bool F):=hG.cell rfl;have k3:yI wc k 3 D:=hK.cell rfl;have k4:wc.cell? ⟨k,4,none⟩=some (.bool lev):=hK.cell rfl;by_cases h1:D≤A
 ·have E:=HT h1;cases F<;>cases lev<;>(simp at E;subst E;go_wp2_with fail;go_ret;exact⟨rfl,hb⟩)
 ·obtain rfl:=HF h1
  have h2:A < D:=by omega
  go_wp2_with fail;go_ret;exact⟨rfl,hb⟩
theorem Qgb {x:Shp}(F:OkShp x){k:Nat}(E:k < x.cabs.length):0≤(x.cabs.getD k default).cat∧(x.cabs.getD k default).cat < x.cats.length∧Qd (x.cabs.getD k default).ber 1 4=true:=by
 have h:=UQ F.cabs k E;unfold nmE at h;by_cases h1:Vp ((Qr x.cabs).getD k [])=false
 ·rw[M3 h1]at h;omega
 rw[M2 h1]at h;by_cases h2:((Qr x.cabs).take k).contains ((Qr x.cabs).getD k [])=true
 ·rw[M3 h2]at h;omega
 rw[M2 h2]at h;unfold Qca at h;dsimp only at h;by_cases h3:Qd (x.cabs.getD k default).cat 0 ((x.cats.length:Int) - 1)=false∨Qd (x.cabs.getD k default).ber 1 4=false
 ·rw[M3 h3]at h;omega
 ·have A:Qd (x.cabs.getD k default).cat 0 ((x.cats.length:Int) - 1)=true:=by
   cases e:Qd (x.cabs.getD k default).cat 0 ((x.cats.length:Int) - 1)
   ·exact absurd (.inl e) h3
   ·rfl
  have D:=Qm.1 A;refine⟨D.1,by omega,?_⟩;cases e:Qd (x.cabs.getD k default).ber 1 4
  ·exact absurd (.inr e) h3
  ·rfl
theorem Sl.cab {w:World}{B:Option Addr}{m O:Nat}{l:List Cab}(h:Sl Uj 4 w All B m O l){k:Nat}(Y:k < m):∃(b A:Nat) (J:List UInt8) (E D:Int) (I:Bool),B=some ⟨b,A,none⟩∧l.getD k default=⟨J,E,D,I⟩∧
  w.cell? ⟨b,A+k*4,none⟩=some (Zb J)∧w.cell? ⟨b,A+k*4+1,none⟩=some (.int .i64 E)∧w.cell? ⟨b,A+k*4+2,none⟩=some (.int .i64 D)∧w.cell? ⟨b,A+k*4+3,none⟩=some (.bool I):=by
 obtain⟨b,A,x,c0,c1,c2,c3,X,Z,⟨F,_⟩,Q,U,V,W⟩:=h.at4 Y;simp only[List.cons.injEq,and_true]at F;obtain⟨rfl,rfl,rfl,rfl⟩:=F;exact⟨b,A,x.name,x.cat,x.ber,x.lev,X,by rw[J7,Z];rfl,Q,U,V,W⟩
theorem Qsa (x:Shp)(A:Option Addr)(n cap:Nat)(B:Option Addr)(m U:Nat)(b:Bkg)(v:Value)(k:Nat)(w:World)(hc:Sl UI 2 w All A n cap x.cats)(hb:Sl Uj 4 w All B m U x.cabs)(ho:OkShp x)
  (hk:k < m) (h0:0≤b.cat) (h1:b.cat < n) :
  Calls prog 191 #[.agg #[.int .i64 x.legs,.int .i64 x.souls,.slice A n cap,.slice B m U],.agg (Qj b v),.int .i64 (k:Int)] w fun e w'=>e=.returned (.bool (Zd x b k))∧yw w w':=by
 obtain⟨id,Y,aa,ao,lev,Q,ag,V,upto,ab,ac⟩:=b;simp only at h0 h1;obtain⟨q,rfl⟩:∃q:Nat,ag=q:=⟨ag.toNat,by omega⟩
 have hq:q < n:=by omega
 obtain⟨r,hr⟩:=yE (Zd x ⟨id,Y,aa,ao,lev,Q,(q:Int),V,upto,ab,ac⟩ k);rw[←hr];obtain⟨b,ae,nm,E,O,Z,hB,hx,e0,e1,e2,e3⟩:=hb.cab hk;subst hB;have af:=Qgb ho (k:=k) (by rw[hb.len];exact hk);rw[hx,hc.len]at af;simp only at af;obtain⟨E,rfl⟩:∃d:Nat,E=d:=⟨E.toNat,by omega⟩
 have al:E < n:=by omega
 have ai:Qxa x k=⟨nm,E,O,Z⟩:=hx;have HR:=yh (show r=(Yi ⟨nm,E,O,Z⟩ ⟨id,Y,aa,ao,lev,Q,(q:Int),V,upto,ab,ac⟩ && Zsa (QW x.cats) E q)by rw[hr];unfold Zd;rw[ai];rfl);have HM:=yh (fun W h=>X3b x.legs x.souls A n cap x.cats (.slice (some ⟨b,ae,none⟩) m U) E q W h ho.ok al hq);have HF:=yh (fun W=>VBa ⟨nm,E,O,Z⟩ ⟨id,Y,aa,ao,lev,Q,(q:Int),V,upto,ab,ac⟩ v W);have HC:=yh hc;have HB:=yh hb;clear hr hx af hc hb h0 h1 ai;go_enter func191,ntmps191;go_upto_region 0 with(fail);go_cut [3,4,6] (fun p p2 _ wx=>∃g h,yp p g∧yp p2 h∧Blk wx g #[.int .i64 x.legs,.int .i64 x.souls,.slice A n cap,.slice (some ⟨b,ae,none⟩) m U] 25∧Blk wx h (Qj ⟨id,Y,aa,ao,lev,Q,(q:Int),V,upto,ab,ac⟩ v) 63∧yw w wx)
 case first=>as_aux_lemma=>
  go_wp2_with fail;go_meet;exact⟨_,_,rfl,rfl,QB _ _ _,QC _ _ _,Zl _ _ _⟩
 obtain⟨g,h,rfl,rfl,F,hH,D⟩:=hcut;have g3:yJ wc g 3 (some ⟨b,ae,none⟩) m U:=F.cell rfl;replace e0:=Qg D e0;replace e1:=Qg D e1;replace e2:=Qg D e2;replace e3:=Qg D e3;go_upto_region 1 with(fail);obtain⟨w1,rfl⟩:=yE wc;go_cut [7] (fun p wx=>∃z,yp p z∧Blk wx z (Vob ⟨nm,E,O,Z⟩) 136∧yw w1 wx)
 case first=>as_aux_lemma=>
  go_wp2_with fail;go_meet;exact⟨_,rfl,Zg _ _,Qi _ _⟩
 obtain⟨z,rfl,I,ad⟩:=hcut;replace F:=F.bel ad;replace hH:=hH.bel ad;replace D:=D.trans (ad.mono D.size);clear ad e0 e1 e2 e3 g3;obtain⟨f,hf⟩:=yE (Yi ⟨nm,E,O,Z⟩ ⟨id,Y,aa,ao,lev,Q,(q:Int),V,upto,ab,ac⟩);rw[←hf]at HF HR;clear hf;have k0:yI wc h 0 id:=hH.cell rfl;have k1:yI wc h 1 Y:=hH.cell rfl;have k2:yI wc h 2 aa:=hH.cell rfl;have k3:yI wc h 3 ao:=hH.cell rfl;have k4:wc.cell? ⟨h,4,none⟩=some (.bool lev):=hH.cell rfl;have k5:yI wc h 5 Q:=hH.cell rfl;have k6:yI wc h 6 (q:Int):=hH.cell rfl;have k7:yI wc h 7 V:=hH.cell rfl;have k8:yI wc h 8 upto:=hH.cell rfl;have k9:yI wc h 9 ab:=hH.cell rfl;have am:wc.cell? ⟨h,10,none⟩=some (v):=hH.cell rfl;have z0:wc.cell? ⟨z,0,none⟩=some (Zb nm):=I.cell rfl;have z1:yI wc z 1 (E:Int):=I.cell rfl;have z2:yI wc z 2 O:=I.cell rfl;have z3:wc.cell? ⟨z,3,none⟩=some (.bool Z):=I.cell rfl;go_wp2_with fail;refine yM (HF _) fun J X=>?_;cases f
 ·obtain rfl:r=false:=HR.out;go_wp2_with fail;go_ret;exact⟨rfl,D.trans (X.mono D.size)⟩
 ·obtain⟨s,hs⟩:=yE (Zsa (QW x.cats) E q);rw[←hs]at HM HR
  obtain rfl:r=s:=by rw[HR.out];rfl
  clear hs;replace F:=F.bel X;replace hH:=hH.bel X;replace I:=I.bel X;replace D:=D.trans (X.mono D.size);clear X k0 k1 k2 k3 k4 k5 k6 k7 k8 k9 am z0 z1 z2 z3;have g0:yI J g 0 x.legs:=F.cell rfl;have g1:yI J g 1 x.souls:=F.cell rfl;have g2:yJ J g 2 A n cap:=F.cell rfl;have g3:yJ J g 3 (some ⟨b,ae,none⟩) m U:=F.cell rfl;have z1:yI J z 1 (E:Int):=I.cell rfl;have h6:yI J h 6 (q:Int):=hH.cell rfl;have ah:=HM J (HC.bel D);have aj:=yh ah;clear ah;go_wp2_with fail;refine yM aj fun w3 ak=>?_;go_wp2_with fail;go_ret;exact⟨rfl,D.trans (ak.mono D.size)⟩
theorem VQ (x:Shp)(A:Option Addr)(n cap:Nat)(B:Option Addr)(m Y:Nat)(b:Bkg)(v:Value)(k:Nat)(w:World)(hc:Sl UI 2 w All A n cap x.cats)(hb:Sl Uj 4 w All B m Y x.cabs)(ho:OkShp x)
  (hk:k < m) (h0:0≤b.cat) (h1:b.cat < n) :
  Calls prog 147 #[.agg #[.int .i64 x.legs,.int .i64 x.souls,.slice A n cap,.slice B m Y],.agg (Qj b v),.int .i64 (k:Int)] w fun e w'=>e=.returned (.bool (Zd x b k))∧yw w w':=by
 obtain⟨id,V,aq,U,lev,O,aj,Q,upto,ar,ad⟩:=b;simp only at h0 h1;obtain⟨q,rfl⟩:∃q:Nat,aj=q:=⟨aj.toNat,by omega⟩
 have hq:q < n:=by omega
 obtain⟨r,hr⟩:=yE (Zd x ⟨id,V,aq,U,lev,O,(q:Int),Q,upto,ar,ad⟩ k);rw[←hr];obtain⟨b,F,nm,I,aa,lv,hB,hx,e0,e1,e2,e3⟩:=hb.cab hk;subst hB;have ah:=Qgb ho (k:=k) (by rw[hb.len];exact hk);rw[hx,hc.len]at ah;simp only at ah;obtain⟨I,rfl⟩:∃d:Nat,I=d:=⟨I.toNat,by omega⟩
 have am:I < n:=by omega
 have ak:Qxa x k=⟨nm,I,aa,lv⟩:=hx;have HR:=yh (show r=(Yi ⟨nm,I,aa,lv⟩ ⟨id,V,aq,U,lev,O,(q:Int),Q,upto,ar,ad⟩ && Zsa (QW x.cats) I q)by rw[hr];unfold Zd;rw[ak];rfl);have HM:=yh (fun W h=>U5a x.legs x.souls A n cap x.cats (.slice (some ⟨b,F,none⟩) m Y) I q W h ho.ok am hq);have HF:=yh (fun W=>Zwa ⟨nm,I,aa,lv⟩ ⟨id,V,aq,U,lev,O,(q:Int),Q,upto,ar,ad⟩ v W);have HC:=yh hc;have HB:=yh hb;clear hr hx ah hc hb h0 h1 ak;go_enter func147,ntmps147;go_upto_region 0 with(fail);go_cut [3,4,6] (fun p p2 _ wx=>∃g h,yp p g∧yp p2 h∧Blk wx g #[.int .i64 x.legs,.int .i64 x.souls,.slice A n cap,.slice (some ⟨b,F,none⟩) m Y] 25∧Blk wx h (Qj ⟨id,V,aq,U,lev,O,(q:Int),Q,upto,ar,ad⟩ v) 63∧yw w wx)
 case first=>as_aux_lemma=>
  go_wp2_with fail;go_meet;exact⟨_,_,rfl,rfl,QB _ _ _,QC _ _ _,Zl _ _ _⟩
 obtain⟨g,h,rfl,rfl,hG,J,ae⟩:=hcut;replace e0:=Qg ae e0;replace e1:=Qg ae e1;replace e2:=Qg ae e2;replace e3:=Qg ae e3;have g0:yI wc g 0 x.legs:=hG.cell rfl;have g1:yI wc g 1 x.souls:=hG.cell rfl;have g2:yJ wc g 2 A n cap:=hG.cell rfl;have g3:yJ wc g 3 (some ⟨b,F,none⟩) m Y:=hG.cell rfl;have k0:yI wc h 0 id:=J.cell rfl;have k1:yI wc h 1 V:=J.cell rfl;have k2:yI wc h 2 aq:=J.cell rfl;have k3:yI wc h 3 U:=J.cell rfl;have k4:wc.cell? ⟨h,4,none⟩=some (.bool lev):=J.cell rfl;have k5:yI wc h 5 O:=J.cell rfl;have k6:yI wc h 6 (q:Int):=J.cell rfl;have k7:yI wc h 7 Q:=J.cell rfl;have k8:yI wc h 8 upto:=J.cell rfl;have k9:yI wc h 9 ar:=J.cell rfl;have ag:wc.cell? ⟨h,10,none⟩=some (v):=J.cell rfl;obtain⟨f,hf⟩:=yE (Yi ⟨nm,I,aa,lv⟩ ⟨id,V,aq,U,lev,O,(q:Int),Q,upto,ar,ad⟩);rw[←hf]at HF HR;clear hf
 have ai:=yh (fun(X:World) (D:yw wc X)=>And.intro (And.intro (Qg D g0) (And.intro (Qg D g1) (And.intro (Qg D g2) (Qg D g3)))) (And.intro (And.intro (Qg D e0) (And.intro (Qg D e1) (And.intro (Qg D e2) (Qg D e3))))
  (And.intro (Qg D k0) (And.intro (Qg D k1) (And.intro (Qg D k2) (And.intro (Qg D k3) (And.intro (Qg D k4) (And.intro (Qg D k5) (And.intro (Qg D k6) (And.intro (Qg D k7) (And.intro (Qg D k8) (And.intro (Qg D k9) (Qg D ag)))))))))))))
 have E:yw wc wc.drew:=(J4 _ wc).drew;have ab:=yh ae;replace e0:=Qg E e0;replace e1:=Qg E e1;replace e2:=Qg E e2;replace e3:=Qg E e3;replace g3:=Qg E g3;replace k0:=Qg E k0;replace k1:=Qg E k1;replace k2:=Qg E k2;replace k3:=Qg E k3;replace k4:=Qg E k4;replace k5:=Qg E k5;replace k6:=Qg E k6;replace k7:=Qg E k7;replace k8:=Qg E k8;replace k9:=Qg E k9;replace ag:=Qg E ag;have an:(0:Int)≤(k:Int):=Int.natCast_nonneg _
 have ao:(k:Int) < (m:Int):=by omega
 clear g0 g1 g2 hG J;have ac:=yh (show ∀X,yw wc X→(fun w'=>(yI w' g 0 x.legs∧yI w' g 1 x.souls∧yJ w' g 2 A n cap∧yJ w' g 3 (some ⟨b,F,none⟩) m Y)∧(w'.cell? ⟨b,F+k*4,none⟩=some (Zb nm)∧yI w' b (F+k*4+1) (I:Int)∧yI w' b (F+k*4+2) aa∧w'.cell? ⟨b,F+k*4+3,none⟩=some (.bool lv))∧(yI w' h 0 id∧yI w' h 1 V∧yI w' h 2 aq∧yI w' h 3 U∧w'.cell? ⟨h,4,none⟩=some (.bool lev)∧yI w' h 5 O∧yI w' h 6 (q:Int)∧yI w' h 7 Q∧yI w' h 8 upto∧yI w' h 9 ar∧w'.cell? ⟨h,10,none⟩=some v)) X from ai);have hb:=E;clear k0 k1 k2 k3 k4 k5 k6 k7 k8 k9 ag e0 e1 e2 e3 g3 ai E;cases f
 ·obtain rfl:r=false:=HR.out;go_upto_region 1 with(fail);refine yZ (S:=(fun w'=>(yI w' g 0 x.legs∧yI w' g 1 x.souls∧yJ w' g 2 A n cap∧yJ w' g 3 (some ⟨b,F,none⟩) m Y)∧(w'.cell? ⟨b,F+k*4,none⟩=some (Zb nm)∧yI w' b (F+k*4+1) (I:Int)∧yI w' b (F+k*4+2) aa∧w'.cell? ⟨b,F+k*4+3,none⟩=some (.bool lv))∧(yI w' h 0 id∧yI w' h 1 V∧yI w' h 2 aq∧yI w' h 3 U∧w'.cell? ⟨h,4,none⟩=some (.bool lev)∧yI w' h 5 O∧yI w' h 6 (q:Int)∧yI w' h 7 Q∧yI w' h 8 upto∧yI w' h 9 ar∧w'.cell? ⟨h,10,none⟩=some v))) (ac _ hb) fun af=>?_;refine yT [0,1,2,3,4,5] ?_;iterate 6 (refine yS ?_;simp only[yU])
  refine yR 6 fun K hK=>?_;go_simp
  (go_at_call 146;refine yM (HF _) fun w2 Z=>?_;replace hb:=hb.trans (Z.mono hb.size);clear Z)
  go_wp2_with fail;refine hK.out _ _ (ac _ hb) fun af=>?_;clear hK K
  try simp only[yU]
  refine yT [7] ?_;iterate 1 (refine yS ?_;simp only[yU])
  refine wpAnyH_take (i:=8) (v:=undef) (gA rfl) (by kernel_rfl) (by kernel_rfl) (by kernel_rfl) (fun _ _ _ h=>h) (Or.inr ⟨rfl,rfl⟩) (by assumption) ?_;simp only[yU];refine wpAnyH_take (i:=9) (v:=undef) (gA rfl) (by kernel_rfl) (by kernel_rfl) (by kernel_rfl) (fun _ _ _ h=>h) (Or.inr ⟨rfl,rfl⟩) (by assumption) ?_;simp only[yU];refine wpAnyH_take (i:=10) (v:=undef) (gA rfl) (by kernel_rfl) (by kernel_rfl) (by kernel_rfl) (fun _ _ _ h=>h) (Or.inr ⟨rfl,rfl⟩) (by assumption) ?_;simp only[yU];refine wpAnyH_take (i:=11) (v:=undef) (gA rfl) (by kernel_rfl) (by kernel_rfl) (by kernel_rfl) (fun _ _ _ h=>h) (Or.inr ⟨rfl,rfl⟩) (by assumption) ?_;simp only[yU];refine wpAnyH_take (i:=12) (v:=undef) (gA rfl) (by kernel_rfl) (by kernel_rfl) (by kernel_rfl) (fun _ _ _ h=>h) (Or.inr ⟨rfl,rfl⟩) (by assumption) ?_;simp only[yU];refine wpAnyH_take (i:=13) (v:=undef) (gA rfl) (by kernel_rfl) (by kernel_rfl) (by kernel_rfl) (fun _ _ _ h=>h) (Or.inr ⟨rfl,rfl⟩) (by assumption) ?_;simp only[yU];refine wpAnyH_take (i:=14) (v:=undef) (gA rfl) (by kernel_rfl) (by kernel_rfl) (by kernel_rfl) (fun _ _ _ h=>h) (Or.inr ⟨rfl,rfl⟩) (by assumption) ?_;simp only[yU];refine wpAnyH_take (i:=15) (v:=undef) (gA rfl) (by kernel_rfl) (by kernel_rfl) (by kernel_rfl) (fun _ _ _ h=>h) (Or.inr ⟨rfl,rfl⟩) (by assumption) ?_;simp only[yU];refine wpAnyH_take (i:=16) (v:=undef) (gA rfl) (by kernel_rfl) (by kernel_rfl) (by kernel_rfl) (fun _ _ _ h=>h) (Or.inr ⟨rfl,rfl⟩) (by assumption) ?_;simp only[yU];refine wpAnyH_take (i:=17) (v:=undef) (gA rfl) (by kernel_rfl) (by kernel_rfl) (by kernel_rfl) (fun _ _ _ h=>h) (Or.inr ⟨rfl,rfl⟩) (by assumption) ?_;simp only[yU];refine yT [18,19] ?_;iterate 2 (refine yS ?_;simp only[yU])
  refine yD ?_;go_wp2_with fail;go_ret;exact⟨rfl,ab.trans (hb.mono ab.size)⟩
 ·obtain⟨s,hs⟩:=yE (Zsa (QW x.cats) I q);rw[←hs]at HM HR
  obtain rfl:r=s:=by rw[HR.out];rfl
  clear hs;go_upto_region 1 with(fail);refine yZ (S:=(fun w'=>(yI w' g 0 x.legs∧yI w' g 1 x.souls∧yJ w' g 2 A n cap∧yJ w' g 3 (some ⟨b,F,none⟩) m Y)∧(w'.cell? ⟨b,F+k*4,none⟩=some (Zb nm)∧yI w' b (F+k*4+1) (I:Int)∧yI w' b (F+k*4+2) aa∧w'.cell? ⟨b,F+k*4+3,none⟩=some (.bool lv))∧(yI w' h 0 id∧yI w' h 1 V∧yI w' h 2 aq∧yI w' h 3 U∧w'.cell? ⟨h,4,none⟩=some (.bool lev)∧yI w' h 5 O∧yI w' h 6 (q:Int)∧yI w' h 7 Q∧yI w' h 8 upto∧yI w' h 9 ar∧w'.cell? ⟨h,10,none⟩=some v))) (ac _ hb) fun af=>?_;refine yT [0,1,2,3,4,5] ?_;iterate 6 (refine yS ?_;simp only[yU])
  refine yR 6 fun K hK=>?_;go_simp
  (go_at_call 146;refine yM (HF _) fun w2 Z=>?_;replace hb:=hb.trans (Z.mono hb.size);clear Z;have al:=yh (HM w2 ((HC.bel ab).bel hb)))
  go_wp2_with fail;refine hK.out _ _ (ac _ hb) fun af=>?_;clear hK K
  try simp only[yU]
  refine yT [7,8,9,10,11,12,13,14,15,16] ?_;iterate 10 (refine yS ?_;simp only[yU])
  refine yR 17 fun K hK=>?_;go_simp
  (go_at_call 209;refine yM al fun w3 Z=>?_;replace hb:=hb.trans (Z.mono hb.size);clear Z)
  go_wp2_with fail;refine hK.out _ _ (ac _ hb) fun af=>?_;clear hK K
  try simp only[yU]
  refine yT [18,19] ?_;iterate 2 (refine yS ?_;simp only[yU])
  refine yD ?_;go_wp2_with fail;go_ret;exact⟨rfl,ab.trans (hb.mono ab.size)⟩
theorem UXa {m:Nat}(h:m≤9223372036854775807):IntKind.i64.wrap ((m:Int) - 1)=(m:Int) - 1:=by rw[IntKind.wrap_i64];omega
theorem Uwb (x:Shp)(A:Option Addr)(n cap:Nat)(B:Option Addr)(m Y:Nat)(b:Bkg)(v:Value)(w:World)(Z:Sl Uj 4 w All B m Y x.cabs) :
  Calls prog 186 #[.agg #[.int .i64 x.legs,.int .i64 x.souls,.slice A n cap,.slice B m Y],.agg (Qj b v)] w fun e w'=>e=.returned (.int .i64 (Yz x b))∧yw w w':=by
 obtain⟨id,O,Q,J,lev,D,E,I,upto,U,V⟩:=b;obtain⟨r,hr⟩:=yE (Yz x ⟨id,O,Q,J,lev,D,E,I,upto,U,V⟩);rw[←hr];obtain⟨q1,aa⟩:=yE (Qd D 0 ((m:Int) - 1));have X:=yh (show r=if q1=false then 3 else if E≠0 then 1 else if Yi (Qxa x D) ⟨id,O,Q,J,lev,D,E,I,upto,U,V⟩=false then 4 else 0 by rw[hr,aa,←Z.len];rfl);have al:=UXa Z.bd;have ab:=fun W=>ZW D 0 ((m:Int) - 1) W;rw[←aa]at ab;have HB:=yh Z;have HQ:=yh aa;clear aa;clear hr Z;go_enter func186,ntmps186;go_upto_region 0 with(fail);go_cut [2,3,4] (fun p p2 _ wx=>∃g h,yp p g∧yp p2 h∧Blk wx g #[.int .i64 x.legs,.int .i64 x.souls,.slice A n cap,.slice B m Y] 25∧Blk wx h (Qj ⟨id,O,Q,J,lev,D,E,I,upto,U,V⟩ v) 63∧yw w wx)
 case first=>as_aux_lemma=>
  go_wp2_with fail;go_meet;exact⟨_,_,rfl,rfl,QB _ _ _,QC _ _ _,Zl _ _ _⟩
 obtain⟨g,h,rfl,rfl,hG,hH,F⟩:=hcut;have g3:yJ wc g 3 B m Y:=hG.cell rfl;have k0:yI wc h 0 id:=hH.cell rfl;have k1:yI wc h 1 O:=hH.cell rfl;have k2:yI wc h 2 Q:=hH.cell rfl;have k3:yI wc h 3 J:=hH.cell rfl;have k4:wc.cell? ⟨h,4,none⟩=some (.bool lev):=hH.cell rfl;have k5:yI wc h 5 D:=hH.cell rfl;have k6:yI wc h 6 E:=hH.cell rfl;have k7:yI wc h 7 I:=hH.cell rfl;have k8:yI wc h 8 upto:=hH.cell rfl;have k9:yI wc h 9 U:=hH.cell rfl;have am:wc.cell? ⟨h,10,none⟩=some (v):=hH.cell rfl;cases q1
 ·obtain rfl:r=3:=by rw[X.out,M3 rfl]
  go_wp2_with fail;refine(ab _).mono ?_;rintro e w9 ⟨rfl,rfl⟩;go_wp2_with fail;go_ret;exact⟨rfl,F⟩
 have ah:=Qm.1 HQ.symm;obtain⟨k,rfl⟩:∃k:Nat,D=k:=⟨D.toNat,by omega⟩
 have hk:k < m:=by omega
 by_cases hcat:E=0
 ·subst hcat;obtain⟨b,an,nm,ct,ac,lv,hB,hx,e0,e1,e2,e3⟩:=(HB.bel F).cab hk;subst hB;have hf:Qxa x k=⟨nm,ct,ac,lv⟩:=hx;have HF:=yh (fun W=>VBa ⟨nm,ct,ac,lv⟩ ⟨id,O,Q,J,lev,k,0,I,upto,U,V⟩ v W);obtain⟨f,ad⟩:=yE (Yi ⟨nm,ct,ac,lv⟩ ⟨id,O,Q,J,lev,k,0,I,upto,U,V⟩);have ae:=yh (show r=if f=false then 4 else 0 by rw[X.out,M2 (by simp),M2 (by simp),hf,ad]);rw[←ad]at HF;clear X hx hf ad HQ ah;have aj:(0:Int)≤(k:Int):=Int.natCast_nonneg _
  have ak:(k:Int) < (m:Int):=by omega
  go_wp2_with fail;refine(ab _).mono ?_;rintro e w9 ⟨rfl,rfl⟩;go_wp2_with fail;go_upto_region 5 with(fail);go_cut [18] (fun t wx=>t=.bool (!f)∧yw wc wx)
  case first=>as_aux_lemma=>
   go_region_with (go_at_call 232;refine yM (HF _) fun wn ag=>?_)
   all_goals
    go_wp2_with fail;go_meet;exact⟨rfl,(J4 _ _).drew.trans ag⟩
  obtain⟨rfl,af⟩:=hcut;cases f
  ·obtain rfl:r=4:=ae.out;go_wp2_with fail;go_ret;exact⟨rfl,F.trans (af.mono F.size)⟩
  ·obtain rfl:r=0:=ae.out;go_wp2_with fail;go_ret;exact⟨rfl,F.trans (af.mono F.size)⟩
 ·obtain rfl:r=1:=by rw[X.out,M2 (by simp),M3 hcat]
  have ai:(E != 0)=true:=by simpa using hcat
  clear hcat;go_wp2_with fail;refine yN (ab _) ?_;go_wp2_with fail;go_ret;exact⟨rfl,F⟩
theorem YEa (x:Shp)(A:Option Addr)(n cap:Nat)(B:Option Addr)(m X:Nat)(b:Bkg)(v:Value)(w:World)(hc:Sl UI 2 w All A n cap x.cats)(hb:Sl Uj 4 w All B m X x.cabs)(ho:OkShp x) :
  Calls prog 187 #[.agg #[.int .i64 x.legs,.int .i64 x.souls,.slice A n cap,.slice B m X],.agg (Qj b v)] w fun e w'=>e=.returned (.int .i64 (QSa x b))∧yw w w':=by
 obtain⟨id,U,V,O,lev,au,I,E,upto,av,Y⟩:=b;obtain⟨r,hr⟩:=yE (QSa x ⟨id,U,V,O,lev,au,I,E,upto,av,Y⟩);rw[←hr];obtain⟨q1,aa⟩:=yE (Qd I 0 ((n:Int) - 1));obtain⟨q2,ac⟩:=yE (decide ((⟨E,upto⟩:Span)≠⟨0,x.legs⟩));obtain⟨q3,ab⟩:=yE (Qd au (-1) ((m:Int) - 1))
 have J:=yh (show r=if q1=false then 3 else if q2=true then 4 else if q3=false then 3 else if 0≤au∧Zd x ⟨id,U,V,O,lev,au,I,E,upto,av,Y⟩ au=false then 4 else 0 by
  rw[hr,aa,ac,ab,←hb.len,←hc.len];unfold QSa
  congr 1
  have an:(E≠0∨upto≠x.legs)↔decide ((⟨E,upto⟩:Span)≠⟨0,x.legs⟩)=true:=by rw[decide_eq_true_iff];simp only[ne_eq,Span.mk.injEq];omega
  simp only[an])
 have ao:=UXa hb.bd;have ap:=UXa hc.bd;have ak:=fun W=>ZW I 0 ((n:Int) - 1) W;have al:=fun W=>ZW au (-1) ((m:Int) - 1) W;have aj:=fun W=>Y2b ⟨E,upto⟩ ⟨0,x.legs⟩ W;simp only at aj;rw[←aa]at ak;rw[←ac]at aj;rw[←ab]at al;have am:=yh (fun(k:Nat) W h1 h2 h3 h4 h5=>Qsa x A n cap B m X ⟨id,U,V,O,lev,au,I,E,upto,av,Y⟩ v k W h1 h2 ho h3 h4 h5);have HB:=yh hb;have HC:=yh hc;have ae:=yh aa;clear aa;have af:=yh ab;clear ab;clear hr hb hc ac;go_enter func187,ntmps187;go_upto_region 0 with(fail);go_cut [2,3,4] (fun p p2 _ wx=>∃g h,yp p g∧yp p2 h∧Blk wx g #[.int .i64 x.legs,.int .i64 x.souls,.slice A n cap,.slice B m X] 25∧Blk wx h (Qj ⟨id,U,V,O,lev,au,I,E,upto,av,Y⟩ v) 63∧yw w wx)
 case first=>as_aux_lemma=>
  go_wp2_with fail;go_meet;exact⟨_,_,rfl,rfl,QB _ _ _,QC _ _ _,Zl _ _ _⟩
 obtain⟨g,h,rfl,rfl,Z,D,F⟩:=hcut;have g0:yI wc g 0 x.legs:=Z.cell rfl;have g1:yI wc g 1 x.souls:=Z.cell rfl;have g2:yJ wc g 2 A n cap:=Z.cell rfl;have g3:yJ wc g 3 B m X:=Z.cell rfl;have k0:yI wc h 0 id:=D.cell rfl;have k1:yI wc h 1 U:=D.cell rfl;have k2:yI wc h 2 V:=D.cell rfl;have k3:yI wc h 3 O:=D.cell rfl;have k4:wc.cell? ⟨h,4,none⟩=some (.bool lev):=D.cell rfl;have k5:yI wc h 5 au:=D.cell rfl;have k6:yI wc h 6 I:=D.cell rfl;have k7:yI wc h 7 E:=D.cell rfl;have k8:yI wc h 8 upto:=D.cell rfl;have k9:yI wc h 9 av:=D.cell rfl;have aq:wc.cell? ⟨h,10,none⟩=some (v):=D.cell rfl;go_wp2_with fail;refine(ak _).mono ?_;rintro e w9 ⟨rfl,rfl⟩;cases q1
 ·obtain rfl:r=3:=by rw[J.out,M3 rfl]
  go_wp2_with fail;go_ret;exact⟨rfl,F⟩
 have Q:=Qm.1 ae.symm;cases q2;rotate_left
 ·obtain rfl:r=4:=by rw[J.out,M2 (by simp),M3 rfl]
  clear Q;go_wp2_with fail;go_ret;exact⟨rfl,F⟩
 go_wp2_with fail;refine yN (al _) ?_;cases q3
 ·obtain rfl:r=3:=by rw[J.out,M2 (by simp),M2 (by simp),M3 rfl]
  clear Q;go_wp2_with fail;go_ret;exact⟨rfl,F⟩
 have ai:=Qm.1 af.symm;by_cases h0:0≤au
 ·obtain⟨k,rfl⟩:∃k:Nat,au=k:=⟨au.toNat,by omega⟩;have ad:=yh (am k wc (HC.bel F) (HB.bel F) (by omega) Q.1 (by have:=Q.2;omega));obtain⟨f,hf⟩:=yE (Zd x ⟨id,U,V,O,lev,k,I,E,upto,av,Y⟩ k)
  have ag:=yh (show r=if f=false then 4 else 0 by
   rw[J.out,M2 (by simp),M2 (by simp),M2 (by simp),←hf]
   cases f<;>simp<;>omega)
  rw[←hf]at ad;clear J hf Q ai ae af;go_wp2_with fail;refine yM ad fun wn ah=>?_;cases f
  ·obtain rfl:r=4:=ag.out;go_wp2_with fail;go_ret;exact⟨rfl,F.trans (ah.mono F.size)⟩
  ·obtain rfl:r=0:=ag.out;go_wp2_with fail;go_ret;exact⟨rfl,F.trans (ah.mono F.size)⟩
 ·obtain rfl:r=0:=by rw[J.out,M2 (by simp),M2 (by simp),M2 (by simp),M2 (fun h=>h0 h.1)]
  have h1:au < 0:=by omega
  clear Q ai;go_wp2_with fail;go_ret;exact⟨rfl,F⟩
theorem ZAb (x:Shp)(id J D I:Int)(lev:Bool)(O Q A upto E:Int)(F:List Entry):ofE x ⟨id,J,D,I,lev,O,Q,A,upto,E,F⟩=if (Qd J 1 2 && Qd D 1 3)=false then 7 else if (Qd id 1 999999 && Qd I 1 4)=false then 3 else if VA ⟨A,upto⟩ x.legs≠0 then VA ⟨A,upto⟩ x.legs
 else if kindE x ⟨id,J,D,I,lev,O,Q,A,upto,E,F⟩≠0 then kindE x ⟨id,J,D,I,lev,O,Q,A,upto,E,F⟩else if Qd E 0 9999=false then 3 else if E≠0∧D≠1 then 1 else Qe F:=rfl
theorem Qaa (x:Shp)(A:Option Addr)(n cap:Nat)(B:Option Addr)(m ad:Nat)(b:Bkg)(A3:Option Addr)(n3 X:Nat)(w:World)(hc:Sl UI 2 w All A n cap x.cats)(hb:Sl Uj 4 w All B m ad x.cabs)(ho:OkShp x)(hf:Sl Ql 3 w All A3 n3 X b.fol) :
  Calls prog 104 #[.agg #[.int .i64 x.legs,.int .i64 x.souls,.slice A n cap,.slice B m ad],.agg (Qj b (.slice A3 n3 X))] w fun e w'=>e=.returned (.int .i64 (ofE x b))∧yw w w':=by
 obtain⟨id,Q,J,V,lev,Y,Z,U,upto,O,aa⟩:=b;simp only at hf;obtain⟨r,hr⟩:=yE (ofE x ⟨id,Q,J,V,lev,Y,Z,U,upto,O,aa⟩);rw[←hr];rw[ZAb]at hr;have az:=fun W=>ZW Q 1 2 W;have aA:=fun W=>ZW J 1 3 W;have ax:=fun W=>ZW id 1 999999 W;have ay:=fun W=>ZW V 1 4 W;have aC:=fun W=>ZW O 0 9999 W;have aB:=fun W=>Vpa U upto x.legs W;have ar:=yh (fun W h=>Uwb x A n cap B m ad ⟨id,Q,J,V,lev,Y,Z,U,upto,O,aa⟩ (.slice A3 n3 X) W h);have au:=yh (fun W h1 h2=>YEa x A n cap B m ad ⟨id,Q,J,V,lev,Y,Z,U,upto,O,aa⟩ (.slice A3 n3 X) W h1 h2 ho);have ap:=yh (fun W h=>YI A3 n3 X aa W h);obtain⟨k1,e1⟩:=yE (Qd Q 1 2);obtain⟨k2,e2⟩:=yE (Qd J 1 3);obtain⟨i1,e3⟩:=yE (Qd id 1 999999);obtain⟨i2,e4⟩:=yE (Qd V 1 4);obtain⟨t1,e5⟩:=yE (Qd O 0 9999);obtain⟨se,e6⟩:=yE (VA ⟨U,upto⟩ x.legs);obtain⟨fe,e7⟩:=yE (Qe aa);rw[←e1]at az;rw[←e2]at aA;rw[←e3]at ax;rw[←e4]at ay;rw[←e5]at aC;rw[←e6]at aB;rw[←e7]at ap;rw[←e1,←e2,←e3,←e4,←e5,←e6,←e7]at hr;have HR:=yh hr;clear hr;have aE:=yh e2;clear e2;have HB:=yh hb;have HC:=yh hc;have HF:=yh hf;clear hb hc hf e1 e3 e4 e5 e6 e7;go_enter func104,ntmps104;go_upto_region 0 with(fail);go_cut [2,3,4] (fun p p2 _ wx=>∃g h,yp p g∧yp p2 h∧Blk wx g #[.int .i64 x.legs,.int .i64 x.souls,.slice A n cap,.slice B m ad] 25∧Blk wx h (Qj ⟨id,Q,J,V,lev,Y,Z,U,upto,O,aa⟩ (.slice A3 n3 X)) 63∧yw w wx)
 case first=>as_aux_lemma=>
  go_wp2_with fail;go_meet;exact⟨_,_,rfl,rfl,QB _ _ _,QC _ _ _,Zl _ _ _⟩
 obtain⟨g,h,rfl,rfl,E,hH,D⟩:=hcut;have g0:yI wc g 0 x.legs:=E.cell rfl;have g1:yI wc g 1 x.souls:=E.cell rfl;have g2:yJ wc g 2 A n cap:=E.cell rfl;have g3:yJ wc g 3 B m ad:=E.cell rfl;have z0:yI wc h 0 id:=hH.cell rfl;have z1:yI wc h 1 Q:=hH.cell rfl;have z2:yI wc h 2 J:=hH.cell rfl;have z3:yI wc h 3 V:=hH.cell rfl;have z4:wc.cell? ⟨h,4,none⟩=some (.bool lev):=hH.cell rfl;have z5:yI wc h 5 Y:=hH.cell rfl;have z6:yI wc h 6 Z:=hH.cell rfl;have z7:yI wc h 7 U:=hH.cell rfl;have z8:yI wc h 8 upto:=hH.cell rfl;have z9:yI wc h 9 O:=hH.cell rfl;have ag:wc.cell? ⟨h,10,none⟩=some ((.slice A3 n3 X)):=hH.cell rfl;go_wp2_with fail;refine(az _).mono ?_;rintro e w9 ⟨rfl,rfl⟩;cases k1
 ·obtain rfl:r=7:=HR.trans (M3 (by simp));go_wp2_with fail;go_ret;exact⟨rfl,D⟩
 go_wp2_with fail;refine(aA _).mono ?_;rintro e w9 ⟨rfl,rfl⟩;cases k2
 ·obtain rfl:r=7:=HR.trans (M3 (by simp));go_wp2_with fail;go_ret;exact⟨rfl,D⟩
 have ah:=yh (HR.trans (M2 (by simp)));clear HR;go_wp2_with fail;refine(ax _).mono ?_;rintro e w9 ⟨rfl,rfl⟩;cases i1
 ·obtain rfl:r=3:=ah.trans (M3 (by simp));go_wp2_with fail;go_ret;exact⟨rfl,D⟩
 go_wp2_with fail;refine(ay _).mono ?_;rintro e w9 ⟨rfl,rfl⟩;cases i2
 ·obtain rfl:r=3:=ah.trans (M3 (by simp));go_wp2_with fail;go_ret;exact⟨rfl,D⟩
 have ak:=yh (ah.trans (M2 (by simp)));clear ah;go_wp2_with fail;refine yM (aB _) fun F ab=>?_;replace E:=E.bel ab;replace hH:=hH.bel ab;replace D:=D.trans (ab.mono D.size);clear ab g0 g1 g2 g3 z0 z1 z2 z3 z4 z5 z6 z7 z8 z9 ag;by_cases hse:se=0;rotate_left
 ·obtain rfl:r=se:=by rw[ak.out,M3 hse]
  have aw:(r != 0)=true:=by simpa using hse
  clear hse;go_wp2_with fail;go_ret;exact⟨rfl,D⟩
 subst hse;have av:=yh (ak.trans (M2 (by simp)));clear ak;have g0:yI F g 0 x.legs:=E.cell rfl;have g1:yI F g 1 x.souls:=E.cell rfl;have g2:yJ F g 2 A n cap:=E.cell rfl;have g3:yJ F g 3 B m ad:=E.cell rfl;have z0:yI F h 0 id:=hH.cell rfl;have z1:yI F h 1 Q:=hH.cell rfl;have z2:yI F h 2 J:=hH.cell rfl;have z3:yI F h 3 V:=hH.cell rfl;have z4:F.cell? ⟨h,4,none⟩=some (.bool lev):=hH.cell rfl;have z5:yI F h 5 Y:=hH.cell rfl;have z6:yI F h 6 Z:=hH.cell rfl;have z7:yI F h 7 U:=hH.cell rfl;have z8:yI F h 8 upto:=hH.cell rfl;have z9:yI F h 9 O:=hH.cell rfl;have ag:F.cell? ⟨h,10,none⟩=some ((.slice A3 n3 X)):=hH.cell rfl;have ac:=yh (ar F (HB.bel D));go_wp2_with fail;refine yM ac fun I ab=>?_;replace E:=E.bel ab;replace hH:=hH.bel ab;replace D:=D.trans (ab.mono D.size);clear ab g0 g1 g2 g3 z0 z1 z2 z3 z4 z5 z6 z7 z8 z9 ag ac ar;have g0:yI I g 0 x.legs:=E.cell rfl;have g1:yI I g 1 x.souls:=E.cell rfl;have g2:yJ I g 2 A n cap:=E.cell rfl;have g3:yJ I g 3 B m ad:=E.cell rfl;have z0:yI I h 0 id:=hH.cell rfl;have z1:yI I h 1 Q:=hH.cell rfl;have z2:yI I h 2 J:=hH.cell rfl;have z3:yI I h 3 V:=hH.cell rfl;have z4:I.cell? ⟨h,4,none⟩=some (.bool lev):=hH.cell rfl;have z5:yI I h 5 Y:=hH.cell rfl;have z6:yI I h 6 Z:=hH.cell rfl;have z7:yI I h 7 U:=hH.cell rfl;have z8:yI I h 8 upto:=hH.cell rfl;have z9:yI I h 9 O:=hH.cell rfl;have ag:I.cell? ⟨h,10,none⟩=some ((.slice A3 n3 X)):=hH.cell rfl;obtain⟨ke,af⟩:=yE (kindE x ⟨id,Q,J,V,lev,Y,Z,U,upto,O,aa⟩);have ai:=yh (av.out);rw[←af]at ai;obtain⟨kn,ao⟩:=yE (Yz x ⟨id,Q,J,V,lev,Y,Z,U,upto,O,aa⟩);rw[←ao];have aj:=yh af;clear af;have aq:=yh ao;clear ao;clear av;go_upto_if 42 with(fail);obtain⟨w4,aD⟩:=yE I;subst aD;go_cut [6] (fun p wx=>p=.int .i64 ke∧yw w4 wx)
 case first=>as_aux_lemma=>
  by_cases hkd:Q=2
  ·subst hkd;have af:ke=QSa x ⟨id,2,J,V,lev,Y,Z,U,upto,O,aa⟩:=aj.out;have ac:=yh (au _ (HC.bel D) (HB.bel D));rw[←af]at ac;clear af;go_wp2_with fail;refine yM ac fun w5 ae=>?_;go_wp2_with fail;go_meet;exact⟨rfl,ae⟩
  ·obtain rfl:ke=kn:=by rw[aj.out,aq.out];unfold kindE;rw[M2 hkd]
   have aw:(Q == 2)=false:=by simpa using hkd
   clear hkd;go_wp2_with fail;go_meet;exact⟨rfl,J4 _ _⟩
 obtain⟨rfl,ae⟩:=hcut;replace E:=E.bel ae;replace hH:=hH.bel ae;replace D:=D.trans (ae.mono D.size);clear ae g0 g1 g2 g3 z0 z1 z2 z3 z4 z5 z6 z7 z8 z9 ag aj aq au;by_cases hk0:ke=0;rotate_left
 ·obtain rfl:r=ke:=by rw[ai.out,M3 hk0]
  have aw:(r != 0)=true:=by simpa using hk0
  clear hk0;go_wp2_with fail;go_ret;exact⟨rfl,D⟩
 subst hk0;have al:=yh (ai.trans (M2 (by simp)));clear ai;have z2:yI wc h 2 J:=hH.cell rfl;have z9:yI wc h 9 O:=hH.cell rfl;have ag:yJ wc h 10 A3 n3 X:=hH.cell rfl;go_wp2_with fail;refine yN (aC _) ?_;cases t1
 ·obtain rfl:r=3:=al.trans (M3 (by simp));go_wp2_with fail;go_ret;exact⟨rfl,D⟩
 have am:=yh (al.trans (M2 (by simp)));clear al;have ac:=yh (ap _ (HF.bel D));by_cases h1:O=0
 ·obtain rfl:r=fe:=by rw[am.out,M2 (fun h=>h.1 h1)]
  subst h1;go_wp2_with fail;refine yM ac fun w6 an=>?_;go_wp2_with fail;go_ret;exact⟨rfl,D.trans (an.mono D.size)⟩
 have aF:(O != 0)=true:=by simpa using h1
 by_cases h2:J=1
 ·obtain rfl:r=fe:=by rw[am.out,M2 (fun h=>h.2 h2)]
  subst h2;clear h1;go_wp2_with fail;refine yM ac fun w6 an=>?_;go_wp2_with fail;go_ret;exact⟨rfl,D.trans (an.mono D.size)⟩
 ·obtain rfl:r=1:=by rw[am.out,M3 ⟨h1,h2⟩]
  have aG:(J != 1)=true:=by simpa using h2
  clear h1 h2;go_wp2_with fail;go_ret;exact⟨rfl,D⟩
theorem U3 (x:Shp)(A:Option Addr)(n cap:Nat)(B:Option Addr)(m ab:Nat)(b:Bkg)(A3:Option Addr)(n3 c3:Nat)(w:World)(hc:Sl UI 2 w All A n cap x.cats)(hb:Sl Uj 4 w All B m ab x.cabs)(ho:OkShp x)(hf:Sl Ql 3 w All A3 n3 c3 b.fol) :
  Calls prog 71 #[.agg #[.int .i64 x.legs,.int .i64 x.souls,.slice A n cap,.slice B m ab],.agg (Qj b (.slice A3 n3 c3))] w fun e w'=>e=.returned (.int .i64 (ofE x b))∧yw w w':=by
 obtain⟨id,aa,F,U,lev,E,O,Q,upto,I,X⟩:=b;simp only at hf;obtain⟨r,hr⟩:=yE (ofE x ⟨id,aa,F,U,lev,E,O,Q,upto,I,X⟩);rw[←hr];rw[ZAb]at hr;have aB:=fun W=>Qk aa 1 2 W;have aC:=fun W=>Qk F 1 3 W;have az:=fun W=>Qk id 1 999999 W;have aA:=fun W=>Qk U 1 4 W;have aF:=fun W=>Qk I 0 9999 W;have aE:=fun W=>UZa Q upto x.legs W;have ax:=yh (fun(k:Nat) W Y h2 h3 h4 h5=>VQ x A n cap B m ab ⟨id,aa,F,U,lev,E,O,Q,upto,I,X⟩ (.slice A3 n3 c3) k W Y h2 ho h3 h4 h5);have ay:=yh (fun W h=>VO A3 n3 c3 X W h);obtain⟨k1,e1⟩:=yE (Qd aa 1 2);obtain⟨k2,e2⟩:=yE (Qd F 1 3);obtain⟨i1,e3⟩:=yE (Qd id 1 999999);obtain⟨i2,e4⟩:=yE (Qd U 1 4);obtain⟨t1,e5⟩:=yE (Qd I 0 9999);obtain⟨se,e6⟩:=yE (VA ⟨Q,upto⟩ x.legs);obtain⟨fe,e7⟩:=yE (Qe X);obtain⟨ke,e8⟩:=yE (kindE x ⟨id,aa,F,U,lev,E,O,Q,upto,I,X⟩);rw[←e1]at aB;rw[←e2]at aC;rw[←e3]at az;rw[←e4]at aA;rw[←e5]at aF;rw[←e6]at aE;rw[←e7]at ay;rw[←e1,←e2,←e3,←e4,←e5,←e6,←e7,←e8]at hr;have HR:=yh hr;clear hr;have aG:=yh e1;have ad:=yh e8;clear e8;have HB:=yh hb;have HC:=yh hc;have HF:=yh hf;have aO:=hb.bd;have aP:=hc.bd;clear hb hc hf e1 e2 e3 e4 e5 e6 e7;go_enter func71,ntmps71;go_upto_region 0 with(fail);go_cut [2,3,4] (fun p p2 _ wx=>∃g h,yp p g∧yp p2 h∧Blk wx g #[.int .i64 x.legs,.int .i64 x.souls,.slice A n cap,.slice B m ab] 25∧Blk wx h (Qj ⟨id,aa,F,U,lev,E,O,Q,upto,I,X⟩ (.slice A3 n3 c3)) 63∧yw w wx)
 case first=>as_aux_lemma=>
  go_wp2_with fail;go_meet;exact⟨_,_,rfl,rfl,QB _ _ _,QC _ _ _,Zl _ _ _⟩
 obtain⟨g,h,rfl,rfl,V,D,aS⟩:=hcut;have g0:yI wc g 0 x.legs:=V.cell rfl;have g1:yI wc g 1 x.souls:=V.cell rfl;have g2:yJ wc g 2 A n cap:=V.cell rfl;have g3:yJ wc g 3 B m ab:=V.cell rfl;have z0:yI wc h 0 id:=D.cell rfl;have z1:yI wc h 1 aa:=D.cell rfl;have z2:yI wc h 2 F:=D.cell rfl;have z3:yI wc h 3 U:=D.cell rfl;have z4:wc.cell? ⟨h,4,none⟩=some (.bool lev):=D.cell rfl;have z5:yI wc h 5 E:=D.cell rfl;have z6:yI wc h 6 O:=D.cell rfl;have z7:yI wc h 7 Q:=D.cell rfl;have z8:yI wc h 8 upto:=D.cell rfl;have z9:yI wc h 9 I:=D.cell rfl;have al:wc.cell? ⟨h,10,none⟩=some ((.slice A3 n3 c3)):=D.cell rfl;go_wp2_with fail;refine(aB _).mono ?_;rintro e w9 ⟨rfl,rfl⟩;cases k1
 ·obtain rfl:r=7:=HR.trans (M3 (by simp));go_wp2_with fail;go_ret;exact⟨rfl,aS⟩
 go_wp2_with fail;refine(aC _).mono ?_;rintro e w9 ⟨rfl,rfl⟩;cases k2
 ·obtain rfl:r=7:=HR.trans (M3 (by simp));go_wp2_with fail;go_ret;exact⟨rfl,aS⟩
 have ai:=yh (HR.trans (M2 (by simp)));clear HR;go_wp2_with fail;refine(az _).mono ?_;rintro e w9 ⟨rfl,rfl⟩;cases i1
 ·obtain rfl:r=3:=ai.trans (M3 (by simp));go_wp2_with fail;go_ret;exact⟨rfl,aS⟩
 go_wp2_with fail;refine(aA _).mono ?_;rintro e w9 ⟨rfl,rfl⟩;cases i2
 ·obtain rfl:r=3:=ai.trans (M3 (by simp));go_wp2_with fail;go_ret;exact⟨rfl,aS⟩
 have an:=yh (ai.trans (M2 (by simp)));clear ai;go_wp2_with fail;refine yM (aE _) fun J aj=>?_;replace V:=V.bel aj;replace D:=D.bel aj;replace aS:=aS.trans (aj.mono aS.size);clear aj g0 g1 g2 g3 z0 z1 z2 z3 z4 z5 z6 z7 z8 z9 al;by_cases hse:se=0;rotate_left
 ·obtain rfl:r=se:=by rw[an.out,M3 hse]
  have au:(r != 0)=true:=by simpa using hse
  clear hse;go_wp2_with fail;go_ret;exact⟨rfl,aS⟩
 subst hse;have ao:=yh (an.trans (M2 (by simp)));clear an;have g0:yI J g 0 x.legs:=V.cell rfl;have g1:yI J g 1 x.souls:=V.cell rfl;have g2:yJ J g 2 A n cap:=V.cell rfl;have g3:yJ J g 3 B m ab:=V.cell rfl;have z0:yI J h 0 id:=D.cell rfl;have z1:yI J h 1 aa:=D.cell rfl;have z2:yI J h 2 F:=D.cell rfl;have z3:yI J h 3 U:=D.cell rfl;have z4:J.cell? ⟨h,4,none⟩=some (.bool lev):=D.cell rfl;have z5:yI J h 5 E:=D.cell rfl;have z6:yI J h 6 O:=D.cell rfl;have z7:yI J h 7 Q:=D.cell rfl;have z8:yI J h 8 upto:=D.cell rfl;have z9:yI J h 9 I:=D.cell rfl;have al:J.cell? ⟨h,10,none⟩=some ((.slice A3 n3 c3)):=D.cell rfl;go_upto_if 40 with(fail);obtain⟨w4,aJ⟩:=yE J;subst aJ;go_cut [] (fun wx=>ke=0∧yw w4 wx)
 case first=>as_aux_lemma=>
  have fin:∀q,ke=q→q≠0→r=q:=fun q Y h2=>by rw[ao.out,Y,M3 h2]
  have aT:=yh fin;clear fin;have aD:=Qm.1 aG.symm;by_cases hkd:aa=1
  ·subst hkd;have Z:=yh (show ke=if Qd E 0 ((m:Int) - 1)=false then 3 else if O≠0 then 1 else if Yi (Qxa x E) ⟨id,1,F,U,lev,E,O,Q,upto,I,X⟩=false then 4 else 0 by rw[ad.out,←HB.out.len];rfl);clear ad aD;by_cases hc0:E < 0
   ·obtain rfl:r=3:=aT.out 3 (by rw[Z.out,M3 (QK (.inl hc0))]) (by decide);go_wp2_with fail;go_ret;exact⟨rfl,aS⟩
   by_cases hc1:(m:Int)≤E
   ·obtain rfl:r=3:=aT.out 3 (by rw[Z.out,M3 (QK (.inr (by omega)))]) (by decide);go_wp2_with fail;go_ret;exact⟨rfl,aS⟩
   obtain⟨k,rfl⟩:∃k:Nat,E=k:=⟨E.toNat,by omega⟩
   have hk:k < m:=by omega
   by_cases hcat:O=0
   ·subst hcat;obtain⟨b,aQ,nm,ct,ar,lv,hB,hx,e0,e1,e2,e3⟩:=(HB.bel aS).cab hk;subst hB;have hf:Qxa x k=⟨nm,ct,ar,lv⟩:=hx;have HD:=yh (fun W=>Zwa ⟨nm,ct,ar,lv⟩ ⟨id,1,F,U,lev,k,0,Q,upto,I,X⟩ (.slice A3 n3 c3) W);obtain⟨f,aw⟩:=yE (Yi ⟨nm,ct,ar,lv⟩ ⟨id,1,F,U,lev,k,0,Q,upto,I,X⟩);have ae:=yh (show ke=if f=false then 4 else 0 by rw[Z.out,M2 (by rw[Zc (by omega) (by omega)];simp),M2 (by simp),hf,aw]);rw[←aw]at HD;have aM:(0:Int)≤(k:Int):=Int.natCast_nonneg _
    have aN:(k:Int) < (m:Int):=by omega
    clear hx hf aw hc0 hc1 Z;go_upto_region 14 with(fail);go_cut [61] (fun t wx=>t=.bool (!f)∧yw w4 wx)
    case first=>as_aux_lemma=>
     go_region_with (go_at_call 146;refine yM (HD _) fun wn aH=>?_)
     all_goals
      go_wp2_with fail;go_meet;exact⟨rfl,(J4 _ _).drew.trans aH⟩
    obtain⟨rfl,af⟩:=hcut;cases f
    ·obtain rfl:r=4:=aT.out 4 ae (by decide);go_wp2_with fail;go_ret;exact⟨rfl,aS.trans (af.mono aS.size)⟩
    ·skip;go_wp2_with fail;go_meet;exact⟨ae,af⟩
   ·obtain rfl:r=1:=aT.out 1 (by rw[Z.out,M2 (by rw[Zc (by omega) (by omega)];simp),M3 hcat]) (by decide)
    have au:(O != 0)=true:=by simpa using hcat
    clear hcat hc0 hc1;go_wp2_with fail;go_ret;exact⟨rfl,aS⟩
  ·have aI:aa=2:=by omega
   subst aI
   have Z:=yh (show ke=if Qd O 0 ((n:Int) - 1)=false then 3 else if Q≠0∨upto≠x.legs then 4 else if Qd E (-1) ((m:Int) - 1)=false then 3 else if 0≤E∧Zd x ⟨id,2,F,U,lev,E,O,Q,upto,I,X⟩ E=false then 4 else 0 by
    rw[ad.out,←HB.out.len,←HC.out.len];rfl)
   clear ad aD hkd;by_cases hc0:O < 0
   ·obtain rfl:r=3:=aT.out 3 (by rw[Z.out,M3 (QK (.inl hc0))]) (by decide);go_wp2_with fail;go_ret;exact⟨rfl,aS⟩
   by_cases hc1:(n:Int)≤O
   ·obtain rfl:r=3:=aT.out 3 (by rw[Z.out,M3 (QK (.inr (by omega)))]) (by decide);go_wp2_with fail;go_ret;exact⟨rfl,aS⟩
   have ag:=yh (Z.trans (M2 (by rw[Zc (by omega) (by omega)];simp)));clear Z;by_cases hfr:Q=0;rotate_left
   ·obtain rfl:r=4:=aT.out 4 (by rw[ag.out,M3 (.inl hfr)]) (by decide)
    have au:(Q != 0)=true:=by simpa using hfr
    clear hfr;go_wp2_with fail;go_ret;exact⟨rfl,aS⟩
   subst hfr;by_cases hup:upto=x.legs;rotate_left
   ·obtain rfl:r=4:=aT.out 4 (by rw[ag.out,M3 (.inr hup)]) (by decide)
    have au:(upto != x.legs)=true:=by simpa using hup
    clear hup;go_wp2_with fail;go_ret;exact⟨rfl,aS⟩
   subst hup;have ah:=yh (ag.trans (M2 (by simp)));clear ag;by_cases hm0:E < -1
   ·obtain rfl:r=3:=aT.out 3 (by rw[ah.out,M3 (QK (.inl hm0))]) (by decide);go_wp2_with fail;go_ret;exact⟨rfl,aS⟩
   by_cases hm1:(m:Int)≤E
   ·obtain rfl:r=3:=aT.out 3 (by rw[ah.out,M3 (QK (.inr (by omega)))]) (by decide);go_wp2_with fail;go_ret;exact⟨rfl,aS⟩
   have am:=yh (ah.trans (M2 (by rw[Zc (by omega) (by omega)];simp)));clear ah;by_cases h0:0≤E
   ·obtain⟨k,rfl⟩:∃k:Nat,E=k:=⟨E.toNat,by omega⟩;have ac:=yh (ax k w4 (HC.bel aS) (HB.bel aS) (by omega) (by omega) (by omega));obtain⟨f,hf⟩:=yE (Zd x ⟨id,2,F,U,lev,k,O,0,x.legs,I,X⟩ k)
    have ae:=yh (show ke=if f=false then 4 else 0 by
     rw[am.out,←hf]
     cases f<;>simp<;>omega)
    rw[←hf]at ac;clear hf am;go_wp2_with fail;refine yM ac fun wn af=>?_;cases f
    ·obtain rfl:r=4:=aT.out 4 ae (by decide);go_wp2_with fail;go_ret;exact⟨rfl,aS.trans (af.mono aS.size)⟩
    ·skip;go_wp2_with fail;go_meet;exact⟨ae,af⟩
   ·have Y:E < 0:=by omega
    go_wp2_with fail;go_meet;exact⟨by rw[am.out,M2 (fun h=>by have:=h.1;omega)],J4 _ _⟩
 obtain⟨rfl,ak⟩:=hcut;replace V:=V.bel ak;replace D:=D.bel ak;replace aS:=aS.trans (ak.mono aS.size);clear ak g0 g1 g2 g3 z0 z1 z2 z3 z4 z5 z6 z7 z8 z9 al ad ax;have ap:=yh (ao.trans (M2 (by simp)));clear ao;have z2:yI wc h 2 F:=D.cell rfl;have z8:yI wc h 8 upto:=D.cell rfl;have z9:yI wc h 9 I:=D.cell rfl;have al:yJ wc h 10 A3 n3 c3:=D.cell rfl;go_wp2_with fail;refine yN (aF _) ?_;cases t1
 ·obtain rfl:r=3:=ap.trans (M3 (by simp));go_wp2_with fail;go_ret;exact⟨rfl,aS⟩
 have aq:=yh (ap.trans (M2 (by simp)));clear ap;have ac:=yh (ay _ (HF.bel aS));by_cases Y:I=0
 ·obtain rfl:r=fe:=by rw[aq.out,M2 (fun h=>h.1 Y)]
  subst Y;go_wp2_with fail;refine yM ac fun w6 av=>?_;go_wp2_with fail;go_ret;exact⟨rfl,aS.trans (av.mono aS.size)⟩
 have aK:(I != 0)=true:=by simpa using Y
 by_cases h2:F=1
 ·obtain rfl:r=fe:=by rw[aq.out,M2 (fun h=>h.2 h2)]
  subst h2;clear Y;go_wp2_with fail;refine yM ac fun w6 av=>?_;go_wp2_with fail;go_ret;exact⟨rfl,aS.trans (av.mono aS.size)⟩
 ·obtain rfl:r=1:=by rw[aq.out,M3 ⟨Y,h2⟩]
  have aL:(F != 1)=true:=by simpa using h2
  clear Y h2;go_wp2_with fail;go_ret;exact⟨rfl,aS⟩
theorem Sl.bkg {w:World}{S:Nat→Prop}{A:Option Addr}{n cap:Nat}{l:List Bkg}(h:Sl ZJ 11 w S A n cap l){k:Nat}(U:k < n):∃(b F:Nat) (x:Bkg) (X:Option Addr) (E D:Nat),A=some ⟨b,F,none⟩∧l[k]? = some x∧Sl Ql 3 w S X E D x.fol∧BkIn x∧
  ∀j u,(Qj x (.slice X E D)).toList[j]? = some u→w.cell? ⟨b,F+k*11+j,none⟩=some u:=by
 have V:=h.len;obtain⟨b,F,cs,I,_,O,W,Q⟩:=h.rd k (l[k]'(by omega)) (J1 (by omega));obtain⟨X,E,D,rfl,hF,J⟩:=O;exact⟨b,F,_,X,E,D,I,J1 (by omega),hF,J,Q⟩
end Go.Proofs.YtjdcokpmgionjaaGreat
namespace Go.Proofs.YtjdcokpmgionjaaGreat
open Proofs.Tryz Go.RowKit Go.Shelf Go.Lib
open Go.Sort hiding Below Holds
theorem Xla (x y:Q7a)(W:World):Calls prog 195 #[.agg #[.int .i64 x.1.frm,.int .i64 x.1.upto],.agg #[.int .i64 y.1.frm,.int .i64 y.1.upto]] W fun e w'=>e=.returned (.int .i64 (Yd x y))∧∃q I,w'=Go.Sort.grow (W.drewN q) I:=by
 obtain⟨⟨a,b⟩,A,D⟩:=x;obtain⟨⟨c,d⟩,E,F⟩:=y;simp only at A D E F
 have J:wrap64 (a - c)=a - c:=by unfold wrap64;omega
 go_enter func195,ntmps195;go_wp2_with fail;go_ret;exact⟨rfl,0,_,by rw[Go.Sort.alloc_eq_grow,Go.Sort.alloc_eq_grow,Go.Sort.grow_grow];rfl⟩
theorem Y9a {base g n cap:Nat}{l:List Span}{xs:List Value}{w:World}(h:Own Xo 2 51 w base (.slice (some ⟨g,0,none⟩) n cap) l xs)(av:l.length≤140737488355328)(hs:∀x∈l,-1000≤x.frm∧x.frm≤1000) :
  Calls prog 194 #[.slice (some ⟨g,0,none⟩) n cap,.func (.func 195) #[] #[]] w fun e w'=>e=.returned (.tuple #[])∧
   ∃l' au,l'.Perm l∧l'.Pairwise (fun x y=>x.frm≤y.frm)∧Own Xo 2 51 w' base (.slice (some ⟨g,0,none⟩) n cap) l' au∧Kept (fun j=>j=g) w w':=by
 obtain⟨E,aa⟩:∃E:List Q7a,E.map Subtype.val=l:=⟨l.pmap (fun x I=>⟨x,I⟩) hs,by rw[List.map_pmap];simp⟩
 have af:E.length=l.length:=by rw[←aa];simp
 have ah:=h.row
 have hn:n=l.length:=by
  rcases ah.2 with⟨F,_⟩ | ⟨g',ai,J,F,_⟩
  ·cases F
  ·injection F
 subst hn
 obtain⟨J,hb,ad,ap,Z,ab,ax⟩:∃J,base≤g∧w.heap[g]? = some (.cells J 51 (0,0))∧l.length≤cap∧cap≤maxLen∧J.size=cap*2∧J.toList.take (l.length*2)=xs:=by
  rcases ah.2 with⟨F,_⟩ | ⟨g',ai,J,F,r⟩
  ·cases F
  ·simp only[Value.slice.injEq,Option.some.injEq,Addr.mk.injEq,and_true,true_and]at F;obtain⟨rfl,rfl⟩:=F;exact⟨J,r⟩
 have hH:HoldsK Vy 2 w g 0 E.toArray:=fun j O=>by
  rw[size_flatK]at O
  have aw:j < E.length*2:=by simpa using O
  have D:j / 2 < l.length:=by omega
  obtain⟨cs,Y,hl,aj,ak⟩:=h.cells (J1 D);obtain⟨rfl,_⟩:=Y;refine⟨?_,ak _⟩
  have ae:j / 2*2+j % 2=j:=by omega
  have I:(E.toArray[j / 2]!).1=l[j / 2]:=by
   have Q:j / 2 < E.length:=by omega
   rw[getElem!_pos _ _ (by simpa using Q)];simp only[List.getElem_toArray]
   have:(E.map Subtype.val)[j / 2]'(by simpa using Q)=l[j / 2]:=by simp only[aa]
   rw[List.getElem_map]at this;exact this
  have hf:=Zob E.toArray (j / 2) (j % 2) (by simp;omega) (by omega);rw[ae]at hf
  show w.cell? ⟨g,0+j,none⟩=some ((flatK Vy 2 E.toArray)[j]!)
  rw[Nat.zero_add,hf];unfold Vy Znb;rw[I]
  have hc:=aj (j % 2) (([Value.int .i64 (l[j / 2]).frm,.int .i64 (l[j / 2]).upto])[j % 2]!) (by
   have:j % 2=0∨j % 2=1:=by omega
   rcases this with e | e<;>rw[e]<;>rfl)
  rw[ae]at hc;exact hc
 have Z:=AnyQ.slices_SortFunc Tryz.sortSpan 2 Tryz.isAgg51 Tryz.sizeOf51 Vy (fun _=>rfl) (fun x v F=>by simp[Vy,Znb]at F;rcases F with rfl | rfl<;>rfl) Yd ZOc 195 #[] g 0 cap E.toArray w (enters_of func195 (by kernel_rfl) rfl)
  (fun _ _ _ _ x y=>Xla x y _) hH (lt_of_block ad) (by simp;omega)
 have e1:E.toArray.size=l.length:=by simpa using af
 rw[e1]at Z;refine Calls.mono Z ?_;rintro e w' ⟨rfl,A,q,os,⟨ar,_,ag⟩,aq,rfl⟩
 have ac:A.size=l.length:=by rw[ar];exact e1
 have hp:(A.toList.map Subtype.val).Perm l:=by
  rw[←aa];refine List.Perm.map _ ?_
  have Q:(A.extract 0 l.length).toList=A.toList:=by rw[←ac];simp
  have X:(E.toArray.extract 0 l.length).toList=E:=by rw[←af];simp
  rw[Q,X]at ag;exact ag
 have W:=hp.length_eq
 have an:∀x∈l,InI x.frm∧InI x.upto:=fun x I=>by
  obtain⟨i,D⟩:=List.getElem?_of_mem I;obtain⟨_,Y,_⟩:=h.cells D;exact Y.2
 have V:(flatK Vy 2 A).size=l.length*2:=by rw[size_flatK,ac]
 have al:∀i (D:i < A.size) j,j < 2→(flatK Vy 2 A).toList[i*2+j]? = some ((Vy A[i])[j]!):=fun i D j O=>by
  have U:i*2+j < (flatK Vy 2 A).size:=by rw[V];omega
  have:=Zob A i j D O;rw[getElem!_pos (flatK Vy 2 A) _ U,getElem!_pos A i D]at this;rw[←this];simp
 refine⟨rfl,A.toList.map Subtype.val,(flatK Vy 2 A).toList,hp,?_,⟨⟨?_,.inr ⟨g,cap,_,?_,hb,XLa ad,?_,‹_›,?_,?_⟩⟩,?_⟩,UNa⟩
 ·rw[List.pairwise_map,List.pairwise_iff_getElem];intro i j D O am
  have Q:i < A.size:=by simpa using D
  have X:j < A.size:=by simpa using O
  have:=aq i j (M0 _) am (by omega);rw[getElem!_pos A i Q,getElem!_pos A j X]at this;have:¬Yd A[j] A[i] < 0:=of_decide_eq_false this;unfold Yd at this;simp only[Array.getElem_toList];omega
 ·rw[Array.length_toList,V,W]
 ·rw[W]
 ·rw[W];exact ap
 ·simp[Go.Sort.putCells,ab]
 ·rw[W];refine List.ext_getElem? fun i=>?_;rw[List.getElem?_take];by_cases D:i < l.length*2
  ·rw[M3 D]
   have U:i < (flatK Vy 2 A).size:=by rw[V];exact D
   have ao:i < J.size:=by rw[ab];omega
   simp only[Go.Sort.putCells,Array.getElem?_toList,Array.getElem?_mapIdx];rw[Array.getElem?_eq_getElem ao,Array.getElem?_eq_getElem U];simp only[Option.map_some,M0,true_and,Nat.zero_add,Nat.sub_zero,M3 U,id];rw[getElem!_pos (flatK Vy 2 A) _ U]
  ·rw[M2 D,List.getElem?_eq_none (by rw[Array.length_toList,V];omega)]
 ·intro i x I
  have D:i < A.size:=by have:=(J0.1 I).1;simpa using this
  rw[List.getElem?_map,Array.getElem?_toList,Array.getElem?_eq_getElem D]at I;simp only[Option.map_some,Option.some.injEq]at I;have hm:x∈l:=hp.subset (List.mem_map.2 ⟨A[i],by simp,I⟩);refine⟨[.int .i64 x.frm,.int .i64 x.upto],⟨rfl,an x hm⟩,rfl,fun j u hu=>?_⟩;have O:j < 2:=(J0.1 hu).1;rw[al i D j O,←hu];unfold Vy Znb;rw[I]
  have:j=0∨j=1:=by omega
  rcases this with rfl | rfl<;>rfl
theorem ZOa (p:Option Addr)(cap:Nat)(A:Value)(w:World):Calls prog 194 #[.slice p 0 cap,A] w fun e w'=>e=.returned (.tuple #[])∧w'=w:=
 AnyF.slices_SortFunc_none Tryz.sortSpan p cap A w
end Go.Proofs.YtjdcokpmgionjaaGreat
namespace Go.Proofs.YtjdcokpmgionjaaGreat
open Proofs.Tryz Go.RowKit Go.Shelf
theorem Yl (b:Bkg)(v:Value)(w:World):Calls prog 110 #[.agg (Qj b v)] w fun e w'=>e=.returned (.bool (Qx b))∧yw w w':=by
 obtain⟨id,Q,A,O,lev,E,F,J,upto,U,I⟩:=b;by_cases h:A=3
 ·have D:=yh (show Qx ⟨id,Q,A,O,lev,E,F,J,upto,U,I⟩=false by unfold Qx;rw[J2 h];rfl);subst h;go_enter func110,ntmps110;go_wp2_with fail;go_ret;exact⟨Un (by rw[D.out]),Qi _ _⟩
 ·have D:=yh (show Qx ⟨id,Q,A,O,lev,E,F,J,upto,U,I⟩=true by unfold Qx;rw[J3 h];rfl)
  have V:(A != 3)=true:=by simpa using h
  clear h;go_enter func110,ntmps110;go_wp2_with fail;go_ret;exact⟨Un (by rw[D.out]),Qi _ _⟩
theorem Q9b (b:Bkg)(v:Value)(c:Int)(w:World):Calls prog 193 #[.agg (Qj b v),.int .i64 c] w fun e w'=>e=.returned (.bool (UK c b))∧yw w w':=by
 obtain⟨id,O,Q,J,lev,D,F,I,upto,U,V⟩:=b;obtain⟨r,hr⟩:=yE (UK c ⟨id,O,Q,J,lev,D,F,I,upto,U,V⟩);rw[←hr];have X:=fun W=>Yl ⟨id,O,Q,J,lev,D,F,I,upto,U,V⟩ v W;obtain⟨q,Z⟩:=yE (Qx ⟨id,O,Q,J,lev,D,F,I,upto,U,V⟩);rw[←Z]at X;have HR:=yh (show r=(q && decide (D=c))by rw[hr,Z];rfl);have HL:=yh X;clear X;clear hr Z;go_enter func193,ntmps193;go_upto_region 0 with(fail);go_cut [2,4] (fun p _ wx=>∃h,yp p h∧Blk wx h (Qj ⟨id,O,Q,J,lev,D,F,I,upto,U,V⟩ v) 63∧yw w wx)
 case first=>as_aux_lemma=>
  go_wp2_with fail;go_meet;exact⟨_,rfl,Zg _ _,Qi _ _⟩
 obtain⟨h,rfl,A,E⟩:=hcut;have z0:yI wc h 0 id:=A.cell rfl;have z1:yI wc h 1 O:=A.cell rfl;have z2:yI wc h 2 Q:=A.cell rfl;have z3:yI wc h 3 J:=A.cell rfl;have z4:wc.cell? ⟨h,4,none⟩=some (.bool lev):=A.cell rfl;have z5:yI wc h 5 D:=A.cell rfl;have z6:yI wc h 6 F:=A.cell rfl;have z7:yI wc h 7 I:=A.cell rfl;have z8:yI wc h 8 upto:=A.cell rfl;have z9:yI wc h 9 U:=A.cell rfl;have aa:wc.cell? ⟨h,10,none⟩=some (v):=A.cell rfl;go_wp2_with fail;refine yM (HL _) fun w2 Y=>?_;replace A:=A.bel Y;replace E:=E.trans (Y.mono E.size);clear Y z0 z1 z2 z3 z4 z5 z6 z7 z8 z9 aa;have z5:yI w2 h 5 D:=A.cell rfl;cases q
 ·obtain rfl:r=false:=HR.out;go_wp2_with fail;go_ret;exact⟨rfl,E⟩
 by_cases hcb:D=c
 ·obtain rfl:r=true:=by rw[HR.out,J2 hcb];rfl
  subst hcb;go_wp2_with fail;go_ret;exact⟨rfl,E⟩
 ·obtain rfl:r=false:=by rw[HR.out,J3 hcb];rfl
  have ab:(D == c)=false:=by simpa using hcb
  clear hcb;go_wp2_with fail;go_ret;exact⟨rfl,E⟩
def U7b (l:List Bkg):Prop:=∀b∈l,Ym ⟨b.frm,b.upto⟩
theorem YSa {l:List Bkg}{c:Int}{k:Nat}{b:Bkg}(h:l[k]? = some b):spL (l.take (k+1)) c=spL (l.take k) c++(if UK c b=true then [⟨b.frm,b.upto⟩]else []):=by
 unfold spL;rw[Qo h,List.filter_append,List.map_append];cases e:UK c b<;>simp[e]
theorem YYb {l:List Bkg}{c:Int}{s:Span}(h:s∈spL l c):∃b∈l,s=⟨b.frm,b.upto⟩:=by
 unfold spL at h;obtain⟨b,A,rfl⟩:=List.mem_map.1 h;exact⟨b,(List.mem_filter.1 A).1,rfl⟩
theorem QXb {l:List Bkg}(h:U7b l){c:Int} : ∀s∈spL l c,Ym s:=fun s D=>by
 obtain⟨b,A,rfl⟩:=YYb D;exact h b A
theorem ZHb (l:List Bkg)(c:Int):(spL l c).length≤l.length:=by
 unfold spL;rw[List.length_map];exact List.length_filter_le _ _
def ZTa (l:List Bkg) (c:Int):List Span:=(spF (spL l c)).getD []
def ZN (l:List Bkg) (c:Int):Bool:=(spF (spL l c)).isSome
theorem Vza:∀{l:List Span} {a:Int},(∀x∈l,Ym x∧a≤x.frm)→l.Pairwise (fun x y=>x.upto≤y.frm)→a≤7→(l.length:Int)≤7 - a
 | [],a,_,_,h7=>by simp;omega
 | x::l,a,h,hp,_=>by
  obtain⟨⟨E,F,D⟩,I⟩:=h x (List.mem_cons_self ..);rw[List.pairwise_cons]at hp;have:=Vza (l:=l) (a:=x.upto) (fun y A=>⟨(h y (List.mem_cons_of_mem _ A)).1,hp.1 y A⟩) hp.2 D;rw[List.length_cons];omega
theorem YWb {ls out:List Span}(E:∀x∈ls,Ym x)(h:spF ls=some out):out.length≤7∧∀x∈out,Ym x:=by
 obtain⟨F,I⟩:=XT (fun x A=>(E x A).2.1) h;have D:∀x∈out,Ym x:=fun x A=>E x (F.subset A);have:=Vza (l:=out) (a:=0) (fun x A=>⟨D x A,(D x A).1⟩) I (by omega);exact⟨by omega,D⟩
theorem YZb (l:List Bkg)(c:Int)(k:Nat):∃m,spL l c=spL (l.take k) c++m:=by
 refine⟨spL (l.drop k) c,?_⟩;unfold spL;rw[←List.map_append,←List.filter_append,List.take_append_drop]
theorem XCb {ls m:List Span}(h:spF ls=none):spF (ls++m)=none:=by
 have:∀m:List Span,(m.foldl (fun o s=>o.bind (fun out=>Via out s)) none)=none:=by
  intro m
  induction m with
  | nil=>rfl
  | cons x m ih=>rw[List.foldl_cons];exact ih
 unfold spF at h ⊢;rw[List.foldl_append,h,this]
theorem XKb {l:List Bkg}{c:Int}{k:Nat}(h:spF (spL (l.take k) c)=none):ZN l c=false∧ZTa l c=[]:=by
 obtain⟨m,A⟩:=YZb l c k;unfold ZN ZTa;rw[A,XCb h];exact⟨rfl,rfl⟩
theorem XA {l:List Bkg}{c:Int}{out:List Span}(h:spF (spL l c)=some out):ZN l c=true∧ZTa l c=out:=by
 unfold ZN ZTa;rw[h];exact⟨rfl,rfl⟩
theorem Yq (C:Option Addr)(I cb:Nat)(l:List Bkg)(c:Int)(w:World)(hl:Sl ZJ 11 w All C I cb l)(aw:U7b l) :
  Calls prog 149 #[.slice C I cb,.int .i64 c] w fun e w'=>∃v xs,e=.returned (.tuple #[v,.bool (ZN l c)])∧Own Xo 2 51 w' w.heap.size v (ZTa l c) xs∧yw w w':=by
 have aG:=hl.bd;have HL:=yh hl;have HN:=yh hl.len;have ap:=yh aw;clear aw;obtain⟨tb,am⟩:=yE (ZN l c);obtain⟨tl,an⟩:=yE (ZTa l c);rw[←am,←an];have aq:=yh am;clear am;have ar:=yh an;clear an;clear hl;go_enter func149,ntmps149;go_wp2_with fail
 go_loopg [6,7] I (fun gk o i wr=>∃(k:Nat) (out:List Span) (xs:List Value),k≤I∧I - k≤gk∧i=.int .i64 k∧Aside (spF (spL (l.take k) c)=some out)∧Own Xo 2 51 wr w.heap.size o out xs∧yw w wr)
 case atStart=>exact⟨0,[],[],M0 _,by omega,rfl,rfl,Own.nil _ _ _ _ _,J4 _ _⟩
 case round=>
  obtain⟨k,out,xs,hk,aI,rfl,O,X,E⟩:=hrel;by_cases hlt:k < I
  ·skip;obtain⟨D,F,⟨id,ag,Z,ab,lev,Q,aa,U,upto,ah,aj⟩,A3,n3,c3,hA,hx,hF,W,A⟩:=(HL.bel E).bkg hlt;subst hA;simp only at hF;have y0:yI wr D (F+k*11) id:=A 0 _ rfl;have y1:yI wr D (F+k*11+1) ag:=A 1 _ rfl;have y2:yI wr D (F+k*11+2) Z:=A 2 _ rfl;have y3:yI wr D (F+k*11+3) ab:=A 3 _ rfl;have y4:wr.cell? ⟨D,F+k*11+4,none⟩=some (.bool lev):=A 4 _ rfl;have y5:yI wr D (F+k*11+5) Q:=A 5 _ rfl;have y6:yI wr D (F+k*11+6) aa:=A 6 _ rfl;have y7:yI wr D (F+k*11+7) U:=A 7 _ rfl;have y8:yI wr D (F+k*11+8) upto:=A 8 _ rfl;have y9:yI wr D (F+k*11+9) ah:=A 9 _ rfl;have aL:yJ wr D (F+k*11+10) A3 n3 c3:=A 10 _ rfl;clear A;have ae:=ap _ (J6 hx);have J:=YSa (c:=c) hx;obtain⟨al,ad⟩:=YWb (QXb (fun b E=>ap b (List.mem_of_mem_take E))) O;obtain⟨A2,n2,aA,rfl,af⟩:=X.sl Qv;have aD:=yh W.frm;have aE:=yh W.upto;have aJ:(0:Int)≤(k:Int):=Int.natCast_nonneg _;by_cases hst:Z=3
   ·have V:UK c ⟨id,ag,Z,ab,lev,Q,aa,U,upto,ah,aj⟩=false:=by unfold UK Qx;rw[J2 hst];rfl
    rw[V,M2 (by simp),List.append_nil]at J;have ai:=yh J;clear J;have HO:=yh X;subst hst;clear V X af hx ae ad al W;go_wp2_with fail;go_roundg (I - (k+1))
    case measure=>omega
    case rel=>exact⟨k+1,out,xs,by omega,by omega,by go_num,(show spF _=_ by rw[ai.out];exact O),HO,E⟩
   have aK:(Z == 3)=false:=by simpa using hst
   by_cases hcb:Q=c;rotate_left
   ·have V:UK c ⟨id,ag,Z,ab,lev,Q,aa,U,upto,ah,aj⟩=false:=by unfold UK;rw[J3 hcb,Bool.and_false]
    rw[V,M2 (by simp),List.append_nil]at J;have ai:=yh J;clear J;have HO:=yh X
    have aH:(Q != c)=true:=by simpa using hcb
    clear V X af hx ae ad al W hst hcb;go_wp2_with fail;go_roundg (I - (k+1))
    case measure=>omega
    case rel=>exact⟨k+1,out,xs,by omega,by omega,by go_num,(show spF _=_ by rw[ai.out];exact O),HO,E⟩
   have V:UK c ⟨id,ag,Z,ab,lev,Q,aa,U,upto,ah,aj⟩=true:=by unfold UK Qx;rw[J2 hcb,J3 hst];rfl
   rw[V,M3 rfl]at J
   have av:spF (spL (l.take (k+1)) c)=Via out ⟨U,upto⟩:=by rw[J,UQa,O];rfl
   have ak:=XOa A2 n2 aA out ⟨U,upto⟩ wr (af.all Qv (by omega)) (by omega) ad ae W.frm W.upto;obtain⟨u,hu⟩:=yE (adE out ⟨U,upto⟩);rw[←hu]at ak;have ax:=yh ak;clear ak;have HU:=yh hu;clear hu;have ao:=yh av;clear av;have aB:=E.size;subst hcb;clear V J hx X af ae ad al W hst;go_wp2_with fail;refine ax.mono ?_;rintro e w2 ⟨v2,aC,rfl,ac,au⟩;by_cases hu0:u=0
   ·subst hu0;rw[QQ]at ac;have ay:=yh (ac.mono Qv aB);have az:=yh (show spF (spL (l.take (k+1)) Q)=some (Ug ⟨U,upto⟩ out)by rw[ao.out];unfold Via;rw[M3 HU.out.symm]);clear ac O;go_wp2_with fail;go_roundg (I - (k+1))
    case measure=>omega
    case rel=>exact⟨k+1,_,aC,by omega,by omega,by go_num,az,ay,E.trans (au.mono E.size)⟩
   ·have Y:=XKb (l:=l) (c:=Q) (k:=k+1) (by rw[ao.out];unfold Via;rw[M2 (by rw[←HU.out];exact hu0)]);obtain rfl:tb=false:=aq.trans Y.1;obtain rfl:tl=[]:=ar.trans Y.2
    have aF:(u != 0)=true:=by simpa using hu0
    clear hu0 Y ac;go_wp2_with fail;go_ret2;exact⟨_,[],rfl,Own.nil _ _ _ _ _,E.trans (au.mono E.size)⟩
  ·obtain rfl:k=I:=by omega
   rw[M1 (Nat.le_of_eq HN.out)]at O;have Y:=XA O;obtain rfl:tb=true:=aq.trans Y.1;obtain rfl:tl=out:=ar.trans Y.2;clear Y O;go_wp2_with fail;go_ret2;exact⟨_,xs,rfl,X,E⟩
theorem ZWb (C:Option Addr)(nb cb:Nat)(l:List Bkg)(c:Int)(w:World)(hl:Sl ZJ 11 w All C nb cb l)(aU:U7b l)(hn:nb≤2000000000000) :
  Calls prog 112 #[.slice C nb cb,.int .i64 c] w fun e w'=>∃v xs,e=.returned (.tuple #[v,.bool (ZN l c)])∧Own Xo 2 51 w' w.heap.size v (ZTa l c) xs∧yw w w':=by
 have bl:=hl.bd;have HL:=yh hl;have HN:=yh hl.len;have a6:=yh aU;clear aU;obtain⟨tb,aB⟩:=yE (ZN l c);obtain⟨tl,aC⟩:=yE (ZTa l c);rw[←aB,←aC];have aq:=yh aB;clear aB;have ar:=yh aC;clear aC;clear hl;go_enter func112,ntmps112;go_wp2_with fail
 go_loopg [6,12] nb (fun gk o i wr=>∃(k:Nat) (xs:List Value),k≤nb∧nb - k≤gk∧i=.int .i64 k∧Own Xo 2 51 wr w.heap.size o (spL (l.take k) c) xs∧yw w wr)
 case atStart=>exact⟨0,[],M0 _,by omega,rfl,Own.nil _ _ _ _ _,J4 _ _⟩
 case round=>
  obtain⟨k,xs,hk,bp,rfl,U,A⟩:=hrel;obtain⟨A2,V,aK,rfl,aV⟩:=U.sl Qv;have al:=aV.len;clear aV;by_cases hlt:k < nb
  ·skip;obtain⟨I,F,⟨id,af,ag,ab,lev,Z,aa,J,upto,ah,au⟩,A3,n3,c3,hA,Q,hF,hI,E⟩:=(HL.bel A).bkg hlt;subst hA;simp only at hF;have y0:yI wr I (F+k*11) id:=E 0 _ rfl;have y1:yI wr I (F+k*11+1) af:=E 1 _ rfl;have y2:yI wr I (F+k*11+2) ag:=E 2 _ rfl;have y3:yI wr I (F+k*11+3) ab:=E 3 _ rfl;have y4:wr.cell? ⟨I,F+k*11+4,none⟩=some (.bool lev):=E 4 _ rfl;have y5:yI wr I (F+k*11+5) Z:=E 5 _ rfl;have y6:yI wr I (F+k*11+6) aa:=E 6 _ rfl;have y7:yI wr I (F+k*11+7) J:=E 7 _ rfl;have y8:yI wr I (F+k*11+8) upto:=E 8 _ rfl;have y9:yI wr I (F+k*11+9) ah:=E 9 _ rfl;have bh:yJ wr I (F+k*11+10) A3 n3 c3:=E 10 _ rfl;clear E;go_upto_region 4 with(fail);go_cut [8] (fun p wx=>∃z,yp p z∧Blk wx z (Qj ⟨id,af,ag,ab,lev,Z,aa,J,upto,ah,au⟩ (.slice A3 n3 c3)) 63∧yw wr wx)
   case first=>as_aux_lemma=>
    go_wp2_with fail;go_meet;exact⟨_,rfl,Zg _ _,Qi _ _⟩
   obtain⟨z,rfl,D,aj⟩:=hcut;clear y0 y1 y2 y3 y4 y5 y6 y7 y8 y9 bh;replace hF:=hF.bel aj;have aN:=U.bel aj;replace A:=A.trans (aj.mono A.size);clear aj U;have z0:yI wc z 0 id:=D.cell rfl;have z1:yI wc z 1 af:=D.cell rfl;have z2:yI wc z 2 ag:=D.cell rfl;have z3:yI wc z 3 ab:=D.cell rfl;have z4:wc.cell? ⟨z,4,none⟩=some (.bool lev):=D.cell rfl;have z5:yI wc z 5 Z:=D.cell rfl;have z6:yI wc z 6 aa:=D.cell rfl;have z7:yI wc z 7 J:=D.cell rfl;have z8:yI wc z 8 upto:=D.cell rfl;have z9:yI wc z 9 ah:=D.cell rfl;have bi:wc.cell? ⟨z,10,none⟩=some ((.slice A3 n3 c3)):=D.cell rfl;have az:=YSa (c:=c) Q;have ak:=ZHb (l.take k) c;rw[J8]at ak;have av:=fun W=>Q9b ⟨id,af,ag,ab,lev,Z,aa,J,upto,ah,au⟩ (.slice A3 n3 c3) c W;obtain⟨q,hq⟩:=yE (UK c ⟨id,af,ag,ab,lev,Z,aa,J,upto,ah,au⟩);rw[←hq]at av az;have aE:=yh av
   have bc:((spL (l.take k) c).length+1)*16≤140737488355328:=by omega
   have a1:=hI.frm;have a2:=hI.upto;simp only at a1 a2;have aJ:=yh az;clear az;have HO:=yh aN;clear aN;have aA:=A.size;clear av hq Q hF hI ak al;go_wp2_with fail;refine yM (aE _) fun w2 ai=>?_;replace D:=D.bel ai;have ap:=yh (HO.bel ai);replace A:=A.trans (ai.mono A.size);clear ai z0 z1 z2 z3 z4 z5 z6 z7 z8 z9 bi HO aE aA;cases q
   ·have HV:=yh (aJ.trans (by simp:_=spL (l.take k) c));go_wp2_with fail;go_roundg (nb - (k+1))
    case measure=>omega
    case rel=>exact⟨k+1,xs,by omega,by omega,by go_num,by rw[HV.out];exact ap,A⟩
   ·have HV:=yh (aJ.trans (by simp:_=spL (l.take k) c++[⟨J,upto⟩]));have z7:yI w2 z 7 J:=D.cell rfl;have z8:yI w2 z 8 upto:=D.cell rfl;have aO:=yh (ap.bel (Qi w2 (.cells #[.int .i64 J,.int .i64 upto] 51)));have bw:=A.size
    have aY:w.heap.size≤(w2.alloc (.cells #[.int .i64 J,.int .i64 upto] 51)).heap.size:=by simp;omega
    have a4:=yh (A.alloc A.size (.cells #[.int .i64 J,.int .i64 upto] 51));clear ap A D;go_wp2_with (at_builtin;refine Qz (t:=79) (e:=51) (bytes:=16) rfl (.tmp 19) (.tmp 22) rfl VN Qv rfl aO.out rfl (YS _ All J upto 51 a1 a2 trivial) (fun _ _ hc=>hc) bc (by omega) aY ?_;intro v' w' bg bf be _);go_roundg (nb - (k+1))
    case measure=>omega
    case rel=>exact⟨k+1,bg,by omega,by omega,by go_num,by rw[HV.out];exact bf,QA a4 aO.out be aY⟩
  ·obtain rfl:k=nb:=by omega
   rw[M1 (Nat.le_of_eq HN.out)]at U al;have ao:=yh A;have aA:=A.size;by_cases h0:V=0
   ·have ax:spL l c=[]:=List.eq_nil_of_length_eq_zero (by omega);have O:=XA (l:=l) (c:=c) (out:=[]) (by rw[ax];rfl);obtain rfl:tb=true:=aq.trans O.1;obtain rfl:tl=[]:=ar.trans O.2;rw[ax]at U;have HO:=yh U;clear U;subst h0;clear al ax O A;go_wp2_with fail;refine(ZOa A2 aK _ _).mono ?_;rintro e w3 ⟨rfl,rfl⟩;go_wp2_with fail
    go_loopg [9] 0 (fun gk i an=>i=.int .i64 1∧yw w an∧an=w3)
    case atStart=>exact⟨rfl,ao,rfl⟩
    case round=>
     obtain⟨rfl,A,rfl⟩:=hrel;go_wp2_with fail;go_ret2;exact⟨_,xs,rfl,HO,A⟩
   ·obtain⟨g,c9,hv,bm,bq⟩:=U.form (by omega);simp only[Value.slice.injEq]at hv;obtain⟨rfl,-,rfl⟩:=hv;have ay:=QXb a6 (c:=c);have ak:=ZHb l c;have aZ:=Y9a (w:=wr) (base:=w.heap.size) (g:=g) (n:=V) (cap:=aK) U (by have:=HN.out;omega) (fun x Q=>by have:=ay x Q;unfold Ym at this;omega);have aI:=yh aZ;clear aZ;have a7:=yh ay;clear ay;clear U al ak A;go_wp2_with fail;refine aI.mono ?_;rintro e w3 ⟨rfl,s,a3,O,hs,aw,hK⟩;have aP:=ao.trans (hK.below (B:=w.heap.size) aA (fun q hq (e:q=g)=>by omega));have aT:=UVb (fun x Q=>(a7 x Q).2.1) O hs;obtain⟨A4,n4,bk,a0,am⟩:=aw.sl Qv;simp only[Value.slice.injEq]at a0;obtain⟨rfl,rfl,rfl⟩:=a0;have aW:=am.all Qv (by omega);have bv:=am.bd;have a8:=yh am.len;obtain⟨W3,ba⟩:=yE w3;subst ba;have aH:=yh aW;have a5:=yh aw;have Y:=yh aP;have aF:=yh aT;clear aT;clear O hs aw hK am aW aI ao aP;go_wp2_with fail
    go_loopg [9] V (fun gk i an=>∃j:Nat,j≤V∧V - j≤gk∧i=.int .i64 ((j:Int)+1)∧Aside (∀p x y,p < j→s[p]? = some x→s[p+1]? = some y→Q2 x y=false)∧yw W3 an)
    case atStart=>exact⟨0,M0 _,by omega,rfl,fun _ _ _ h=>absurd h (Nat.not_lt_zero _),J4 _ _⟩
    case round=>
     obtain⟨j,hj,bo,rfl,HA,A⟩:=hrel;by_cases hlt:j+1 < V
     ·obtain⟨bb,F,x,c0,c1,aL,Q,⟨aR,_⟩,e0,e1⟩:=(aH.bel A).at2 (k:=j) (by omega);obtain⟨bj,bx,y,d0,d1,aM,hy,⟨aS,_⟩,e2,e3⟩:=(aH.bel A).at2 (k:=j+1) hlt;simp only[List.cons.injEq,and_true]at aR aS;obtain⟨rfl,rfl⟩:=aR;obtain⟨rfl,rfl⟩:=aS;simp only[Option.some.injEq,Addr.mk.injEq,and_true]at aL aM;obtain⟨rfl,rfl⟩:=aL;obtain⟨rfl,rfl⟩:=aM;simp only[Nat.zero_add]at e0 e1 e2 e3;have hM:=fun W=>U3b x.frm x.upto y.frm y.upto W;obtain⟨q,hq⟩:=yE (Q2 ⟨x.frm,x.upto⟩ ⟨y.frm,y.upto⟩);rw[←hq]at hM;have HM:=yh hM;clear hM;have HQ:=yh (show q=Q2 x y from hq);have HX:=yh Q;clear Q;have HY:=yh hy;clear hy;have hw:IntKind.i64.wrap (j:Int)=j:=IntWalk.i64_in _ (by omega);have br:(0:Int)≤(j:Int):=Int.natCast_nonneg _
      have bs:(j:Int)+1 < (V:Int):=by omega
      have bt:(j:Int) < (V:Int):=by omega
      have bu:(0:Int)≤(j:Int)+1:=by omega
      clear hq;go_upto_region 12 with(fail);go_cut [42] (fun t wx=>t=.bool q∧yw wr wx)
      case first=>as_aux_lemma=>
       have aD:=yh (show ∀X,yw wr X→(fun w'=>yI w' g (j*2) x.frm∧yI w' g (j*2+1) x.upto∧yI w' g ((j+1)*2) y.frm∧yI w' g ((j+1)*2+1) y.upto) X from fun X hX=>⟨Qg hX e0,Qg hX e1,Qg hX e2,Qg hX e3⟩);have ac:yw wr wr.drew:=(J4 _ wr).drew;clear e0 e1 e2 e3;refine yZ (S:=(fun w'=>yI w' g (j*2) x.frm∧yI w' g (j*2+1) x.upto∧yI w' g ((j+1)*2) y.frm∧yI w' g ((j+1)*2+1) y.upto)) (aD _ ac) fun a9=>?_;refine yT [0,1,2,3,4,5,6,7,8] ?_;iterate 9 (refine yS ?_;simp only[yU])
       refine yR 9 fun K hK=>?_;go_simp
       (go_at_call 196;refine yM (HM _) fun wn bA=>?_;replace ac:=ac.trans bA)
       go_wp2_with fail;refine hK.out _ _ (aD _ ac) fun a9=>?_;clear hK K
       try simp only[yU]
       refine yD ?_;go_wp2_with fail;go_meet;exact⟨rfl,ac⟩
      obtain⟨rfl,aQ⟩:=hcut;cases q
      ·skip;go_wp2_with fail;go_roundg (V - (j+1))
       case measure=>omega
       case rel=>
        refine⟨j+1,by omega,by omega,by go_num,fun p x' y' O ad ae=>?_,A.trans (aQ.mono A.size)⟩;by_cases e:p=j
        ·subst e;rw[HX.out]at ad;rw[HY.out]at ae;injection ad with ad;injection ae with ae;rw[←ad,←ae];exact HQ.symm
        ·exact HA p x' y' (by omega) ad ae
      ·have hn:=aF.2 ⟨j,x,y,HX,HY,HQ.symm⟩;obtain rfl:tb=false:=aq.trans (by unfold ZN;rw[hn];rfl);obtain rfl:tl=[]:=ar.trans (by unfold ZTa;rw[hn];rfl);clear hn;go_wp2_with fail;go_ret2;exact⟨_,[],rfl,Own.nil _ _ _ _ _,Y.trans ((A.trans (aQ.mono A.size)).mono Y.size)⟩
     ·have aX:=aF.1 (fun p x y Q hy=>HA p x y (by have h1:=(J0.1 hy).1;have:=a8.out;omega) Q hy);have O:=XA aX;obtain rfl:tb=true:=aq.trans O.1;obtain rfl:tl=s:=ar.trans O.2;have aG:=yh (a5.bel A)
      have bn:¬(j:Int)+1 < (V:Int):=by omega
      clear aX O HA;go_wp2_with fail;go_ret2
      first
       | exact⟨_,a3,rfl,aG,Y.trans (A.mono Y.size)⟩
       | exact⟨_,rfl,⟨a3,aG⟩,Y.trans (A.mono Y.size)⟩
def Vu (m:List Int) (p:Nat→Bool) (g:Int):List Int:=m.mapIdx (fun i v=>if p i=true then v+g else v)
theorem Uba (m:List Int)(p:Nat→Bool)(g:Int):(Vu m p g).length=m.length:=by unfold Vu;simp
theorem Vl (m:List Int)(p:Nat→Bool)(g:Int)(i:Nat):(Vu m p g)[i]? = m[i]?.map (fun v=>if p i=true then v+g else v):=by unfold Vu;simp
theorem Y8 {m:List Int}{p A:Nat→Bool}{g:Int}(h:∀i,i < m.length→p i=A i):Vu m p g=Vu m A g:=by
 refine List.ext_getElem? fun i=>?_;rw[Vl,Vl];by_cases hi:i < m.length
 ·rw[h i hi]
 ·rw[List.getElem?_eq_none (by omega)];rfl
theorem Q8a {m:List Int}{p:Nat→Bool}{g:Int}(h:∀i,i < m.length→p i=false):Vu m p g=m:=by
 refine List.ext_getElem? fun i=>?_;rw[Vl];by_cases hi:i < m.length
 ·rw[h i hi,J1 hi];simp
 ·rw[List.getElem?_eq_none (by omega)];rfl
theorem Vxa {m:List Int}{p A:Nat→Bool}{g:Int}{j:Nat}(D:j < m.length)(E:p j=false)(F:A j=true)(I:∀i,i < m.length→i≠j→A i=p i):Vu m A g=(Vu m p g).set j ((Vu m p g).getD j 0+g):=by
 refine List.ext_getElem? fun i=>?_;rw[Vl];by_cases hi:i=j
 ·subst hi;rw[List.getElem?_set_self (by rw[Uba];exact D),J7,Vl,J1 D,E,F];simp
 ·rw[List.getElem?_set_ne (fun e=>hi e.symm),Vl];by_cases hl:i < m.length
  ·rw[I i hl hi]
  ·rw[List.getElem?_eq_none (by omega)];rfl
def inB (b:Bkg) (i:Nat):Bool:=Qx b && (decide (b.frm≤i) && decide ((i:Int) < b.upto))
theorem QVb (l:List Bkg)(b:Bkg)(i:Nat):Ui (l++[b]) i=if inB b i=true then Ui l i+b.gst else Ui l i:=by
 unfold Ui;rw[List.map_append,List.sum_append];by_cases h:Qx b=true∧b.frm≤i∧(i:Int) < b.upto
 ·have A:inB b i=true:=by unfold inB;simp[h]
  rw[A];simp[h]
 ·have A:inB b i=false:=by
   cases e:inB b i
   ·rfl
   ·unfold inB at e;simp at e;exact absurd ⟨e.1,e.2⟩ h
  rw[A];simp[h]
theorem Uu (l:List Bkg)(N:Nat):(QS l N).length=N:=by unfold QS;simp
theorem XS (l:List Bkg)(N i:Nat)(h:i < N):(QS l N)[i]? = some (Ui l i):=by unfold QS;simp[h]
theorem UPa {l:List Bkg}{k N:Nat}{b:Bkg}(h:l[k]? = some b):QS (l.take (k+1)) N=Vu (QS (l.take k) N) (inB b) b.gst:=by
 refine List.ext_getElem? fun i=>?_;rw[Vl,Qo h];by_cases hi:i < N
 ·rw[XS _ _ _ hi,XS _ _ _ hi,QVb];rfl
 ·rw[List.getElem?_eq_none (by rw[Uu];omega),List.getElem?_eq_none (by rw[Uu];omega)];rfl
def X0b (l:List Bkg) (N:Nat):Prop:=∀b∈l,(0≤b.frm∧b.frm < b.upto∧b.upto≤N)∧1≤b.gst∧b.gst≤4
theorem QZa:∀{l:List Bkg},(∀b∈l,1≤b.gst∧b.gst≤4)→∀i,0≤Ui l i∧Ui l i≤4*l.length
 | [],_,i=>by simp[Ui]
 | b::l,h,i=>by
  have E:=QZa (l:=l) (fun x A=>h x (List.mem_cons_of_mem _ A)) i;have D:=h b (List.mem_cons_self ..)
  have:Ui (b::l) i=(if Qx b=true∧b.frm≤i∧(i:Int) < b.upto then b.gst else 0)+Ui l i:=by unfold Ui;simp
  rw[this,List.length_cons]
  split<;>omega
theorem Zcb {m:List Int}{p:Nat→Bool}{g M:Int}(h:∀i,0≤m.getD i 0∧m.getD i 0≤M)(A:0≤g∧g≤4)(i:Nat):0≤(Vu m p g).getD i 0∧(Vu m p g).getD i 0≤M+4:=by
 have:=h i;rw[J7]at this;rw[J7,Vl]
 cases e:m[i]? with
 | none=>rw[e]at this;simp at this ⊢;omega
 | some v=>
  rw[e]at this;simp only[Option.getD_some,Option.map_some]at this ⊢
  split<;>omega
theorem YRa {l:List Bkg}{N:Nat}(h:X0b l N)(k i:Nat):0≤(QS (l.take k) N).getD i 0∧(QS (l.take k) N).getD i 0≤4*l.length:=by
 rw[J7];by_cases hi:i < N
 ·rw[XS _ _ _ hi];have:=QZa (l:=l.take k) (fun b A=>(h b (List.mem_of_mem_take A)).2) i;rw[J8]at this;simp only[Option.getD_some];omega
 ·rw[List.getElem?_eq_none (by rw[Uu];omega)];simp;omega
theorem Xba (N:Nat):QS [] N=List.replicate N 0:=by
 unfold QS Ui;simp[List.eq_replicate_iff]
theorem YBb (W:World):(Instr.makeSlice 70 (.int .i64 6) (.int .i64 6)).run prog W=.ok (.slice (some ⟨W.heap.size,0,none⟩) 6 6) (W.alloc (.cells ((List.replicate 6 (0:Int)).map (Value.int .i64)).toArray 3)):=by kernel_rfl
theorem YCb (W:World):(Instr.makeSlice 70 (.int .i64 7) (.int .i64 7)).run prog W=.ok (.slice (some ⟨W.heap.size,0,none⟩) 7 7) (W.alloc (.cells ((List.replicate 7 (0:Int)).map (Value.int .i64)).toArray 3)):=by kernel_rfl
theorem Zxb (n:Nat)(A:n≤7)(W:World):(Instr.makeSlice 70 (.int .i64 n) (.int .i64 n)).run prog W=.ok (.slice (some ⟨W.heap.size,0,none⟩) n n) (W.alloc (.cells ((List.replicate n (0:Int)).map (Value.int .i64)).toArray 3)):=by
 have h:n≤5∨n=6∨n=7:=by omega
 rcases h with h | rfl | rfl
 ·exact V4b n h W
 ·exact YBb W
 ·exact YCb W
theorem RowI.own {w:World}{G base:Nat}{m:List Int}(h:RowI w G m 3)(E:base≤G)(F:∀x∈m,InI x)(I:m.length≤1000000):Own QM 1 3 w base (.slice (some ⟨G,0,none⟩) m.length m.length) m (m.map (Value.int .i64)):=by
 refine⟨⟨by simp,.inr ⟨G,m.length,_,rfl,E,h,J5 _,by simp only[maxLen];omega,by simp,by simp;exact M1 (by simp)⟩⟩,fun i x D=>⟨[.int .i64 x],⟨rfl,F x (J6 D)⟩,rfl,fun j u A=>?_⟩⟩;rcases j with _ | j
 ·simp at A;subst A;simp[D]
 ·simp at A
theorem YZa (N:Nat)(C:Option Addr)(Q cb:Nat)(l:List Bkg)(w:World)(hl:Sl ZJ 11 w All C Q cb l)(ao:X0b l N)(hN:N≤7)(hn:Q≤2000000000000) :
  Calls prog 120 #[.int .i64 (N:Int),.slice C Q cb] w fun e w'=>∃G,e=.returned (.slice (some ⟨G,0,none⟩) N N)∧w.heap.size≤G∧RowI w' G (QS l N) 3∧yw w w':=by
 have ag:=hl.bd;have HL:=yh hl;have HN:=yh hl.len;have al:=yh ao;clear ao;have aA:=fun W=>Zxb N hN W;clear hl;go_enter func120,ntmps120;go_upto_region 1 with(fail);go_cut [5] (fun p wx=>∃G,p=.slice (some ⟨G,0,none⟩) N N∧w.heap.size≤G∧RowI wx G (QS (l.take 0) N) 3∧yw w wx)
 case first=>as_aux_lemma=>
  go_wp2_with fail;go_meet;exact⟨_,rfl,J5 _,by rw[List.take_zero,Xba];unfold RowI;rw[show((List.replicate N (0:Int)).map (Value.int .i64)).toArray=Array.replicate N (.int .i64 0)by simp];exact Zg _ _,Qi _ _⟩
 obtain⟨G,rfl,hG,A,am⟩:=hcut;have U:=yh A;clear A;have ap:=yh am;clear am;clear aA;obtain⟨W0,rfl⟩:=yE wc;go_wp2_with fail
 go_loopg [13] Q (fun gk i wr=>∃k:Nat,k≤Q∧Q - k≤gk∧i=.int .i64 k∧RowI wr G (QS (l.take k) N) 3∧yw w wr)
 case atStart=>exact⟨0,M0 _,by omega,rfl,U,ap⟩
 case round=>
  obtain⟨k,hk,aF,rfl,A,F⟩:=hrel;by_cases hlt:k < Q
  ·have ay:=Blk.lt A;obtain⟨J,O,⟨id,Y,Z,E,lev,aO,X,V,upto,aa,ab⟩,A3,n3,c3,hA,hx,hF,hI,I⟩:=(HL.bel F).bkg hlt;subst hA;simp only at hF;have y0:yI wr J (O+k*11) id:=I 0 _ rfl;have y1:yI wr J (O+k*11+1) Y:=I 1 _ rfl;have y2:yI wr J (O+k*11+2) Z:=I 2 _ rfl;have y3:yI wr J (O+k*11+3) E:=I 3 _ rfl;have y4:wr.cell? ⟨J,O+k*11+4,none⟩=some (.bool lev):=I 4 _ rfl;have y5:yI wr J (O+k*11+5) aO:=I 5 _ rfl;have y6:yI wr J (O+k*11+6) X:=I 6 _ rfl;have y7:yI wr J (O+k*11+7) V:=I 7 _ rfl;have y8:yI wr J (O+k*11+8) upto:=I 8 _ rfl;have y9:yI wr J (O+k*11+9) aa:=I 9 _ rfl;have aC:yJ wr J (O+k*11+10) A3 n3 c3:=I 10 _ rfl;clear I;go_upto_region 4 with(fail);go_cut [7] (fun p wx=>∃z,yp p z∧wr.heap.size≤z∧Blk wx z (Qj ⟨id,Y,Z,E,lev,aO,X,V,upto,aa,ab⟩ (.slice A3 n3 c3)) 63∧yw wr wx)
   case first=>as_aux_lemma=>
    go_wp2_with fail;go_meet;exact⟨_,rfl,J5 _,Zg _ _,Qi _ _⟩
   obtain⟨z,rfl,aM,D,ad⟩:=hcut;clear y0 y1 y2 y3 y4 y5 y6 y7 y8 y9 aC;replace hF:=hF.bel ad;have A:=A.bel ad
   have aB:z≠G:=by omega
   replace F:=F.trans (ad.mono F.size);clear ad hF;have z0:yI wc z 0 id:=D.cell rfl;have z1:yI wc z 1 Y:=D.cell rfl;have z2:yI wc z 2 Z:=D.cell rfl;have z3:yI wc z 3 E:=D.cell rfl;have z4:wc.cell? ⟨z,4,none⟩=some (.bool lev):=D.cell rfl;have z5:yI wc z 5 aO:=D.cell rfl;have z6:yI wc z 6 X:=D.cell rfl;have z7:yI wc z 7 V:=D.cell rfl;have z8:yI wc z 8 upto:=D.cell rfl;have z9:yI wc z 9 aa:=D.cell rfl;have aD:wc.cell? ⟨z,10,none⟩=some ((.slice A3 n3 c3)):=D.cell rfl;have af:=fun W=>Yl ⟨id,Y,Z,E,lev,aO,X,V,upto,aa,ab⟩ (.slice A3 n3 c3) W;obtain⟨q,hq⟩:=yE (Qx ⟨id,Y,Z,E,lev,aO,X,V,upto,aa,ab⟩);rw[←hq]at af;have aj:=yh af;have ae:=yh (UPa (N:=N) hx);have ai:=yh (fun i=>YRa (al.out) k i);obtain⟨⟨o1,o2,o3⟩,o4,o5⟩:=al _ (J6 hx);simp only at o1 o2 o3 o4 o5;obtain⟨f,rfl⟩:∃f:Nat,V=f:=⟨V.toNat,by omega⟩;obtain⟨t,rfl⟩:∃t:Nat,upto=t:=⟨upto.toNat,by omega⟩;obtain⟨M,hM⟩:=yE (QS (l.take k) N);rw[←hM]at ae ai A;have ak:=yh (show M.length=N by rw[hM];exact Uu _ _);have HQ:=yh hq;have U:=yh A;clear A;clear af hq hx hI ay hM;go_wp2_with fail;refine yM (aj _) fun w2 ac=>?_;replace D:=D.bel ac;have A:=U.bel ac;replace F:=F.trans (ac.mono F.size);clear ac z0 z1 z2 z3 z4 z5 z6 z7 z8 z9 aD aj U;cases q
   ·have HV:=yh (show QS (l.take (k+1)) N=M by rw[ae.out];exact Q8a (fun i _=>by unfold inB;rw[←HQ.out];rfl));have U:=yh A;clear A;go_wp2_with fail;go_roundg (Q - (k+1))
    case measure=>omega
    case rel=>exact⟨k+1,by omega,by omega,by go_num,by rw[HV.out];exact U,F⟩
   ·have z7:yI w2 z 7 (f:Int):=D.cell rfl;have HZ:=yh D;clear D;have U:=yh A;clear A;have HB:=yh F;clear F;go_wp2_with fail
    go_loopg [8] (t - f) (fun ax j ah=>∃j0:Nat,f≤j0∧j0≤t∧t - j0≤ax∧j=.int .i64 j0∧RowI ah G (Vu M (fun i=>decide (f≤i) && decide (i < j0)) E) 3∧Blk ah z (Qj ⟨id,Y,Z,E,lev,aO,X,f,t,aa,ab⟩ (.slice A3 n3 c3)) 63∧yw w ah)
    case atStart=>exact⟨f,J5 _,by omega,by omega,rfl,by rw[Q8a (fun i _=>by simp<;>omega)];exact U,HZ,HB⟩
    case round=>
     obtain⟨j,aH,aI,aE,rfl,A,D,F⟩:=hrel;have z8:yI wr z 8 (t:Int):=D.cell rfl;have z3:yI wr z 3 E:=D.cell rfl;by_cases hjt:j < t
     ·have an:j < N:=by omega
      have c0:=A.cell (i:=j) (by rw[Uba,ak.out];exact an);have f0:=A.free j;have az:0≤E∧E≤4:=⟨by omega,by omega⟩;have ag:=Zcb (p:=fun i=>decide (f≤i) && decide (i < j)) ai az j;obtain⟨v,hv⟩:=yE ((Vu M (fun i=>decide (f≤i) && decide (i < j)) E).getD j 0);rw[←hv]at c0 ag
      have aL:IntKind.i64.wrap (v+E)=v+E:=by have:=HN.out;rw[IntKind.wrap_i64];omega
      have av:=yh (show Vu M (fun i=>decide (f≤i) && decide (i < j+1)) E=(Vu M (fun i=>decide (f≤i) && decide (i < j)) E).set j (v+E)by
       rw[hv]
       exact Vxa (by rw[ak.out];exact an) (by simp) (by simp<;>omega) (fun i _ aG=>by
        have hd:decide (i < j+1)=decide (i < j):=by rw[decide_eq_decide];omega
        rw[hd]))
      have aJ:(0:Int)≤(j:Int):=Int.natCast_nonneg _
      have aK:(j:Int) < (N:Int):=by omega
      have ar:=yh (fun u=>(A.bel (J4 _ wr).drew).set j u);have aw:=yh (fun u=>Blk.other (D.bel (J4 _ wr).drew) (p:=⟨G,j,none⟩) (fun e=>aB e.symm) u);have aq:=yh (fun u=>(F.drew).setCell (p:=⟨G,j,none⟩) hG u);clear hv A D F ag;go_wp2_with fail;go_region_with (fail)
      all_goals
       go_wp2_with fail;go_roundg (t - (j+1))
       case measure=>omega
       case rel=>exact⟨j+1,by omega,by omega,by omega,by go_num,by rw[av.out];exact ar _,aw _,aq _⟩
     ·obtain rfl:j=t:=by omega
      have HV:=yh (show QS (l.take (k+1)) N=Vu M (fun i=>decide (f≤i) && decide (i < j)) E by
       rw[ae.out]
       exact Y8 (fun i _=>by
        unfold inB;rw[←HQ.out];simp only[Bool.true_and]
        have h1:decide ((f:Int)≤(i:Int))=decide (f≤i):=by rw[decide_eq_decide];omega
        have h2:decide ((i:Int) < (j:Int))=decide (i < j):=by rw[decide_eq_decide];omega
        rw[h1,h2]))
      have au:=yh A;clear A;clear D;go_wp2_with fail;go_roundg (Q - (k+1))
      case measure=>omega
      case rel=>exact⟨k+1,by omega,by omega,by go_num,by rw[HV.out];exact au,F⟩
  ·obtain rfl:k=Q:=by omega
   rw[M1 (Nat.le_of_eq HN.out)]at A;go_wp2_with fail;go_ret;exact⟨G,rfl,hG,A,F⟩
end Go.Proofs.YtjdcokpmgionjaaGreat
