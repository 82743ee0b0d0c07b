/-
  Words, laws and contracts: BookP, BookA, BookB, BookC, BookD, BookE, BookF.
-/
import Derived.Test.YtjdcokpmgionjaaGreatBun4
import Derived.Test.YtjdcokpmgionjaaGreatBun7
import Derived.Test.YtjdcokpmgionjaaGreatBun8
set_option linter.unusedSimpArgs false
set_option linter.unusedVariables false
set_option maxRecDepth 100000
set_option maxHeartbeats 20000000
namespace Go.Proofs.YtjdcokpmgionjaaGreat
open Go.RowKit Go.Shelf
theorem Vhb (x y:Span):Q2 x y=Q2 y x:=by
 unfold Q2;rw[Bool.and_comm]
def Vya (out:List Span) (s:Span):Option (List Span):=if adE out s=0 then some (Z2 s out)else none
def spF (ls:List Span):Option (List Span):=ls.foldl (fun o s=>o.bind (fun out=>Vya out s)) (some [])
theorem Vca (ls:List Span)(s:Span):spF (ls++[s])=(spF ls).bind (fun out=>Vya out s):=by
 unfold spF;rw[List.foldl_append];rfl
theorem Yba {l:List Span}{s:Span} : adE l s=0↔l.any (fun x=>Q2 x s)=false:=by
 unfold adE
 cases h:l.any (fun x=>Q2 x s)
 ·simp
 ·simp
theorem Qeb {α:Type}{p:List α→Prop}(A:p [])(D:∀l x,p l→p (l++[x])):∀l,p l:=fun l=>by
 have:∀l:List α,p l.reverse:=fun l=>by
  induction l with
  | nil=>exact A
  | cons x l ih=>rw[List.reverse_cons];exact D _ _ ih
 have h:=this l.reverse
 rwa [List.reverse_reverse]at h
theorem VMb:∀ls:List Span,∀out:List Span,(∀x∈ls,x.frm < x.upto)→spF ls=some out→out.Perm ls∧out.Pairwise (fun x y=>x.upto≤y.frm):=by
 refine Qeb (p:=fun ls=>∀out:List Span,(∀x∈ls,x.frm < x.upto)→spF ls=some out→out.Perm ls∧out.Pairwise (fun x y=>x.upto≤y.frm)) ?_ ?_
 ·intro out _ h
  injection h with h
  subst h;exact⟨List.Perm.refl _,List.Pairwise.nil⟩
 ·intro ls s I out A h
  rw[Vca]at h
  cases ho:spF ls with
  | none=>rw[ho]at h;cases h
  | some o=>
   rw[ho]at h;have h:Vya o s=some out:=h;unfold Vya at h
   by_cases h1:adE o s=0
   ·rw[if_pos h1]at h
    injection h with h
    subst h;obtain⟨E,F⟩:=I _ (fun x D=>A x (List.mem_append_left _ D)) ho;exact⟨(UOa s o).trans (E.append_right [s]),XMb (A s (by simp)) (fun x D=>A x (List.mem_append_left _ (E.subset D))) F (Yba.1 h1)⟩
   ·rw[if_neg h1]at h;cases h
theorem Xx {ls out:List Span}(A:∀x∈ls,x.frm < x.upto)(D:spF ls=some out):out.Perm ls∧out.Pairwise (fun x y=>x.upto≤y.frm):=VMb ls out A D
theorem Zsb:∀ls:List Span,(∀x∈ls,x.frm < x.upto)→ls.Pairwise (fun x y=>Q2 x y=false)→∃out,spF ls=some out:=by
 refine Qeb (p:=fun ls=>(∀x∈ls,x.frm < x.upto)→ls.Pairwise (fun x y=>Q2 x y=false)→∃out,spF ls=some out) (fun _ _=>⟨[],rfl⟩) ?_;intro ls s J F D;rw[List.pairwise_append]at D;obtain⟨o,E⟩:=J (fun x A=>F x (List.mem_append_left _ A)) D.1;have I:=(Xx (fun x A=>F x (List.mem_append_left _ A)) E).1;rw[Vca,E];refine⟨Z2 s o,?_⟩
 show Vya o s=_
 unfold Vya;rw[if_pos (Yba.2 (List.any_eq_false.2 fun x A=>by rw[D.2.2 x (I.subset A) s (by simp)];simp))]
theorem Zta {ls:List Span}(A:∀x∈ls,x.frm < x.upto)(D:ls.Pairwise (fun x y=>Q2 x y=false)):∃out,spF ls=some out:=Zsb ls A D
theorem UZa {R:Span→Span→Prop}(D:∀x y z,R x y→R y z→R x z):∀{s:List Span},(∀i x y,s[i]? = some x→s[i+1]? = some y→R x y)→s.Pairwise R
 | [],_=>List.Pairwise.nil
 | [x],_=>by simp
 | x::y::s,h=>by
  have F:=UZa D (s:=y::s) (fun i a b I J=>h (i+1) a b (by simpa using I) (by simpa using J));have E:=h 0 x y rfl rfl;rw[List.pairwise_cons];refine⟨fun z A=>?_,F⟩
  rcases List.mem_cons.1 A with rfl | A
  ·exact E
  ·exact D x y z E ((List.pairwise_cons.1 F).1 z A)
theorem Xea {s:List Span}(h:s.Pairwise (fun x y=>x.upto≤y.frm)):s.Pairwise (fun x y=>Q2 x y=false):=
 h.imp fun A=>by unfold Q2;simp;omega
theorem VQb {ls s:List Span}(D:∀x∈ls,x.frm < x.upto)(I:s.Perm ls)(Y:s.Pairwise (fun x y=>x.frm≤y.frm)) :
  ((∀i x y,s[i]? = some x→s[i+1]? = some y→Q2 x y=false)→spF ls=some s)∧((∃i x y,s[i]? = some x∧s[i+1]? = some y∧Q2 x y=true)→spF ls=none):=by
 have X:∀x∈s,x.frm < x.upto:=fun x A=>D x (I.subset A)
 have Z:∀{x y:Span},Q2 x y=false→Q2 y x=false:=fun {x y} h=>by rw[Vhb];exact h
 refine⟨fun h=>?_,fun h=>?_⟩
 ·have hw:s.Pairwise (fun x y=>x.upto≤y.frm):=by
   refine List.Pairwise.imp (R:=fun x y=>x.upto≤y.frm∧y.frm < y.upto) (fun h=>h.1) (UZa (fun x y z V h2=>⟨by omega,h2.2⟩) fun i x y A E=>?_);have ab:=X x (List.mem_of_getElem? A);have aa:=X y (List.mem_of_getElem? E)
   have ac:x.frm≤y.frm:=by
    obtain⟨O,rfl⟩:=List.getElem?_eq_some_iff.1 A;obtain⟨Q,rfl⟩:=List.getElem?_eq_some_iff.1 E;exact List.pairwise_iff_getElem.1 Y i (i+1) O Q (by omega)
   rcases UUa (h i x y A E) ab aa with e | e
   ·exact⟨e,aa⟩
   ·omega
  obtain⟨o,F⟩:=Zta D ((I.pairwise_iff (fun {x y}=>Z)).1 (Xea hw));obtain⟨J,U⟩:=Xx D F;rw[F,VBa (I.trans J.symm) Y (QJc (fun x A=>D x (J.subset A)) U)]
 ·obtain⟨i,x,y,A,E,W⟩:=h
  cases F:spF ls with
  | none=>rfl
  | some o=>
   obtain⟨J,U⟩:=Xx D F;have V:s.Pairwise (fun x y=>Q2 x y=false):=((I.trans J.symm).pairwise_iff (fun {x y}=>Z)).2 (Xea U);obtain⟨O,rfl⟩:=List.getElem?_eq_some_iff.1 A;obtain⟨Q,rfl⟩:=List.getElem?_eq_some_iff.1 E;have:=List.pairwise_iff_getElem.1 V i (i+1) O Q (by omega);rw[this]at W;exact absurd W (by simp)
structure Bkg where
 id:Int
 kind:Int
 state:Int
 gst:Int
 lev:Bool
 cab:Int
 cat:Int
 frm:Int
 upto:Int
 til:Int
 fol:List Entry
 deriving Inhabited
structure BkIn (x:Bkg):Prop where
 id:InI x.id
 kind:InI x.kind
 state:InI x.state
 gst:InI x.gst
 cab:InI x.cab
 cat:InI x.cat
 frm:InI x.frm
 upto:InI x.upto
 til:InI x.til
abbrev Qz (x:Bkg) (v:Value):Array Value:=#[.int .i64 x.id,.int .i64 x.kind,.int .i64 x.state,.int .i64 x.gst,.bool x.lev,.int .i64 x.cab,.int .i64 x.cat,.int .i64 x.frm,.int .i64 x.upto,.int .i64 x.til,v]
def Vb:Cod Bkg:=fun w S x cs=>∃A n cap,cs=(Qz x (.slice A n cap)).toList∧Sl Qw 3 w S A n cap x.fol∧BkIn x
theorem YE:Good Vb:=⟨fun h E=>by
  obtain⟨A,n,cap,rfl,h,F⟩:=h
  exact⟨A,n,cap,rfl,h.keep Qd (by omega) E,F⟩,fun h u D=>by
  obtain⟨A,n,cap,rfl,h,F⟩:=h
  simp[Qz]at D;rcases D with rfl | rfl | rfl | rfl | rfl | rfl | rfl | rfl | rfl | rfl | rfl<;>rfl⟩
instance bkgK:CodK Vb 11:=⟨YE,by omega⟩
instance entryK:CodK Qw 3:=⟨Qd,by omega⟩
def XZ (c:Cab) (b:Bkg):Bool:=decide (b.gst≤c.ber) && (c.lev || !b.lev)
def Qxa (x:Shp) (i:Int):Cab:=x.cabs.getD i.toNat default
def Zp (x:Shp) (b:Bkg) (i:Int):Bool:=XZ (Qxa x i) b && Zua (QS x.cats) (Qxa x i).cat.toNat b.cat.toNat
def Y9 (x:Shp) (b:Bkg):Int:=if Qc b.cab 0 ((x.cabs.length:Int) - 1)=false then 3 else if b.cat≠0 then 1 else if XZ (Qxa x b.cab) b=false then 4 else 0
def QTa (x:Shp) (b:Bkg):Int:=if Qc b.cat 0 ((x.cats.length:Int) - 1)=false then 3 else if b.frm≠0∨b.upto≠x.legs then 4 else if Qc b.cab (-1) ((x.cabs.length:Int) - 1)=false then 3
 else if 0≤b.cab∧Zp x b b.cab=false then 4 else 0
def kindE (x:Shp) (b:Bkg):Int:=if b.kind=2 then QTa x b else Y9 x b
def ofE (x:Shp) (b:Bkg):Int:=if (Qc b.kind 1 2 && Qc b.state 1 3)=false then 7 else if (Qc b.id 1 999999 && Qc b.gst 1 4)=false then 3 else if Vg ⟨b.frm,b.upto⟩ x.legs≠0 then Vg ⟨b.frm,b.upto⟩ x.legs
 else if kindE x b≠0 then kindE x b else if Qc b.til 0 9999=false then 3 else if b.til≠0∧b.state≠1 then 1 else Qe b.fol
def Qy (b:Bkg):Bool:=!decide (b.state=3)
def Uv (c:Int) (b:Bkg):Bool:=Qy b && decide (b.cab=c)
def spL (l:List Bkg) (c:Int):List Span:=(l.filter (Uv c)).map (fun b=>⟨b.frm,b.upto⟩)
def Z4 (l:List Bkg) (k:Nat):Int:=(l.map (fun b=>if Qy b=true∧b.frm≤k∧(k:Int) < b.upto then b.gst else 0)).sum
def QM (l:List Bkg) (legs:Nat):List Int:=(List.range legs).map (Z4 l)
abbrev Xob (c:Cab):Array Value:=#[Zb c.name,.int .i64 c.cat,.int .i64 c.ber,.bool c.lev]
theorem ZQ (n a b:Int)(w:World):Calls Tryz.prog 122 #[.int .i64 n,.int .i64 a,.int .i64 b] w fun e w'=>e=.returned (.bool (Qc n a b))∧w=w':=by
 go_enter Tryz.func122,Tryz.ntmps122
 go_wp2
 all_goals go_ret
 all_goals exact⟨ZN (by unfold Qc;simp;try omega),rfl⟩
theorem YDa {c:Cab}{b:Bkg}(h:b.gst≤c.ber):XZ c b=(c.lev || !b.lev):=by unfold XZ;rw[decide_eq_true h];rfl
theorem V3a {c:Cab}{b:Bkg}(h:¬b.gst≤c.ber):XZ c b=false:=by unfold XZ;rw[decide_eq_false h];rfl
theorem Qg {B:Nat}{W X:World}{p:Addr}{v:Value}(E:Below B W X)(A:W.cell? p=some v)(D:B=W.heap.size:=by rfl):X.cell? p=some v:=(World.cell?_of_block (E.block _ (by rw[D];exact World.block_lt_of_cell? W p A))).trans A
theorem VUa (c:Cab)(x:Bkg)(v:Value)(w:World) :
  Calls Tryz.prog 232 #[.agg (Xob c),.agg (Qz x v)] w fun e w'=>e=.returned (.bool (XZ c x))∧yw w w':=by
 obtain⟨W,O,A,F⟩:=c;obtain⟨id,V,X,D,lev,I,J,U,upto,Y,Q⟩:=x;obtain⟨r,E⟩:∃r,r=XZ ⟨W,O,A,F⟩ ⟨id,V,X,D,lev,I,J,U,upto,Y,Q⟩:=⟨_,rfl⟩;rw[←E];have HT:=yh (fun h:D≤A=>E.trans (YDa (c:=⟨W,O,A,F⟩) (b:=⟨id,V,X,D,lev,I,J,U,upto,Y,Q⟩) h));have HF:=yh (fun h:¬D≤A=>E.trans (V3a (c:=⟨W,O,A,F⟩) (b:=⟨id,V,X,D,lev,I,J,U,upto,Y,Q⟩) h));clear E
 go_enter Tryz.func232,Tryz.ntmps232
 go_upto_region 0 with(fail)
 go_cut [2,3,4] (fun p q _ Z=>∃g k,p=.pointer (some ⟨g,0,none⟩)∧q=.pointer (some ⟨k,0,none⟩)∧Blk Z g (Xob ⟨W,O,A,F⟩) 136∧Blk Z k (Qz ⟨id,V,X,D,lev,I,J,U,upto,Y,Q⟩ v) 63∧yw w Z)
 case first=>as_aux_lemma=>
  go_wp2_with fail
  go_meet
  exact⟨_,_,rfl,rfl,QA _ _ _,QB _ _ _,Zh _ _ _⟩
 obtain⟨g,k,rfl,rfl,hG,hK,hb⟩:=hcut;have g2:yI wc g 2 A:=hG.cell rfl;have g3:wc.cell? ⟨g,3,none⟩=some (.bool F):=hG.cell rfl;have k3:yI wc k 3 D:=hK.cell rfl;have k4:wc.cell? ⟨k,4,none⟩=some (.bool lev):=hK.cell rfl
 by_cases h1:D≤A
 ·have E:=HT.out h1
  cases F<;>cases lev<;>(simp at E;subst E;go_wp2_with fail;go_ret;exact⟨rfl,hb⟩)
 ·obtain rfl:=HF.out h1
  have h2:A < D:=by omega
  go_wp2_with fail
  go_ret
  exact⟨rfl,hb⟩
theorem Zxa (c:Cab)(x:Bkg)(v:Value)(w:World) :
  Calls Tryz.prog 146 #[.agg (Xob c),.agg (Qz x v)] w fun e w'=>e=.returned (.bool (XZ c x))∧yw w w':=by
 obtain⟨W,O,A,F⟩:=c;obtain⟨id,V,X,D,lev,I,J,U,upto,Y,Q⟩:=x;obtain⟨r,E⟩:∃r,r=XZ ⟨W,O,A,F⟩ ⟨id,V,X,D,lev,I,J,U,upto,Y,Q⟩:=⟨_,rfl⟩;rw[←E];have HT:=yh (fun h:D≤A=>E.trans (YDa (c:=⟨W,O,A,F⟩) (b:=⟨id,V,X,D,lev,I,J,U,upto,Y,Q⟩) h));have HF:=yh (fun h:¬D≤A=>E.trans (V3a (c:=⟨W,O,A,F⟩) (b:=⟨id,V,X,D,lev,I,J,U,upto,Y,Q⟩) h));clear E
 go_enter Tryz.func146,Tryz.ntmps146
 go_upto_region 0 with(fail)
 go_cut [2,3,4] (fun p q _ Z=>∃g k,p=.pointer (some ⟨g,0,none⟩)∧q=.pointer (some ⟨k,0,none⟩)∧Blk Z g (Xob ⟨W,O,A,F⟩) 136∧Blk Z k (Qz ⟨id,V,X,D,lev,I,J,U,upto,Y,Q⟩ v) 63∧yw w Z)
 case first=>as_aux_lemma=>
  go_wp2_with fail
  go_meet
  exact⟨_,_,rfl,rfl,QA _ _ _,QB _ _ _,Zh _ _ _⟩
 obtain⟨g,k,rfl,rfl,hG,hK,hb⟩:=hcut;have g2:yI wc g 2 A:=hG.cell rfl;have g3:wc.cell? ⟨g,3,none⟩=some (.bool F):=hG.cell rfl;have k3:yI wc k 3 D:=hK.cell rfl;have k4:wc.cell? ⟨k,4,none⟩=some (.bool lev):=hK.cell rfl
 by_cases h1:D≤A
 ·have E:=HT.out h1
  cases F<;>cases lev<;>(simp at E;subst E;go_wp2_with fail;go_ret;exact⟨rfl,hb⟩)
 ·obtain rfl:=HF.out h1
  have h2:A < D:=by omega
  go_wp2_with fail
  go_ret
  exact⟨rfl,hb⟩
theorem QEb {x:Shp}(F:OkShp x){k:Nat}(E:k < x.cabs.length):0≤(x.cabs.getD k default).cat∧(x.cabs.getD k default).cat < x.cats.length∧Qc (x.cabs.getD k default).ber 1 4=true:=by
 have h:=UA F.cabs k E;unfold nmE at h
 by_cases h1:U3 ((Qt x.cabs).getD k [])=false
 ·rw[if_pos h1]at h;omega
 rw[if_neg h1]at h
 by_cases h2:((Qt x.cabs).take k).contains ((Qt x.cabs).getD k [])=true
 ·rw[if_pos h2]at h;omega
 rw[if_neg h2]at h;unfold Y4 at h
 dsimp only at h
 by_cases h3:Qc (x.cabs.getD k default).cat 0 ((x.cats.length:Int) - 1)=false∨Qc (x.cabs.getD k default).ber 1 4=false
 ·rw[if_pos h3]at h;omega
 ·have A:Qc (x.cabs.getD k default).cat 0 ((x.cats.length:Int) - 1)=true:=by
   cases e:Qc (x.cabs.getD k default).cat 0 ((x.cats.length:Int) - 1)
   ·exact absurd (.inl e) h3
   ·rfl
  have D:=Qj.1 A;refine⟨D.1,by omega,?_⟩
  cases e:Qc (x.cabs.getD k default).ber 1 4
  ·exact absurd (.inr e) h3
  ·rfl
theorem Sl.cab {w:World}{B:Option Addr}{m O:Nat}{l:List Cab}(h:Sl ZW 4 w All B m O l){k:Nat}(Y:k < m):∃(b A:Nat) (J:List UInt8) (E D:Int) (I:Bool),B=some ⟨b,A,none⟩∧l.getD k default=⟨J,E,D,I⟩∧
  w.cell? ⟨b,A+k*4,none⟩=some (Zb J)∧w.cell? ⟨b,A+k*4+1,none⟩=some (.int .i64 E)∧w.cell? ⟨b,A+k*4+2,none⟩=some (.int .i64 D)∧w.cell? ⟨b,A+k*4+3,none⟩=some (.bool I):=by
 obtain⟨b,A,x,c0,c1,c2,c3,X,Z,⟨F,_⟩,Q,U,V,W⟩:=h.at4 Y;simp only[List.cons.injEq,and_true]at F;obtain⟨rfl,rfl,rfl,rfl⟩:=F;exact⟨b,A,x.name,x.cat,x.ber,x.lev,X,by rw[List.getD_eq_getElem?_getD,Z];rfl,Q,U,V,W⟩
theorem Qqa (x:Shp)(A:Option Addr)(n cap:Nat)(B:Option Addr)(m U:Nat)(b:Bkg)(v:Value)(k:Nat)(w:World)(hc:Sl Um 2 w All A n cap x.cats)(hb:Sl ZW 4 w All B m U x.cabs)(ho:OkShp x)
  (hk:k < m) (h0:0≤b.cat) (h1:b.cat < n) :
  Calls Tryz.prog 191 #[.agg #[.int .i64 x.legs,.int .i64 x.souls,.slice A n cap,.slice B m U],.agg (Qz b v),.int .i64 (k:Int)] w fun e w'=>e=.returned (.bool (Zp x b k))∧yw w w':=by
 obtain⟨id,Y,aa,ao,lev,Q,ag,V,upto,ab,ac⟩:=b;simp only at h0 h1;obtain⟨q,rfl⟩:∃q:Nat,ag=q:=⟨ag.toNat,by omega⟩
 have hq:q < n:=by omega
 obtain⟨r,hr⟩:∃r,r=Zp x ⟨id,Y,aa,ao,lev,Q,(q:Int),V,upto,ab,ac⟩ k:=⟨_,rfl⟩;rw[←hr];obtain⟨b,ae,nm,E,O,Z,hB,hx,e0,e1,e2,e3⟩:=hb.cab hk;subst hB;have af:=QEb ho (k:=k) (by rw[hb.len];exact hk);rw[hx,hc.len]at af;simp only at af;obtain⟨E,rfl⟩:∃d:Nat,E=d:=⟨E.toNat,by omega⟩
 have al:E < n:=by omega
 have ai:Qxa x k=⟨nm,E,O,Z⟩:=hx;have HR:=yh (show r=(XZ ⟨nm,E,O,Z⟩ ⟨id,Y,aa,ao,lev,Q,(q:Int),V,upto,ab,ac⟩ && Zua (QS x.cats) E q)by rw[hr];unfold Zp;rw[ai];rfl);have HM:=yh (fun W h=>Y5b x.legs x.souls A n cap x.cats (.slice (some ⟨b,ae,none⟩) m U) E q W h ho.ok al hq);have HF:=yh (fun W=>VUa ⟨nm,E,O,Z⟩ ⟨id,Y,aa,ao,lev,Q,(q:Int),V,upto,ab,ac⟩ v W);have HC:=yh hc;have HB:=yh hb;clear hr hx af hc hb h0 h1 ai
 go_enter Tryz.func191,Tryz.ntmps191
 go_upto_region 0 with(fail)
 go_cut [3,4,6] (fun p p2 _ wx=>∃g h,p=.pointer (some ⟨g,0,none⟩)∧p2=.pointer (some ⟨h,0,none⟩)∧Blk wx g #[.int .i64 x.legs,.int .i64 x.souls,.slice A n cap,.slice (some ⟨b,ae,none⟩) m U] 25∧Blk wx h (Qz ⟨id,Y,aa,ao,lev,Q,(q:Int),V,upto,ab,ac⟩ v) 63∧yw w wx)
 case first=>as_aux_lemma=>
  go_wp2_with fail
  go_meet
  exact⟨_,_,rfl,rfl,QA _ _ _,QB _ _ _,Zh _ _ _⟩
 obtain⟨g,h,rfl,rfl,F,hH,D⟩:=hcut;have g3:yJ wc g 3 (some ⟨b,ae,none⟩) m U:=F.cell rfl;replace e0:=Qg D e0;replace e1:=Qg D e1;replace e2:=Qg D e2;replace e3:=Qg D e3
 go_upto_region 1 with(fail)
 obtain⟨w1,am⟩:∃W,W=wc:=⟨_,rfl⟩;subst am
 go_cut [7] (fun p wx=>∃z,p=.pointer (some ⟨z,0,none⟩)∧Blk wx z (Xob ⟨nm,E,O,Z⟩) 136∧yw w1 wx)
 case first=>as_aux_lemma=>
  go_wp2_with fail
  go_meet
  exact⟨_,rfl,Za _ _,Qf _ _⟩
 obtain⟨z,rfl,I,ad⟩:=hcut;replace F:=F.bel ad;replace hH:=hH.bel ad;replace D:=D.trans (ad.mono D.size);clear ad e0 e1 e2 e3 g3;obtain⟨f,hf⟩:∃f,f=XZ ⟨nm,E,O,Z⟩ ⟨id,Y,aa,ao,lev,Q,(q:Int),V,upto,ab,ac⟩:=⟨_,rfl⟩;rw[←hf]at HF HR;clear hf;have k0:yI wc h 0 id:=hH.cell rfl;have k1:yI wc h 1 Y:=hH.cell rfl;have k2:yI wc h 2 aa:=hH.cell rfl;have k3:yI wc h 3 ao:=hH.cell rfl;have k4:wc.cell? ⟨h,4,none⟩=some (.bool lev):=hH.cell rfl;have k5:yI wc h 5 Q:=hH.cell rfl;have k6:yI wc h 6 (q:Int):=hH.cell rfl;have k7:yI wc h 7 V:=hH.cell rfl;have k8:yI wc h 8 upto:=hH.cell rfl;have k9:yI wc h 9 ab:=hH.cell rfl;have an:wc.cell? ⟨h,10,none⟩=some (v):=hH.cell rfl;have z0:wc.cell? ⟨z,0,none⟩=some (Zb nm):=I.cell rfl;have z1:yI wc z 1 (E:Int):=I.cell rfl;have z2:yI wc z 2 O:=I.cell rfl;have z3:wc.cell? ⟨z,3,none⟩=some (.bool Z):=I.cell rfl
 go_wp2_with fail
 refine(HF.out _).mono ?_;rintro e J ⟨rfl,X⟩
 cases f
 ·obtain rfl:r=false:=HR.out
  go_wp2_with fail
  go_ret
  exact⟨rfl,D.trans (X.mono D.size)⟩
 ·obtain⟨s,hs⟩:∃s,s=Zua (QS x.cats) E q:=⟨_,rfl⟩
  rw[←hs]at HM HR
  obtain rfl:r=s:=by rw[HR.out];rfl
  clear hs;replace F:=F.bel X;replace hH:=hH.bel X;replace I:=I.bel X;replace D:=D.trans (X.mono D.size);clear X k0 k1 k2 k3 k4 k5 k6 k7 k8 k9 an z0 z1 z2 z3;have g0:yI J g 0 x.legs:=F.cell rfl;have g1:yI J g 1 x.souls:=F.cell rfl;have g2:yJ J g 2 A n cap:=F.cell rfl;have g3:yJ J g 3 (some ⟨b,ae,none⟩) m U:=F.cell rfl;have z1:yI J z 1 (E:Int):=I.cell rfl;have h6:yI J h 6 (q:Int):=hH.cell rfl;have ah:=HM.out J (HC.out.bel D);have aj:=yh ah;clear ah
  go_wp2_with fail
  refine aj.out.mono ?_;rintro e w3 ⟨rfl,ak⟩
  go_wp2_with fail
  go_ret
  exact⟨rfl,D.trans (ak.mono D.size)⟩
theorem X4 (x:Shp)(A:Option Addr)(n cap:Nat)(B:Option Addr)(m Z:Nat)(b:Bkg)(v:Value)(k:Nat)(w:World)(hc:Sl Um 2 w All A n cap x.cats)(hb:Sl ZW 4 w All B m Z x.cabs)(ho:OkShp x)
  (hk:k < m) (h0:0≤b.cat) (h1:b.cat < n) :
  Calls Tryz.prog 147 #[.agg #[.int .i64 x.legs,.int .i64 x.souls,.slice A n cap,.slice B m Z],.agg (Qz b v),.int .i64 (k:Int)] w fun e w'=>e=.returned (.bool (Zp x b k))∧yw w w':=by
 obtain⟨id,aq,ar,V,lev,Q,ak,U,upto,Y,ae⟩:=b;simp only at h0 h1;obtain⟨q,rfl⟩:∃q:Nat,ak=q:=⟨ak.toNat,by omega⟩
 have hq:q < n:=by omega
 obtain⟨r,hr⟩:∃r,r=Zp x ⟨id,aq,ar,V,lev,Q,(q:Int),U,upto,Y,ae⟩ k:=⟨_,rfl⟩;rw[←hr];obtain⟨b,F,nm,I,ab,lv,hB,hx,e0,e1,e2,e3⟩:=hb.cab hk;subst hB;have ai:=QEb ho (k:=k) (by rw[hb.len];exact hk);rw[hx,hc.len]at ai;simp only at ai;obtain⟨I,rfl⟩:∃d:Nat,I=d:=⟨I.toNat,by omega⟩
 have an:I < n:=by omega
 have al:Qxa x k=⟨nm,I,ab,lv⟩:=hx;have HR:=yh (show r=(XZ ⟨nm,I,ab,lv⟩ ⟨id,aq,ar,V,lev,Q,(q:Int),U,upto,Y,ae⟩ && Zua (QS x.cats) I q)by rw[hr];unfold Zp;rw[al];rfl);have HM:=yh (fun W h=>Vla x.legs x.souls A n cap x.cats (.slice (some ⟨b,F,none⟩) m Z) I q W h ho.ok an hq);have HF:=yh (fun W=>Zxa ⟨nm,I,ab,lv⟩ ⟨id,aq,ar,V,lev,Q,(q:Int),U,upto,Y,ae⟩ v W);have HC:=yh hc;have HB:=yh hb;clear hr hx ai hc hb h0 h1 al
 go_enter Tryz.func147,Tryz.ntmps147
 go_upto_region 0 with(fail)
 go_cut [3,4,6] (fun p p2 _ wx=>∃g h,p=.pointer (some ⟨g,0,none⟩)∧p2=.pointer (some ⟨h,0,none⟩)∧Blk wx g #[.int .i64 x.legs,.int .i64 x.souls,.slice A n cap,.slice (some ⟨b,F,none⟩) m Z] 25∧Blk wx h (Qz ⟨id,aq,ar,V,lev,Q,(q:Int),U,upto,Y,ae⟩ v) 63∧yw w wx)
 case first=>as_aux_lemma=>
  go_wp2_with fail
  go_meet
  exact⟨_,_,rfl,rfl,QA _ _ _,QB _ _ _,Zh _ _ _⟩
 obtain⟨g,h,rfl,rfl,hG,J,af⟩:=hcut;replace e0:=Qg af e0;replace e1:=Qg af e1;replace e2:=Qg af e2;replace e3:=Qg af e3;have g0:yI wc g 0 x.legs:=hG.cell rfl;have g1:yI wc g 1 x.souls:=hG.cell rfl;have g2:yJ wc g 2 A n cap:=hG.cell rfl;have g3:yJ wc g 3 (some ⟨b,F,none⟩) m Z:=hG.cell rfl;have k0:yI wc h 0 id:=J.cell rfl;have k1:yI wc h 1 aq:=J.cell rfl;have k2:yI wc h 2 ar:=J.cell rfl;have k3:yI wc h 3 V:=J.cell rfl;have k4:wc.cell? ⟨h,4,none⟩=some (.bool lev):=J.cell rfl;have k5:yI wc h 5 Q:=J.cell rfl;have k6:yI wc h 6 (q:Int):=J.cell rfl;have k7:yI wc h 7 U:=J.cell rfl;have k8:yI wc h 8 upto:=J.cell rfl;have k9:yI wc h 9 Y:=J.cell rfl;have ah:wc.cell? ⟨h,10,none⟩=some (v):=J.cell rfl;obtain⟨f,hf⟩:∃f,f=XZ ⟨nm,I,ab,lv⟩ ⟨id,aq,ar,V,lev,Q,(q:Int),U,upto,Y,ae⟩:=⟨_,rfl⟩;rw[←hf]at HF HR;clear hf
 have aj:=yh (fun(X:World) (D:yw wc X)=>And.intro (And.intro (Qg D g0) (And.intro (Qg D g1) (And.intro (Qg D g2) (Qg D g3)))) (And.intro (And.intro (Qg D e0) (And.intro (Qg D e1) (And.intro (Qg D e2) (Qg D e3))))
  (And.intro (Qg D k0) (And.intro (Qg D k1) (And.intro (Qg D k2) (And.intro (Qg D k3) (And.intro (Qg D k4) (And.intro (Qg D k5) (And.intro (Qg D k6) (And.intro (Qg D k7) (And.intro (Qg D k8) (And.intro (Qg D k9) (Qg D ah)))))))))))))
 have E:yw wc wc.drew:=(Below.refl _ wc).drew;have ac:=yh af;replace e0:=Qg E e0;replace e1:=Qg E e1;replace e2:=Qg E e2;replace e3:=Qg E e3;replace g3:=Qg E g3;replace k0:=Qg E k0;replace k1:=Qg E k1;replace k2:=Qg E k2;replace k3:=Qg E k3;replace k4:=Qg E k4;replace k5:=Qg E k5;replace k6:=Qg E k6;replace k7:=Qg E k7;replace k8:=Qg E k8;replace k9:=Qg E k9;replace ah:=Qg E ah;have ao:(0:Int)≤(k:Int):=Int.natCast_nonneg _
 have ap:(k:Int) < (m:Int):=by omega
 clear g0 g1 g2 hG J;have ad:=yh (show ∀X,yw wc X→(fun w'=>(yI w' g 0 x.legs∧yI w' g 1 x.souls∧yJ w' g 2 A n cap∧yJ w' g 3 (some ⟨b,F,none⟩) m Z)∧(w'.cell? ⟨b,F+k*4,none⟩=some (Zb nm)∧yI w' b (F+k*4+1) (I:Int)∧yI w' b (F+k*4+2) ab∧w'.cell? ⟨b,F+k*4+3,none⟩=some (.bool lv))∧(yI w' h 0 id∧yI w' h 1 aq∧yI w' h 2 ar∧yI w' h 3 V∧w'.cell? ⟨h,4,none⟩=some (.bool lev)∧yI w' h 5 Q∧yI w' h 6 (q:Int)∧yI w' h 7 U∧yI w' h 8 upto∧yI w' h 9 Y∧w'.cell? ⟨h,10,none⟩=some v)) X from aj.out);have hb:=E;clear k0 k1 k2 k3 k4 k5 k6 k7 k8 k9 ah e0 e1 e2 e3 g3 aj E
 cases f
 ·obtain rfl:r=false:=HR.out
  go_upto_region 1 with(fail)
  refine wp_region_held_drew (S:=(fun w'=>(yI w' g 0 x.legs∧yI w' g 1 x.souls∧yJ w' g 2 A n cap∧yJ w' g 3 (some ⟨b,F,none⟩) m Z)∧(w'.cell? ⟨b,F+k*4,none⟩=some (Zb nm)∧yI w' b (F+k*4+1) (I:Int)∧yI w' b (F+k*4+2) ab∧w'.cell? ⟨b,F+k*4+3,none⟩=some (.bool lv))∧(yI w' h 0 id∧yI w' h 1 aq∧yI w' h 2 ar∧yI w' h 3 V∧w'.cell? ⟨h,4,none⟩=some (.bool lev)∧yI w' h 5 Q∧yI w' h 6 (q:Int)∧yI w' h 7 U∧yI w' h 8 upto∧yI w' h 9 Y∧w'.cell? ⟨h,10,none⟩=some v))) (by kernel_rfl) (ad.out _ hb) (fun ag=>?_);refine yT [0,1,2,3,4,5] (by kernel_rfl) (by assumption) ?_
  iterate 6 (refine yS (v:=?_) (gA rfl) (fun _ _ _ h=>h) rfl ?_ ?_;rotate_left;(focus (intro w O;(try dsimp only at O);go_simp<;>with_reducible rfl));simp only[yP,yA,yB,yC])
  refine yR 6 (by kernel_rfl) (gA rfl) fun K hK=>?_
  go_simp
  (go_at_call 146;refine(HF.out _).mono ?_;rintro e w2 ⟨rfl,aa⟩;replace hb:=hb.trans (aa.mono hb.size);clear aa)
  go_wp2_with fail
  refine hK.out _ _ (ad.out _ hb) fun ag=>?_
  clear hK K
  try simp only[yP,yQ,yA,yB,yC]
  refine yT [7] (by kernel_rfl) (by assumption) ?_
  iterate 1 (refine yS (v:=?_) (gA rfl) (fun _ _ _ h=>h) rfl ?_ ?_;rotate_left;(focus (intro w O;(try dsimp only at O);go_simp<;>with_reducible rfl));simp only[yP,yA,yB,yC])
  refine wpAnyH_take (i:=8) (v:=undef) (gA rfl) (by kernel_rfl) (by kernel_rfl) (by kernel_rfl) (fun _ _ _ h=>h) (Or.inr ⟨rfl,rfl⟩) (by assumption) ?_;simp only[yP,yQ,yA,yB,yC];refine wpAnyH_take (i:=9) (v:=undef) (gA rfl) (by kernel_rfl) (by kernel_rfl) (by kernel_rfl) (fun _ _ _ h=>h) (Or.inr ⟨rfl,rfl⟩) (by assumption) ?_;simp only[yP,yQ,yA,yB,yC];refine wpAnyH_take (i:=10) (v:=undef) (gA rfl) (by kernel_rfl) (by kernel_rfl) (by kernel_rfl) (fun _ _ _ h=>h) (Or.inr ⟨rfl,rfl⟩) (by assumption) ?_;simp only[yP,yQ,yA,yB,yC];refine wpAnyH_take (i:=11) (v:=undef) (gA rfl) (by kernel_rfl) (by kernel_rfl) (by kernel_rfl) (fun _ _ _ h=>h) (Or.inr ⟨rfl,rfl⟩) (by assumption) ?_;simp only[yP,yQ,yA,yB,yC];refine wpAnyH_take (i:=12) (v:=undef) (gA rfl) (by kernel_rfl) (by kernel_rfl) (by kernel_rfl) (fun _ _ _ h=>h) (Or.inr ⟨rfl,rfl⟩) (by assumption) ?_;simp only[yP,yQ,yA,yB,yC];refine wpAnyH_take (i:=13) (v:=undef) (gA rfl) (by kernel_rfl) (by kernel_rfl) (by kernel_rfl) (fun _ _ _ h=>h) (Or.inr ⟨rfl,rfl⟩) (by assumption) ?_;simp only[yP,yQ,yA,yB,yC];refine wpAnyH_take (i:=14) (v:=undef) (gA rfl) (by kernel_rfl) (by kernel_rfl) (by kernel_rfl) (fun _ _ _ h=>h) (Or.inr ⟨rfl,rfl⟩) (by assumption) ?_;simp only[yP,yQ,yA,yB,yC];refine wpAnyH_take (i:=15) (v:=undef) (gA rfl) (by kernel_rfl) (by kernel_rfl) (by kernel_rfl) (fun _ _ _ h=>h) (Or.inr ⟨rfl,rfl⟩) (by assumption) ?_;simp only[yP,yQ,yA,yB,yC];refine wpAnyH_take (i:=16) (v:=undef) (gA rfl) (by kernel_rfl) (by kernel_rfl) (by kernel_rfl) (fun _ _ _ h=>h) (Or.inr ⟨rfl,rfl⟩) (by assumption) ?_;simp only[yP,yQ,yA,yB,yC];refine wpAnyH_take (i:=17) (v:=undef) (gA rfl) (by kernel_rfl) (by kernel_rfl) (by kernel_rfl) (fun _ _ _ h=>h) (Or.inr ⟨rfl,rfl⟩) (by assumption) ?_;simp only[yP,yQ,yA,yB,yC];refine yT [18,19] (by kernel_rfl) (by assumption) ?_
  iterate 2 (refine yS (v:=?_) (gA rfl) (fun _ _ _ h=>h) rfl ?_ ?_;rotate_left;(focus (intro w O;(try dsimp only at O);go_simp<;>with_reducible rfl));simp only[yP,yA,yB,yC])
  refine wpAnyH_done (by kernel_rfl) ?_ _
  go_wp2_with fail
  go_ret
  exact⟨rfl,ac.out.trans (hb.mono ac.out.size)⟩
 ·obtain⟨s,hs⟩:∃s,s=Zua (QS x.cats) I q:=⟨_,rfl⟩
  rw[←hs]at HM HR
  obtain rfl:r=s:=by rw[HR.out];rfl
  clear hs
  go_upto_region 1 with(fail)
  refine wp_region_held_drew (S:=(fun w'=>(yI w' g 0 x.legs∧yI w' g 1 x.souls∧yJ w' g 2 A n cap∧yJ w' g 3 (some ⟨b,F,none⟩) m Z)∧(w'.cell? ⟨b,F+k*4,none⟩=some (Zb nm)∧yI w' b (F+k*4+1) (I:Int)∧yI w' b (F+k*4+2) ab∧w'.cell? ⟨b,F+k*4+3,none⟩=some (.bool lv))∧(yI w' h 0 id∧yI w' h 1 aq∧yI w' h 2 ar∧yI w' h 3 V∧w'.cell? ⟨h,4,none⟩=some (.bool lev)∧yI w' h 5 Q∧yI w' h 6 (q:Int)∧yI w' h 7 U∧yI w' h 8 upto∧yI w' h 9 Y∧w'.cell? ⟨h,10,none⟩=some v))) (by kernel_rfl) (ad.out _ hb) (fun ag=>?_);refine yT [0,1,2,3,4,5] (by kernel_rfl) (by assumption) ?_
  iterate 6 (refine yS (v:=?_) (gA rfl) (fun _ _ _ h=>h) rfl ?_ ?_;rotate_left;(focus (intro w O;(try dsimp only at O);go_simp<;>with_reducible rfl));simp only[yP,yA,yB,yC])
  refine yR 6 (by kernel_rfl) (gA rfl) fun K hK=>?_
  go_simp
  (go_at_call 146;refine(HF.out _).mono ?_;rintro e w2 ⟨rfl,aa⟩;replace hb:=hb.trans (aa.mono hb.size);clear aa;have am:=yh (HM.out w2 ((HC.out.bel ac.out).bel hb)))
  go_wp2_with fail
  refine hK.out _ _ (ad.out _ hb) fun ag=>?_
  clear hK K
  try simp only[yP,yQ,yA,yB,yC]
  refine yT [7,8,9,10,11,12,13,14,15,16] (by kernel_rfl) (by assumption) ?_
  iterate 10 (refine yS (v:=?_) (gA rfl) (fun _ _ _ h=>h) rfl ?_ ?_;rotate_left;(focus (intro w O;(try dsimp only at O);go_simp<;>with_reducible rfl));simp only[yP,yA,yB,yC])
  refine yR 17 (by kernel_rfl) (gA rfl) fun K hK=>?_
  go_simp
  (go_at_call 209;refine am.out.mono ?_;rintro e w3 ⟨rfl,aa⟩;replace hb:=hb.trans (aa.mono hb.size);clear aa)
  go_wp2_with fail
  refine hK.out _ _ (ad.out _ hb) fun ag=>?_
  clear hK K
  try simp only[yP,yQ,yA,yB,yC]
  refine yT [18,19] (by kernel_rfl) (by assumption) ?_
  iterate 2 (refine yS (v:=?_) (gA rfl) (fun _ _ _ h=>h) rfl ?_ ?_;rotate_left;(focus (intro w O;(try dsimp only at O);go_simp<;>with_reducible rfl));simp only[yP,yA,yB,yC])
  refine wpAnyH_done (by kernel_rfl) ?_ _
  go_wp2_with fail
  go_ret
  exact⟨rfl,ac.out.trans (hb.mono ac.out.size)⟩
theorem Via {m:Nat}(h:m≤9223372036854775807):IntKind.i64.wrap ((m:Int) - 1)=(m:Int) - 1:=by rw[IntKind.wrap_i64];omega
theorem Vnb (x:Shp)(A:Option Addr)(n cap:Nat)(B:Option Addr)(m Y:Nat)(b:Bkg)(v:Value)(w:World)(Z:Sl ZW 4 w All B m Y x.cabs) :
  Calls Tryz.prog 186 #[.agg #[.int .i64 x.legs,.int .i64 x.souls,.slice A n cap,.slice B m Y],.agg (Qz b v)] w fun e w'=>e=.returned (.int .i64 (Y9 x b))∧yw w w':=by
 obtain⟨id,O,Q,J,lev,D,E,I,upto,U,V⟩:=b;obtain⟨r,hr⟩:∃r,r=Y9 x ⟨id,O,Q,J,lev,D,E,I,upto,U,V⟩:=⟨_,rfl⟩;rw[←hr];obtain⟨q1,aa⟩:∃q,q=Qc D 0 ((m:Int) - 1):=⟨_,rfl⟩;have X:=yh (show r=if q1=false then 3 else if E≠0 then 1 else if XZ (Qxa x D) ⟨id,O,Q,J,lev,D,E,I,upto,U,V⟩=false then 4 else 0 by rw[hr,aa,←Z.len];rfl);have al:=Via Z.bd
 have ab:=fun W=>ZQ D 0 ((m:Int) - 1) W
 rw[←aa]at ab;have HB:=yh Z;have HQ:=yh aa;clear aa;clear hr Z
 go_enter Tryz.func186,Tryz.ntmps186
 go_upto_region 0 with(fail)
 go_cut [2,3,4] (fun p p2 _ wx=>∃g h,p=.pointer (some ⟨g,0,none⟩)∧p2=.pointer (some ⟨h,0,none⟩)∧Blk wx g #[.int .i64 x.legs,.int .i64 x.souls,.slice A n cap,.slice B m Y] 25∧Blk wx h (Qz ⟨id,O,Q,J,lev,D,E,I,upto,U,V⟩ v) 63∧yw w wx)
 case first=>as_aux_lemma=>
  go_wp2_with fail
  go_meet
  exact⟨_,_,rfl,rfl,QA _ _ _,QB _ _ _,Zh _ _ _⟩
 obtain⟨g,h,rfl,rfl,hG,hH,F⟩:=hcut;have g3:yJ wc g 3 B m Y:=hG.cell rfl;have k0:yI wc h 0 id:=hH.cell rfl;have k1:yI wc h 1 O:=hH.cell rfl;have k2:yI wc h 2 Q:=hH.cell rfl;have k3:yI wc h 3 J:=hH.cell rfl;have k4:wc.cell? ⟨h,4,none⟩=some (.bool lev):=hH.cell rfl;have k5:yI wc h 5 D:=hH.cell rfl;have k6:yI wc h 6 E:=hH.cell rfl;have k7:yI wc h 7 I:=hH.cell rfl;have k8:yI wc h 8 upto:=hH.cell rfl;have k9:yI wc h 9 U:=hH.cell rfl;have am:wc.cell? ⟨h,10,none⟩=some (v):=hH.cell rfl
 cases q1
 ·obtain rfl:r=3:=by rw[X.out,if_pos rfl]
  go_wp2_with fail
  refine(ab _).mono ?_;rintro e w9 ⟨rfl,rfl⟩
  go_wp2_with fail
  go_ret
  exact⟨rfl,F⟩
 have ah:=Qj.1 HQ.out.symm;obtain⟨k,rfl⟩:∃k:Nat,D=k:=⟨D.toNat,by omega⟩
 have hk:k < m:=by omega
 by_cases hcat:E=0
 ·subst hcat
  obtain⟨b,an,nm,ct,ac,lv,hB,hx,e0,e1,e2,e3⟩:=(HB.out.bel F).cab hk;subst hB;have hf:Qxa x k=⟨nm,ct,ac,lv⟩:=hx;have HF:=yh (fun W=>VUa ⟨nm,ct,ac,lv⟩ ⟨id,O,Q,J,lev,k,0,I,upto,U,V⟩ v W);obtain⟨f,ad⟩:∃f,f=XZ ⟨nm,ct,ac,lv⟩ ⟨id,O,Q,J,lev,k,0,I,upto,U,V⟩:=⟨_,rfl⟩;have ae:=yh (show r=if f=false then 4 else 0 by rw[X.out,if_neg (by simp),if_neg (by simp),hf,ad]);rw[←ad]at HF;clear X hx hf ad HQ ah;have aj:(0:Int)≤(k:Int):=Int.natCast_nonneg _
  have ak:(k:Int) < (m:Int):=by omega
  go_wp2_with fail
  refine(ab _).mono ?_;rintro e w9 ⟨rfl,rfl⟩
  go_wp2_with fail
  go_upto_region 5 with(fail)
  go_cut [18] (fun t wx=>t=.bool (!f)∧yw wc wx)
  case first=>as_aux_lemma=>
   go_region_with (go_at_call 232;refine(HF.out _).mono ?_;rintro e wn ⟨rfl,ag⟩)
   all_goals
    go_wp2_with fail
    go_meet
    exact⟨rfl,(Below.refl _ _).drew.trans ag⟩
  obtain⟨rfl,af⟩:=hcut
  cases f
  ·obtain rfl:r=4:=ae.out
   go_wp2_with fail
   go_ret
   exact⟨rfl,F.trans (af.mono F.size)⟩
  ·obtain rfl:r=0:=ae.out
   go_wp2_with fail
   go_ret
   exact⟨rfl,F.trans (af.mono F.size)⟩
 ·obtain rfl:r=1:=by rw[X.out,if_neg (by simp),if_pos hcat]
  have ai:(E != 0)=true:=by simpa using hcat
  clear hcat
  go_wp2_with fail
  refine(ab _).mono ?_;rintro e w9 ⟨rfl,rfl⟩
  go_wp2_with fail
  go_ret
  exact⟨rfl,F⟩
theorem Y0a (x:Shp)(A:Option Addr)(n cap:Nat)(B:Option Addr)(m X:Nat)(b:Bkg)(v:Value)(w:World)(hc:Sl Um 2 w All A n cap x.cats)(hb:Sl ZW 4 w All B m X x.cabs)(ho:OkShp x) :
  Calls Tryz.prog 187 #[.agg #[.int .i64 x.legs,.int .i64 x.souls,.slice A n cap,.slice B m X],.agg (Qz b v)] w fun e w'=>e=.returned (.int .i64 (QTa x b))∧yw w w':=by
 obtain⟨id,U,V,O,lev,ar,I,E,upto,au,Y⟩:=b;obtain⟨r,hr⟩:∃r,r=QTa x ⟨id,U,V,O,lev,ar,I,E,upto,au,Y⟩:=⟨_,rfl⟩;rw[←hr];obtain⟨q1,aa⟩:∃q,q=Qc I 0 ((n:Int) - 1):=⟨_,rfl⟩;obtain⟨q2,ac⟩:∃q,q=decide ((⟨E,upto⟩:Span)≠⟨0,x.legs⟩):=⟨_,rfl⟩;obtain⟨q3,ab⟩:∃q,q=Qc ar (-1) ((m:Int) - 1):=⟨_,rfl⟩
 have J:=yh (show r=if q1=false then 3 else if q2=true then 4 else if q3=false then 3 else if 0≤ar∧Zp x ⟨id,U,V,O,lev,ar,I,E,upto,au,Y⟩ ar=false then 4 else 0 by
  rw[hr,aa,ac,ab,←hb.len,←hc.len];unfold QTa
  congr 1
  have an:(E≠0∨upto≠x.legs)↔decide ((⟨E,upto⟩:Span)≠⟨0,x.legs⟩)=true:=by rw[decide_eq_true_iff];simp only[ne_eq,Span.mk.injEq];omega
  simp only[an])
 have ao:=Via hb.bd;have ap:=Via hc.bd
 have ak:=fun W=>ZQ I 0 ((n:Int) - 1) W
 have al:=fun W=>ZQ ar (-1) ((m:Int) - 1) W
 have aj:=fun W=>Urb ⟨E,upto⟩ ⟨0,x.legs⟩ W
 simp only at aj;rw[←aa]at ak;rw[←ac]at aj;rw[←ab]at al;have am:=yh (fun(k:Nat) W h1 h2 h3 h4 h5=>Qqa x A n cap B m X ⟨id,U,V,O,lev,ar,I,E,upto,au,Y⟩ v k W h1 h2 ho h3 h4 h5);have HB:=yh hb;have HC:=yh hc;have ae:=yh aa;clear aa;have af:=yh ab;clear ab;clear hr hb hc ac
 go_enter Tryz.func187,Tryz.ntmps187
 go_upto_region 0 with(fail)
 go_cut [2,3,4] (fun p p2 _ wx=>∃g h,p=.pointer (some ⟨g,0,none⟩)∧p2=.pointer (some ⟨h,0,none⟩)∧Blk wx g #[.int .i64 x.legs,.int .i64 x.souls,.slice A n cap,.slice B m X] 25∧Blk wx h (Qz ⟨id,U,V,O,lev,ar,I,E,upto,au,Y⟩ v) 63∧yw w wx)
 case first=>as_aux_lemma=>
  go_wp2_with fail
  go_meet
  exact⟨_,_,rfl,rfl,QA _ _ _,QB _ _ _,Zh _ _ _⟩
 obtain⟨g,h,rfl,rfl,Z,D,F⟩:=hcut;have g0:yI wc g 0 x.legs:=Z.cell rfl;have g1:yI wc g 1 x.souls:=Z.cell rfl;have g2:yJ wc g 2 A n cap:=Z.cell rfl;have g3:yJ wc g 3 B m X:=Z.cell rfl;have k0:yI wc h 0 id:=D.cell rfl;have k1:yI wc h 1 U:=D.cell rfl;have k2:yI wc h 2 V:=D.cell rfl;have k3:yI wc h 3 O:=D.cell rfl;have k4:wc.cell? ⟨h,4,none⟩=some (.bool lev):=D.cell rfl;have k5:yI wc h 5 ar:=D.cell rfl;have k6:yI wc h 6 I:=D.cell rfl;have k7:yI wc h 7 E:=D.cell rfl;have k8:yI wc h 8 upto:=D.cell rfl;have k9:yI wc h 9 au:=D.cell rfl;have aq:wc.cell? ⟨h,10,none⟩=some (v):=D.cell rfl
 go_wp2_with fail
 refine(ak _).mono ?_;rintro e w9 ⟨rfl,rfl⟩
 cases q1
 ·obtain rfl:r=3:=by rw[J.out,if_pos rfl]
  go_wp2_with fail
  go_ret
  exact⟨rfl,F⟩
 have Q:=Qj.1 ae.out.symm
 cases q2
 rotate_left
 ·obtain rfl:r=4:=by rw[J.out,if_neg (by simp),if_pos rfl]
  clear Q
  go_wp2_with fail
  go_ret
  exact⟨rfl,F⟩
 go_wp2_with fail
 refine(al _).mono ?_;rintro e w9 ⟨rfl,rfl⟩
 cases q3
 ·obtain rfl:r=3:=by rw[J.out,if_neg (by simp),if_neg (by simp),if_pos rfl]
  clear Q
  go_wp2_with fail
  go_ret
  exact⟨rfl,F⟩
 have ai:=Qj.1 af.out.symm
 by_cases h0:0≤ar
 ·obtain⟨k,rfl⟩:∃k:Nat,ar=k:=⟨ar.toNat,by omega⟩
  have ad:=yh (am.out k wc (HC.out.bel F) (HB.out.bel F) (by omega) Q.1 (by have:=Q.2;omega));obtain⟨f,hf⟩:∃f,f=Zp x ⟨id,U,V,O,lev,k,I,E,upto,au,Y⟩ k:=⟨_,rfl⟩
  have ag:=yh (show r=if f=false then 4 else 0 by
   rw[J.out,if_neg (by simp),if_neg (by simp),if_neg (by simp),←hf]
   cases f<;>simp<;>omega)
  rw[←hf]at ad;clear J hf Q ai ae af
  go_wp2_with fail
  refine ad.out.mono ?_;rintro e wn ⟨rfl,ah⟩
  cases f
  ·obtain rfl:r=4:=ag.out
   go_wp2_with fail
   go_ret
   exact⟨rfl,F.trans (ah.mono F.size)⟩
  ·obtain rfl:r=0:=ag.out
   go_wp2_with fail
   go_ret
   exact⟨rfl,F.trans (ah.mono F.size)⟩
 ·obtain rfl:r=0:=by rw[J.out,if_neg (by simp),if_neg (by simp),if_neg (by simp),if_neg (fun h=>h0 h.1)]
  have h1:ar < 0:=by omega
  clear Q ai
  go_wp2_with fail
  go_ret
  exact⟨rfl,F⟩
theorem Ufb (x:Shp)(id J D I:Int)(lev:Bool)(O Q A upto E:Int)(F:List Entry):ofE x ⟨id,J,D,I,lev,O,Q,A,upto,E,F⟩=if (Qc J 1 2 && Qc D 1 3)=false then 7 else if (Qc id 1 999999 && Qc I 1 4)=false then 3 else if Vg ⟨A,upto⟩ x.legs≠0 then Vg ⟨A,upto⟩ x.legs
 else if kindE x ⟨id,J,D,I,lev,O,Q,A,upto,E,F⟩≠0 then kindE x ⟨id,J,D,I,lev,O,Q,A,upto,E,F⟩else if Qc E 0 9999=false then 3 else if E≠0∧D≠1 then 1 else Qe F:=rfl
theorem XE (x:Shp)(A:Option Addr)(n cap:Nat)(B:Option Addr)(m ad:Nat)(b:Bkg)(A3:Option Addr)(n3 X:Nat)(w:World)(hc:Sl Um 2 w All A n cap x.cats)(hb:Sl ZW 4 w All B m ad x.cabs)(ho:OkShp x)(hf:Sl Qw 3 w All A3 n3 X b.fol) :
  Calls Tryz.prog 104 #[.agg #[.int .i64 x.legs,.int .i64 x.souls,.slice A n cap,.slice B m ad],.agg (Qz b (.slice A3 n3 X))] w fun e w'=>e=.returned (.int .i64 (ofE x b))∧yw w w':=by
 obtain⟨id,Q,J,V,lev,Y,Z,U,upto,O,aa⟩:=b;simp only at hf;obtain⟨r,hr⟩:∃r,r=ofE x ⟨id,Q,J,V,lev,Y,Z,U,upto,O,aa⟩:=⟨_,rfl⟩;rw[←hr];rw[Ufb]at hr
 have az:=fun W=>ZQ Q 1 2 W
 have aA:=fun W=>ZQ J 1 3 W
 have ax:=fun W=>ZQ id 1 999999 W
 have ay:=fun W=>ZQ V 1 4 W
 have aC:=fun W=>ZQ O 0 9999 W
 have aB:=fun W=>VCa U upto x.legs W
 have ar:=yh (fun W h=>Vnb x A n cap B m ad ⟨id,Q,J,V,lev,Y,Z,U,upto,O,aa⟩ (.slice A3 n3 X) W h);have au:=yh (fun W h1 h2=>Y0a x A n cap B m ad ⟨id,Q,J,V,lev,Y,Z,U,upto,O,aa⟩ (.slice A3 n3 X) W h1 h2 ho);have ap:=yh (fun W h=>YC A3 n3 X aa W h);obtain⟨k1,e1⟩:∃q,q=Qc Q 1 2:=⟨_,rfl⟩;obtain⟨k2,e2⟩:∃q,q=Qc J 1 3:=⟨_,rfl⟩;obtain⟨i1,e3⟩:∃q,q=Qc id 1 999999:=⟨_,rfl⟩;obtain⟨i2,e4⟩:∃q,q=Qc V 1 4:=⟨_,rfl⟩;obtain⟨t1,e5⟩:∃q,q=Qc O 0 9999:=⟨_,rfl⟩;obtain⟨se,e6⟩:∃q,q=Vg ⟨U,upto⟩ x.legs:=⟨_,rfl⟩;obtain⟨fe,e7⟩:∃q,q=Qe aa:=⟨_,rfl⟩;rw[←e1]at az;rw[←e2]at aA;rw[←e3]at ax;rw[←e4]at ay;rw[←e5]at aC;rw[←e6]at aB;rw[←e7]at ap;rw[←e1,←e2,←e3,←e4,←e5,←e6,←e7]at hr;have HR:=yh hr;clear hr;have aE:=yh e2;clear e2;have HB:=yh hb;have HC:=yh hc;have HF:=yh hf;clear hb hc hf e1 e3 e4 e5 e6 e7
 go_enter Tryz.func104,Tryz.ntmps104
 go_upto_region 0 with(fail)
 go_cut [2,3,4] (fun p p2 _ wx=>∃g h,p=.pointer (some ⟨g,0,none⟩)∧p2=.pointer (some ⟨h,0,none⟩)∧Blk wx g #[.int .i64 x.legs,.int .i64 x.souls,.slice A n cap,.slice B m ad] 25∧Blk wx h (Qz ⟨id,Q,J,V,lev,Y,Z,U,upto,O,aa⟩ (.slice A3 n3 X)) 63∧yw w wx)
 case first=>as_aux_lemma=>
  go_wp2_with fail
  go_meet
  exact⟨_,_,rfl,rfl,QA _ _ _,QB _ _ _,Zh _ _ _⟩
 obtain⟨g,h,rfl,rfl,E,hH,D⟩:=hcut;have g0:yI wc g 0 x.legs:=E.cell rfl;have g1:yI wc g 1 x.souls:=E.cell rfl;have g2:yJ wc g 2 A n cap:=E.cell rfl;have g3:yJ wc g 3 B m ad:=E.cell rfl;have z0:yI wc h 0 id:=hH.cell rfl;have z1:yI wc h 1 Q:=hH.cell rfl;have z2:yI wc h 2 J:=hH.cell rfl;have z3:yI wc h 3 V:=hH.cell rfl;have z4:wc.cell? ⟨h,4,none⟩=some (.bool lev):=hH.cell rfl;have z5:yI wc h 5 Y:=hH.cell rfl;have z6:yI wc h 6 Z:=hH.cell rfl;have z7:yI wc h 7 U:=hH.cell rfl;have z8:yI wc h 8 upto:=hH.cell rfl;have z9:yI wc h 9 O:=hH.cell rfl;have ag:wc.cell? ⟨h,10,none⟩=some ((.slice A3 n3 X)):=hH.cell rfl
 go_wp2_with fail
 refine(az _).mono ?_;rintro e w9 ⟨rfl,rfl⟩
 cases k1
 ·obtain rfl:r=7:=HR.out.trans (if_pos (by simp))
  go_wp2_with fail
  go_ret
  exact⟨rfl,D⟩
 go_wp2_with fail
 refine(aA _).mono ?_;rintro e w9 ⟨rfl,rfl⟩
 cases k2
 ·obtain rfl:r=7:=HR.out.trans (if_pos (by simp))
  go_wp2_with fail
  go_ret
  exact⟨rfl,D⟩
 have ah:=yh (HR.out.trans (if_neg (by simp)));clear HR
 go_wp2_with fail
 refine(ax _).mono ?_;rintro e w9 ⟨rfl,rfl⟩
 cases i1
 ·obtain rfl:r=3:=ah.out.trans (if_pos (by simp))
  go_wp2_with fail
  go_ret
  exact⟨rfl,D⟩
 go_wp2_with fail
 refine(ay _).mono ?_;rintro e w9 ⟨rfl,rfl⟩
 cases i2
 ·obtain rfl:r=3:=ah.out.trans (if_pos (by simp))
  go_wp2_with fail
  go_ret
  exact⟨rfl,D⟩
 have ak:=yh (ah.out.trans (if_neg (by simp)));clear ah
 go_wp2_with fail
 refine(aB _).mono ?_;rintro e F ⟨rfl,ab⟩;replace E:=E.bel ab;replace hH:=hH.bel ab;replace D:=D.trans (ab.mono D.size);clear ab g0 g1 g2 g3 z0 z1 z2 z3 z4 z5 z6 z7 z8 z9 ag
 by_cases hse:se=0
 rotate_left
 ·obtain rfl:r=se:=by rw[ak.out,if_pos hse]
  have aw:(r != 0)=true:=by simpa using hse
  clear hse
  go_wp2_with fail
  go_ret
  exact⟨rfl,D⟩
 subst hse;have av:=yh (ak.out.trans (if_neg (by simp)));clear ak;have g0:yI F g 0 x.legs:=E.cell rfl;have g1:yI F g 1 x.souls:=E.cell rfl;have g2:yJ F g 2 A n cap:=E.cell rfl;have g3:yJ F g 3 B m ad:=E.cell rfl;have z0:yI F h 0 id:=hH.cell rfl;have z1:yI F h 1 Q:=hH.cell rfl;have z2:yI F h 2 J:=hH.cell rfl;have z3:yI F h 3 V:=hH.cell rfl;have z4:F.cell? ⟨h,4,none⟩=some (.bool lev):=hH.cell rfl;have z5:yI F h 5 Y:=hH.cell rfl;have z6:yI F h 6 Z:=hH.cell rfl;have z7:yI F h 7 U:=hH.cell rfl;have z8:yI F h 8 upto:=hH.cell rfl;have z9:yI F h 9 O:=hH.cell rfl;have ag:F.cell? ⟨h,10,none⟩=some ((.slice A3 n3 X)):=hH.cell rfl;have ac:=yh (ar.out F (HB.out.bel D))
 go_wp2_with fail
 refine ac.out.mono ?_;rintro e I ⟨rfl,ab⟩;replace E:=E.bel ab;replace hH:=hH.bel ab;replace D:=D.trans (ab.mono D.size);clear ab g0 g1 g2 g3 z0 z1 z2 z3 z4 z5 z6 z7 z8 z9 ag ac ar;have g0:yI I g 0 x.legs:=E.cell rfl;have g1:yI I g 1 x.souls:=E.cell rfl;have g2:yJ I g 2 A n cap:=E.cell rfl;have g3:yJ I g 3 B m ad:=E.cell rfl;have z0:yI I h 0 id:=hH.cell rfl;have z1:yI I h 1 Q:=hH.cell rfl;have z2:yI I h 2 J:=hH.cell rfl;have z3:yI I h 3 V:=hH.cell rfl;have z4:I.cell? ⟨h,4,none⟩=some (.bool lev):=hH.cell rfl;have z5:yI I h 5 Y:=hH.cell rfl;have z6:yI I h 6 Z:=hH.cell rfl;have z7:yI I h 7 U:=hH.cell rfl;have z8:yI I h 8 upto:=hH.cell rfl;have z9:yI I h 9 O:=hH.cell rfl;have ag:I.cell? ⟨h,10,none⟩=some ((.slice A3 n3 X)):=hH.cell rfl;obtain⟨ke,af⟩:∃q,q=kindE x ⟨id,Q,J,V,lev,Y,Z,U,upto,O,aa⟩:=⟨_,rfl⟩;have ai:=yh (av.out);rw[←af]at ai;obtain⟨kn,ao⟩:∃q,q=Y9 x ⟨id,Q,J,V,lev,Y,Z,U,upto,O,aa⟩:=⟨_,rfl⟩;rw[←ao];have aj:=yh af;clear af;have aq:=yh ao;clear ao;clear av
 go_upto_if 42 with(fail)
 obtain⟨w4,aD⟩:∃W,W=I:=⟨_,rfl⟩;subst aD
 go_cut [6] (fun p wx=>p=.int .i64 ke∧yw w4 wx)
 case first=>as_aux_lemma=>
  by_cases hkd:Q=2
  ·subst hkd
   have af:ke=QTa x ⟨id,2,J,V,lev,Y,Z,U,upto,O,aa⟩:=aj.out;have ac:=yh (au.out _ (HC.out.bel D) (HB.out.bel D));rw[←af]at ac;clear af
   go_wp2_with fail
   refine ac.out.mono ?_;rintro e w5 ⟨rfl,ae⟩
   go_wp2_with fail
   go_meet
   exact⟨rfl,ae⟩
  ·obtain rfl:ke=kn:=by rw[aj.out,aq.out];unfold kindE;rw[if_neg hkd]
   have aw:(Q == 2)=false:=by simpa using hkd
   clear hkd
   go_wp2_with fail
   go_meet
   exact⟨rfl,Below.refl _ _⟩
 obtain⟨rfl,ae⟩:=hcut;replace E:=E.bel ae;replace hH:=hH.bel ae;replace D:=D.trans (ae.mono D.size);clear ae g0 g1 g2 g3 z0 z1 z2 z3 z4 z5 z6 z7 z8 z9 ag aj aq au
 by_cases hk0:ke=0
 rotate_left
 ·obtain rfl:r=ke:=by rw[ai.out,if_pos hk0]
  have aw:(r != 0)=true:=by simpa using hk0
  clear hk0
  go_wp2_with fail
  go_ret
  exact⟨rfl,D⟩
 subst hk0;have al:=yh (ai.out.trans (if_neg (by simp)));clear ai;have z2:yI wc h 2 J:=hH.cell rfl;have z9:yI wc h 9 O:=hH.cell rfl;have ag:yJ wc h 10 A3 n3 X:=hH.cell rfl
 go_wp2_with fail
 refine(aC _).mono ?_;rintro e w9 ⟨rfl,rfl⟩
 cases t1
 ·obtain rfl:r=3:=al.out.trans (if_pos (by simp))
  go_wp2_with fail
  go_ret
  exact⟨rfl,D⟩
 have am:=yh (al.out.trans (if_neg (by simp)));clear al;have ac:=yh (ap.out _ (HF.out.bel D))
 by_cases h1:O=0
 ·obtain rfl:r=fe:=by rw[am.out,if_neg (fun h=>h.1 h1)]
  subst h1
  go_wp2_with fail
  refine ac.out.mono ?_;rintro e w6 ⟨rfl,an⟩
  go_wp2_with fail
  go_ret
  exact⟨rfl,D.trans (an.mono D.size)⟩
 have aF:(O != 0)=true:=by simpa using h1
 by_cases h2:J=1
 ·obtain rfl:r=fe:=by rw[am.out,if_neg (fun h=>h.2 h2)]
  subst h2;clear h1
  go_wp2_with fail
  refine ac.out.mono ?_;rintro e w6 ⟨rfl,an⟩
  go_wp2_with fail
  go_ret
  exact⟨rfl,D.trans (an.mono D.size)⟩
 ·obtain rfl:r=1:=by rw[am.out,if_pos ⟨h1,h2⟩]
  have aG:(J != 1)=true:=by simpa using h2
  clear h1 h2
  go_wp2_with fail
  go_ret
  exact⟨rfl,D⟩
theorem QYa (x:Shp)(A:Option Addr)(n cap:Nat)(B:Option Addr)(m ab:Nat)(b:Bkg)(A3:Option Addr)(n3 c3:Nat)(w:World)(hc:Sl Um 2 w All A n cap x.cats)(hb:Sl ZW 4 w All B m ab x.cabs)(ho:OkShp x)(hf:Sl Qw 3 w All A3 n3 c3 b.fol) :
  Calls Tryz.prog 71 #[.agg #[.int .i64 x.legs,.int .i64 x.souls,.slice A n cap,.slice B m ab],.agg (Qz b (.slice A3 n3 c3))] w fun e w'=>e=.returned (.int .i64 (ofE x b))∧yw w w':=by
 obtain⟨id,aa,F,U,lev,E,O,Q,upto,I,X⟩:=b;simp only at hf;obtain⟨r,hr⟩:∃r,r=ofE x ⟨id,aa,F,U,lev,E,O,Q,upto,I,X⟩:=⟨_,rfl⟩;rw[←hr];rw[Ufb]at hr
 have aB:=fun W=>Qk aa 1 2 W
 have aC:=fun W=>Qk F 1 3 W
 have az:=fun W=>Qk id 1 999999 W
 have aA:=fun W=>Qk U 1 4 W
 have aF:=fun W=>Qk I 0 9999 W
 have aE:=fun W=>Vka Q upto x.legs W
 have ax:=yh (fun(k:Nat) W Y h2 h3 h4 h5=>X4 x A n cap B m ab ⟨id,aa,F,U,lev,E,O,Q,upto,I,X⟩ (.slice A3 n3 c3) k W Y h2 ho h3 h4 h5);have ay:=yh (fun W h=>Z7a A3 n3 c3 X W h);obtain⟨k1,e1⟩:∃q,q=Qc aa 1 2:=⟨_,rfl⟩;obtain⟨k2,e2⟩:∃q,q=Qc F 1 3:=⟨_,rfl⟩;obtain⟨i1,e3⟩:∃q,q=Qc id 1 999999:=⟨_,rfl⟩;obtain⟨i2,e4⟩:∃q,q=Qc U 1 4:=⟨_,rfl⟩;obtain⟨t1,e5⟩:∃q,q=Qc I 0 9999:=⟨_,rfl⟩;obtain⟨se,e6⟩:∃q,q=Vg ⟨Q,upto⟩ x.legs:=⟨_,rfl⟩;obtain⟨fe,e7⟩:∃q,q=Qe X:=⟨_,rfl⟩;obtain⟨ke,e8⟩:∃q,q=kindE x ⟨id,aa,F,U,lev,E,O,Q,upto,I,X⟩:=⟨_,rfl⟩;rw[←e1]at aB;rw[←e2]at aC;rw[←e3]at az;rw[←e4]at aA;rw[←e5]at aF;rw[←e6]at aE;rw[←e7]at ay;rw[←e1,←e2,←e3,←e4,←e5,←e6,←e7,←e8]at hr;have HR:=yh hr;clear hr;have aG:=yh e1;have ad:=yh e8;clear e8;have HB:=yh hb;have HC:=yh hc;have HF:=yh hf;have aO:=hb.bd;have aP:=hc.bd;clear hb hc hf e1 e2 e3 e4 e5 e6 e7
 go_enter Tryz.func71,Tryz.ntmps71
 go_upto_region 0 with(fail)
 go_cut [2,3,4] (fun p p2 _ wx=>∃g h,p=.pointer (some ⟨g,0,none⟩)∧p2=.pointer (some ⟨h,0,none⟩)∧Blk wx g #[.int .i64 x.legs,.int .i64 x.souls,.slice A n cap,.slice B m ab] 25∧Blk wx h (Qz ⟨id,aa,F,U,lev,E,O,Q,upto,I,X⟩ (.slice A3 n3 c3)) 63∧yw w wx)
 case first=>as_aux_lemma=>
  go_wp2_with fail
  go_meet
  exact⟨_,_,rfl,rfl,QA _ _ _,QB _ _ _,Zh _ _ _⟩
 obtain⟨g,h,rfl,rfl,V,D,aR⟩:=hcut;have g0:yI wc g 0 x.legs:=V.cell rfl;have g1:yI wc g 1 x.souls:=V.cell rfl;have g2:yJ wc g 2 A n cap:=V.cell rfl;have g3:yJ wc g 3 B m ab:=V.cell rfl;have z0:yI wc h 0 id:=D.cell rfl;have z1:yI wc h 1 aa:=D.cell rfl;have z2:yI wc h 2 F:=D.cell rfl;have z3:yI wc h 3 U:=D.cell rfl;have z4:wc.cell? ⟨h,4,none⟩=some (.bool lev):=D.cell rfl;have z5:yI wc h 5 E:=D.cell rfl;have z6:yI wc h 6 O:=D.cell rfl;have z7:yI wc h 7 Q:=D.cell rfl;have z8:yI wc h 8 upto:=D.cell rfl;have z9:yI wc h 9 I:=D.cell rfl;have al:wc.cell? ⟨h,10,none⟩=some ((.slice A3 n3 c3)):=D.cell rfl
 go_wp2_with fail
 refine(aB _).mono ?_;rintro e w9 ⟨rfl,rfl⟩
 cases k1
 ·obtain rfl:r=7:=HR.out.trans (if_pos (by simp))
  go_wp2_with fail
  go_ret
  exact⟨rfl,aR⟩
 go_wp2_with fail
 refine(aC _).mono ?_;rintro e w9 ⟨rfl,rfl⟩
 cases k2
 ·obtain rfl:r=7:=HR.out.trans (if_pos (by simp))
  go_wp2_with fail
  go_ret
  exact⟨rfl,aR⟩
 have ai:=yh (HR.out.trans (if_neg (by simp)));clear HR
 go_wp2_with fail
 refine(az _).mono ?_;rintro e w9 ⟨rfl,rfl⟩
 cases i1
 ·obtain rfl:r=3:=ai.out.trans (if_pos (by simp))
  go_wp2_with fail
  go_ret
  exact⟨rfl,aR⟩
 go_wp2_with fail
 refine(aA _).mono ?_;rintro e w9 ⟨rfl,rfl⟩
 cases i2
 ·obtain rfl:r=3:=ai.out.trans (if_pos (by simp))
  go_wp2_with fail
  go_ret
  exact⟨rfl,aR⟩
 have an:=yh (ai.out.trans (if_neg (by simp)));clear ai
 go_wp2_with fail
 refine(aE _).mono ?_;rintro e J ⟨rfl,aj⟩;replace V:=V.bel aj;replace D:=D.bel aj;replace aR:=aR.trans (aj.mono aR.size);clear aj g0 g1 g2 g3 z0 z1 z2 z3 z4 z5 z6 z7 z8 z9 al
 by_cases hse:se=0
 rotate_left
 ·obtain rfl:r=se:=by rw[an.out,if_pos hse]
  have au:(r != 0)=true:=by simpa using hse
  clear hse
  go_wp2_with fail
  go_ret
  exact⟨rfl,aR⟩
 subst hse;have ao:=yh (an.out.trans (if_neg (by simp)));clear an;have g0:yI J g 0 x.legs:=V.cell rfl;have g1:yI J g 1 x.souls:=V.cell rfl;have g2:yJ J g 2 A n cap:=V.cell rfl;have g3:yJ J g 3 B m ab:=V.cell rfl;have z0:yI J h 0 id:=D.cell rfl;have z1:yI J h 1 aa:=D.cell rfl;have z2:yI J h 2 F:=D.cell rfl;have z3:yI J h 3 U:=D.cell rfl;have z4:J.cell? ⟨h,4,none⟩=some (.bool lev):=D.cell rfl;have z5:yI J h 5 E:=D.cell rfl;have z6:yI J h 6 O:=D.cell rfl;have z7:yI J h 7 Q:=D.cell rfl;have z8:yI J h 8 upto:=D.cell rfl;have z9:yI J h 9 I:=D.cell rfl;have al:J.cell? ⟨h,10,none⟩=some ((.slice A3 n3 c3)):=D.cell rfl
 go_upto_if 40 with(fail)
 obtain⟨w4,aJ⟩:∃W,W=J:=⟨_,rfl⟩;subst aJ
 go_cut [] (fun wx=>ke=0∧yw w4 wx)
 case first=>as_aux_lemma=>
  have fin:∀q,ke=q→q≠0→r=q:=fun q Y h2=>by rw[ao.out,Y,if_pos h2]
  have aS:=yh fin;clear fin;have aD:=Qj.1 aG.out.symm
  by_cases hkd:aa=1
  ·subst hkd
   have Z:=yh (show ke=if Qc E 0 ((m:Int) - 1)=false then 3 else if O≠0 then 1 else if XZ (Qxa x E) ⟨id,1,F,U,lev,E,O,Q,upto,I,X⟩=false then 4 else 0 by rw[ad.out,←HB.out.len];rfl);clear ad aD
   by_cases hc0:E < 0
   ·obtain rfl:r=3:=aS.out 3 (by rw[Z.out,if_pos (QH (.inl hc0))]) (by decide)
    go_wp2_with fail
    go_ret
    exact⟨rfl,aR⟩
   by_cases hc1:(m:Int)≤E
   ·obtain rfl:r=3:=aS.out 3 (by rw[Z.out,if_pos (QH (.inr (by omega)))]) (by decide)
    go_wp2_with fail
    go_ret
    exact⟨rfl,aR⟩
   obtain⟨k,rfl⟩:∃k:Nat,E=k:=⟨E.toNat,by omega⟩
   have hk:k < m:=by omega
   by_cases hcat:O=0
   ·subst hcat
    obtain⟨b,aQ,nm,ct,ar,lv,hB,hx,e0,e1,e2,e3⟩:=(HB.out.bel aR).cab hk;subst hB;have hf:Qxa x k=⟨nm,ct,ar,lv⟩:=hx;have HD:=yh (fun W=>Zxa ⟨nm,ct,ar,lv⟩ ⟨id,1,F,U,lev,k,0,Q,upto,I,X⟩ (.slice A3 n3 c3) W);obtain⟨f,aw⟩:∃f,f=XZ ⟨nm,ct,ar,lv⟩ ⟨id,1,F,U,lev,k,0,Q,upto,I,X⟩:=⟨_,rfl⟩;have ae:=yh (show ke=if f=false then 4 else 0 by rw[Z.out,if_neg (by rw[QX (by omega) (by omega)];simp),if_neg (by simp),hf,aw]);rw[←aw]at HD;have aM:(0:Int)≤(k:Int):=Int.natCast_nonneg _
    have aN:(k:Int) < (m:Int):=by omega
    clear hx hf aw hc0 hc1 Z
    go_upto_region 14 with(fail)
    go_cut [61] (fun t wx=>t=.bool (!f)∧yw w4 wx)
    case first=>as_aux_lemma=>
     go_region_with (go_at_call 146;refine(HD.out _).mono ?_;rintro e wn ⟨rfl,aH⟩)
     all_goals
      go_wp2_with fail
      go_meet
      exact⟨rfl,(Below.refl _ _).drew.trans aH⟩
    obtain⟨rfl,af⟩:=hcut
    cases f
    ·obtain rfl:r=4:=aS.out 4 ae.out (by decide)
     go_wp2_with fail
     go_ret
     exact⟨rfl,aR.trans (af.mono aR.size)⟩
    ·skip
     go_wp2_with fail
     go_meet
     exact⟨ae.out,af⟩
   ·obtain rfl:r=1:=aS.out 1 (by rw[Z.out,if_neg (by rw[QX (by omega) (by omega)];simp),if_pos hcat]) (by decide)
    have au:(O != 0)=true:=by simpa using hcat
    clear hcat hc0 hc1
    go_wp2_with fail
    go_ret
    exact⟨rfl,aR⟩
  ·have aI:aa=2:=by omega
   subst aI
   have Z:=yh (show ke=if Qc O 0 ((n:Int) - 1)=false then 3 else if Q≠0∨upto≠x.legs then 4 else if Qc E (-1) ((m:Int) - 1)=false then 3 else if 0≤E∧Zp x ⟨id,2,F,U,lev,E,O,Q,upto,I,X⟩ E=false then 4 else 0 by
    rw[ad.out,←HB.out.len,←HC.out.len];rfl)
   clear ad aD hkd
   by_cases hc0:O < 0
   ·obtain rfl:r=3:=aS.out 3 (by rw[Z.out,if_pos (QH (.inl hc0))]) (by decide)
    go_wp2_with fail
    go_ret
    exact⟨rfl,aR⟩
   by_cases hc1:(n:Int)≤O
   ·obtain rfl:r=3:=aS.out 3 (by rw[Z.out,if_pos (QH (.inr (by omega)))]) (by decide)
    go_wp2_with fail
    go_ret
    exact⟨rfl,aR⟩
   have ag:=yh (Z.out.trans (if_neg (by rw[QX (by omega) (by omega)];simp)));clear Z
   by_cases hfr:Q=0
   rotate_left
   ·obtain rfl:r=4:=aS.out 4 (by rw[ag.out,if_pos (.inl hfr)]) (by decide)
    have au:(Q != 0)=true:=by simpa using hfr
    clear hfr
    go_wp2_with fail
    go_ret
    exact⟨rfl,aR⟩
   subst hfr
   by_cases hup:upto=x.legs
   rotate_left
   ·obtain rfl:r=4:=aS.out 4 (by rw[ag.out,if_pos (.inr hup)]) (by decide)
    have au:(upto != x.legs)=true:=by simpa using hup
    clear hup
    go_wp2_with fail
    go_ret
    exact⟨rfl,aR⟩
   subst hup;have ah:=yh (ag.out.trans (if_neg (by simp)));clear ag
   by_cases hm0:E < -1
   ·obtain rfl:r=3:=aS.out 3 (by rw[ah.out,if_pos (QH (.inl hm0))]) (by decide)
    go_wp2_with fail
    go_ret
    exact⟨rfl,aR⟩
   by_cases hm1:(m:Int)≤E
   ·obtain rfl:r=3:=aS.out 3 (by rw[ah.out,if_pos (QH (.inr (by omega)))]) (by decide)
    go_wp2_with fail
    go_ret
    exact⟨rfl,aR⟩
   have am:=yh (ah.out.trans (if_neg (by rw[QX (by omega) (by omega)];simp)));clear ah
   by_cases h0:0≤E
   ·obtain⟨k,rfl⟩:∃k:Nat,E=k:=⟨E.toNat,by omega⟩
    have ac:=yh (ax.out k w4 (HC.out.bel aR) (HB.out.bel aR) (by omega) (by omega) (by omega));obtain⟨f,hf⟩:∃f,f=Zp x ⟨id,2,F,U,lev,k,O,0,x.legs,I,X⟩ k:=⟨_,rfl⟩
    have ae:=yh (show ke=if f=false then 4 else 0 by
     rw[am.out,←hf]
     cases f<;>simp<;>omega)
    rw[←hf]at ac;clear hf am
    go_wp2_with fail
    refine ac.out.mono ?_;rintro e wn ⟨rfl,af⟩
    cases f
    ·obtain rfl:r=4:=aS.out 4 ae.out (by decide)
     go_wp2_with fail
     go_ret
     exact⟨rfl,aR.trans (af.mono aR.size)⟩
    ·skip
     go_wp2_with fail
     go_meet
     exact⟨ae.out,af⟩
   ·have Y:E < 0:=by omega
    go_wp2_with fail
    go_meet
    exact⟨by rw[am.out,if_neg (fun h=>by have:=h.1;omega)],Below.refl _ _⟩
 obtain⟨rfl,ak⟩:=hcut;replace V:=V.bel ak;replace D:=D.bel ak;replace aR:=aR.trans (ak.mono aR.size);clear ak g0 g1 g2 g3 z0 z1 z2 z3 z4 z5 z6 z7 z8 z9 al ad ax;have ap:=yh (ao.out.trans (if_neg (by simp)));clear ao;have z2:yI wc h 2 F:=D.cell rfl;have z8:yI wc h 8 upto:=D.cell rfl;have z9:yI wc h 9 I:=D.cell rfl;have al:yJ wc h 10 A3 n3 c3:=D.cell rfl
 go_wp2_with fail
 refine(aF _).mono ?_;rintro e w9 ⟨rfl,rfl⟩
 cases t1
 ·obtain rfl:r=3:=ap.out.trans (if_pos (by simp))
  go_wp2_with fail
  go_ret
  exact⟨rfl,aR⟩
 have aq:=yh (ap.out.trans (if_neg (by simp)));clear ap;have ac:=yh (ay.out _ (HF.out.bel aR))
 by_cases Y:I=0
 ·obtain rfl:r=fe:=by rw[aq.out,if_neg (fun h=>h.1 Y)]
  subst Y
  go_wp2_with fail
  refine ac.out.mono ?_;rintro e w6 ⟨rfl,av⟩
  go_wp2_with fail
  go_ret
  exact⟨rfl,aR.trans (av.mono aR.size)⟩
 have aK:(I != 0)=true:=by simpa using Y
 by_cases h2:F=1
 ·obtain rfl:r=fe:=by rw[aq.out,if_neg (fun h=>h.2 h2)]
  subst h2;clear Y
  go_wp2_with fail
  refine ac.out.mono ?_;rintro e w6 ⟨rfl,av⟩
  go_wp2_with fail
  go_ret
  exact⟨rfl,aR.trans (av.mono aR.size)⟩
 ·obtain rfl:r=1:=by rw[aq.out,if_pos ⟨Y,h2⟩]
  have aL:(F != 1)=true:=by simpa using h2
  clear Y h2
  go_wp2_with fail
  go_ret
  exact⟨rfl,aR⟩
theorem Sl.bkg {w:World}{S:Nat→Prop}{A:Option Addr}{n cap:Nat}{l:List Bkg}(h:Sl Vb 11 w S A n cap l){k:Nat}(V:k < n):∃(b F:Nat) (x:Bkg) (Y:Option Addr) (E D:Nat),A=some ⟨b,F,none⟩∧l[k]? = some x∧Sl Qw 3 w S Y E D x.fol∧BkIn x∧
  ∀j u,(Qz x (.slice Y E D)).toList[j]? = some u→w.cell? ⟨b,F+k*11+j,none⟩=some u:=by
 have W:=h.len;obtain⟨b,F,U,I,_,O,X,Q⟩:=h.rd k (l[k]'(by omega)) (List.getElem?_eq_getElem (by omega));obtain⟨Y,E,D,rfl,hF,J⟩:=O;exact⟨b,F,_,Y,E,D,I,List.getElem?_eq_getElem (by omega),hF,J,Q⟩
end Go.Proofs.YtjdcokpmgionjaaGreat
