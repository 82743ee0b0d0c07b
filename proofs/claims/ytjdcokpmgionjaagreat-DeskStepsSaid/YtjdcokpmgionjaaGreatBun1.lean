/-
  Laws and contracts.
-/
import Derived.Test.YtjdcokpmgionjaaGreatBun0
import Derived.Lib.ConvBytes
import Derived.Lib.SlBytesRow
import Derived.Lib.BufferRead
import Derived.Deep.RegionHeld3
import Derived.Deep.CutBlock
set_option linter.unusedSimpArgs false
set_option linter.unusedVariables false
set_option maxRecDepth 100000
set_option maxHeartbeats 20000000
namespace Go.Proofs.YtjdcokpmgionjaaGreat
open Proofs.Tryz Go.RowKit Go.Shelf
variable {P:Program} {ops:Array Oper} {Q:Exit→Act→World→Prop} {md:Region.Mode} {S:World→Prop}
theorem U7c (i:Nat){o:Oper}{E:Nat}{D:Array Bool}{a:Act}{w:World}(I:Region.ready md ops D=[i])(F:ops[i]? = some o)
  (h:∀A:Act→World→Prop,Shut (∀a w,S w→(S w→wpAnyH P md ops Q S E (D.setIfInBounds i true) a w)→A a w)→if Region.wanted o (yielded ops a.tmps)=true then Oper.wp P o a w A Q else A (a.put o.dst undef) w):wpAnyH P md ops Q S (E+1) D a w:=
 wpAnyH_ready I (by simp) (AllReadyH.cons F h AllReadyH.nil)
theorem U8c (i j:Nat){o p:Oper}{E:Nat}{D:Array Bool}{a:Act}{w:World}(O:Region.ready md ops D=[i,j])(I:ops[i]? = some o)(J:ops[j]? = some p)
  (h:∀A:Act→World→Prop,Shut (∀a w,S w→(S w→wpAnyH P md ops Q S E (D.setIfInBounds i true) a w)→A a w)→if Region.wanted o (yielded ops a.tmps)=true then Oper.wp P o a w A Q else A (a.put o.dst undef) w)
  (F:∀A:Act→World→Prop,Shut (∀a w,S w→(S w→wpAnyH P md ops Q S E (D.setIfInBounds j true) a w)→A a w)→if Region.wanted p (yielded ops a.tmps)=true then Oper.wp P p a w A Q else A (a.put p.dst undef) w):wpAnyH P md ops Q S (E+1) D a w:=
 wpAnyH_ready O (by simp) (AllReadyH.cons I h (AllReadyH.cons J F AllReadyH.nil))
theorem U9c (i j k:Nat){o p q:Oper}{E:Nat}{D:Array Bool}{a:Act}{w:World}(V:Region.ready md ops D=[i,j,k])(J:ops[i]? = some o)(O:ops[j]? = some p)(U:ops[k]? = some q)
  (h:∀A:Act→World→Prop,Shut (∀a w,S w→(S w→wpAnyH P md ops Q S E (D.setIfInBounds i true) a w)→A a w)→if Region.wanted o (yielded ops a.tmps)=true then Oper.wp P o a w A Q else A (a.put o.dst undef) w)
  (F:∀A:Act→World→Prop,Shut (∀a w,S w→(S w→wpAnyH P md ops Q S E (D.setIfInBounds j true) a w)→A a w)→if Region.wanted p (yielded ops a.tmps)=true then Oper.wp P p a w A Q else A (a.put p.dst undef) w)
  (I:∀A:Act→World→Prop,Shut (∀a w,S w→(S w→wpAnyH P md ops Q S E (D.setIfInBounds k true) a w)→A a w)→if Region.wanted q (yielded ops a.tmps)=true then Oper.wp P q a w A Q else A (a.put q.dst undef) w):wpAnyH P md ops Q S (E+1) D a w:=
 wpAnyH_ready V (by simp) (AllReadyH.cons J h (AllReadyH.cons O F (AllReadyH.cons U I AllReadyH.nil)))
end Go.Proofs.YtjdcokpmgionjaaGreat
namespace Go.Proofs.YtjdcokpmgionjaaGreat
open Proofs.Tryz Go.RowKit Go.Shelf
structure Ask where
 number:Int
 kind:Int
 id:Int
 guests:Int
 level:Bool
 cabin:Int
 category:Int
 frm:Int
 upto:Int
 til:Int
 amount:Int
 deriving DecidableEq,Inhabited
def QY (x:Ask):Array Value:=#[.int .i64 x.number,.int .i64 x.kind,.int .i64 x.id,.int .i64 x.guests,.bool x.level,.int .i64 x.cabin,.int .i64 x.category,.int .i64 x.frm,.int .i64 x.upto,.int .i64 x.til,.int .i64 x.amount]
def YB (x:Ask):Prop:=InI x.number∧InI x.kind∧InI x.id∧InI x.guests∧InI x.cabin∧InI x.category∧InI x.frm∧InI x.upto∧InI x.til∧InI x.amount
def Uxc:Cod Ask:=fun _ _ x cs=>cs=(QY x).toList∧YB x
structure Part where
 bytes:Int
 most:Int
 ix:Nat
 deriving DecidableEq,Inhabited
def Q1 (ba bl:Nat) (i:Nat):Addr:=if i=4 then ⟨bl,0,none⟩else ⟨ba,i,none⟩
def Vha (ba bl:Nat):Cod Part:=fun _ _ x cs=>cs=[.int .i64 x.bytes,.int .i64 x.most,.pointer (some (Q1 ba bl x.ix))]∧True
theorem Zmb (A D:Nat):XM (Vha A D):=fun _ _ _ _ _ _ h=>h
theorem Xt (A D:Nat):Good (Vha A D):=.of_flat (Zmb A D) fun h u E=>by obtain⟨rfl,_⟩:=h;simp at E;rcases E with rfl|rfl|rfl<;>rfl
instance partK (ba bl:Nat):CodK (Vha ba bl) 3:=⟨Xt ba bl,by omega⟩
def pId:Part:=⟨3,999999,2⟩
def VC:Part:=⟨1,255,3⟩
def VN:Part:=⟨1,1,4⟩
def XV:Part:=⟨1,255,5⟩
def Vu:Part:=⟨1,255,6⟩
def Z9a:Part:=⟨1,255,7⟩
def pTo:Part:=⟨1,255,8⟩
def ZJa:Part:=⟨2,65535,9⟩
def Yv:Part:=⟨4,100000000,10⟩
def Qr (k:Int):List Part:=
 if k=1 then [pId,VC,XV,Z9a,pTo,VN,ZJa]else if k=2 then [pId,VC,Vu,VN,ZJa]else if k=3∨k=5 then [pId]else
 if k=4 then [pId,Yv]else if k=6 then [pId,XV]else if k=7 then [ZJa]else []
theorem Sl.parts {w:World}{S:Nat→Prop}{E F b:Nat}{t:TypeId}(l:List Part)(cs:Array Value)(h:Blk w b cs t)(U:l.length≤10)(I:S b)(J:cs.toList=l.flatMap fun x=>[.int .i64 x.bytes,.int .i64 x.most,.pointer (some (Q1 E F x.ix))]) :
  Sl (Vha E F) 3 w S (some ⟨b,0,none⟩) l.length l.length l:=
 Sl.ofBlk h l (by omega) I fun i x A=>⟨_,⟨rfl,trivial⟩,rfl,fun j u D=>by
  have O:∀(l:List Part) (i:Nat) (x:Part),l[i]? = some x→∀j u,[Value.int .i64 x.bytes,.int .i64 x.most,.pointer (some (Q1 E F x.ix))][j]? = some u→
    (l.flatMap fun x=>[Value.int .i64 x.bytes,.int .i64 x.most,.pointer (some (Q1 E F x.ix))])[i*3+j]? = some u:=by
   intro l
   induction l with
   | nil=>intro i x A;simp at A
   | cons y l ih=>
    intro i x A j u D;rw[List.flatMap_cons];rcases i with _|i
    ·simp at A;subst A
     have Q:j<3:=by have:=(J0.1 D).1;simpa using this
     rw[List.getElem?_append_left (by simp;omega)]
     simpa using D
    ·rw[List.getElem?_append_right (by simp;omega)];simp only[List.length_cons,List.length_nil];rw[show(i+1)*3+j-(0+1+1+1)=i*3+j by omega];exact ih i x (by simpa using A) j u D
  have:=O l i x A j u D;rw[←J]at this
  simpa using this⟩
theorem kinds (k:Int):k=1∨k=2∨k=3∨k=4∨k=5∨k=6∨k=7∨k=8∨(k<1∨8<k):=by omega
theorem Qba (ba bl:Nat)(k:Int)(w:World)(J:yI w ba 1 k) :
  Calls prog 138 #[.pointer (some ⟨ba,0,none⟩),.pointer (some ⟨bl,0,none⟩)] w fun e w'=>∃A n cap,e=.returned (.tuple #[.slice A n cap,.bool (Qc k 1 8)])∧Sl (Vha ba bl) 3 w' (fun b=>w.heap.size≤b) A n cap (Qr k)∧yw w w':=by
 have ab:=ZT J;go_enter func138,ntmps138;go_upto_region 5 with(fail);go_cut [10,11] (fun x y wx=>∃Y Z,yp x Y∧yp y Z∧Blk wx Y #[.int .i64 1,.int .i64 255,.pointer (some ⟨ba,7,none⟩)] 194∧Blk wx Z #[.int .i64 1,.int .i64 255,.pointer (some ⟨ba,8,none⟩)] 194∧Below ((((w.alloc (.cells #[.int .i64 3,.int .i64 999999,.pointer (some ⟨ba,2,none⟩)] 194)).alloc (.cells #[.int .i64 1,.int .i64 255,.pointer (some ⟨ba,3,none⟩)] 194)).alloc (.cells #[.int .i64 1,.int .i64 255,.pointer (some ⟨ba,5,none⟩)] 194)).alloc (.cells #[.int .i64 1,.int .i64 255,.pointer (some ⟨ba,6,none⟩)] 194)).heap.size ((((w.alloc (.cells #[.int .i64 3,.int .i64 999999,.pointer (some ⟨ba,2,none⟩)] 194)).alloc (.cells #[.int .i64 1,.int .i64 255,.pointer (some ⟨ba,3,none⟩)] 194)).alloc (.cells #[.int .i64 1,.int .i64 255,.pointer (some ⟨ba,5,none⟩)] 194)).alloc (.cells #[.int .i64 1,.int .i64 255,.pointer (some ⟨ba,6,none⟩)] 194)) wx)
 case first=>as_aux_lemma=>
  go_region
  ·go_wp2_with fail;go_meet;exact⟨_,_,rfl,rfl,(Blk.new4 w _ _ _ _ _ _).old _,Blk.new5 w _ _ _ _ _ _ _,(Zo _ _ _).drew⟩
  ·go_wp2_with fail;go_meet;exact⟨_,_,rfl,rfl,Blk.new5 w _ _ _ _ _ _ _,(Blk.new4 w _ _ _ _ _ _).old _,(Zo _ _ _).drew⟩
 obtain⟨Y,Z,rfl,rfl,O,Q,I⟩:=hcut;have U:Blk wc w.heap.size #[.int .i64 3,.int .i64 999999,.pointer (some ⟨ba,2,none⟩)] 194:=Blk.bel (w:=((((w.alloc (.cells #[.int .i64 3,.int .i64 999999,.pointer (some ⟨ba,2,none⟩)] 194)).alloc (.cells #[.int .i64 1,.int .i64 255,.pointer (some ⟨ba,3,none⟩)] 194)).alloc (.cells #[.int .i64 1,.int .i64 255,.pointer (some ⟨ba,5,none⟩)] 194)).alloc (.cells #[.int .i64 1,.int .i64 255,.pointer (some ⟨ba,6,none⟩)] 194))) ((((Blk.new w _ _).old _).old _).old _) I;have V:Blk wc (w.heap.size+1) #[.int .i64 1,.int .i64 255,.pointer (some ⟨ba,3,none⟩)] 194:=Blk.bel (w:=((((w.alloc (.cells #[.int .i64 3,.int .i64 999999,.pointer (some ⟨ba,2,none⟩)] 194)).alloc (.cells #[.int .i64 1,.int .i64 255,.pointer (some ⟨ba,3,none⟩)] 194)).alloc (.cells #[.int .i64 1,.int .i64 255,.pointer (some ⟨ba,5,none⟩)] 194)).alloc (.cells #[.int .i64 1,.int .i64 255,.pointer (some ⟨ba,6,none⟩)] 194))) (((Blk.new1 w _ _ _).old _).old _) I;have W:Blk wc (w.heap.size+1+1) #[.int .i64 1,.int .i64 255,.pointer (some ⟨ba,5,none⟩)] 194:=Blk.bel (w:=((((w.alloc (.cells #[.int .i64 3,.int .i64 999999,.pointer (some ⟨ba,2,none⟩)] 194)).alloc (.cells #[.int .i64 1,.int .i64 255,.pointer (some ⟨ba,3,none⟩)] 194)).alloc (.cells #[.int .i64 1,.int .i64 255,.pointer (some ⟨ba,5,none⟩)] 194)).alloc (.cells #[.int .i64 1,.int .i64 255,.pointer (some ⟨ba,6,none⟩)] 194))) ((Blk.new2 w _ _ _ _).old _) I;have X:Blk wc (w.heap.size+1+1+1) #[.int .i64 1,.int .i64 255,.pointer (some ⟨ba,6,none⟩)] 194:=Blk.bel (w:=((((w.alloc (.cells #[.int .i64 3,.int .i64 999999,.pointer (some ⟨ba,2,none⟩)] 194)).alloc (.cells #[.int .i64 1,.int .i64 255,.pointer (some ⟨ba,3,none⟩)] 194)).alloc (.cells #[.int .i64 1,.int .i64 255,.pointer (some ⟨ba,5,none⟩)] 194)).alloc (.cells #[.int .i64 1,.int .i64 255,.pointer (some ⟨ba,6,none⟩)] 194))) (Blk.new3 w _ _ _ _ _) I;have ak:=U.cell (j:=0) rfl;have al:=U.cell (j:=1) rfl;have am:=U.cell (j:=2) rfl;have an:=V.cell (j:=0) rfl;have ao:=V.cell (j:=1) rfl;have ap:=V.cell (j:=2) rfl;have aq:=W.cell (j:=0) rfl;have ar:=W.cell (j:=1) rfl;have au:=W.cell (j:=2) rfl;have av:=X.cell (j:=0) rfl;have aw:=X.cell (j:=1) rfl;have ax:=X.cell (j:=2) rfl;have ae:=O.cell (j:=0) rfl;have af:=O.cell (j:=1) rfl;have ag:=O.cell (j:=2) rfl;have ah:=Q.cell (j:=0) rfl;have ai:=Q.cell (j:=1) rfl;have aj:=Q.cell (j:=2) rfl;have F:yw w ((((w.alloc (.cells #[.int .i64 3,.int .i64 999999,.pointer (some ⟨ba,2,none⟩)] 194)).alloc (.cells #[.int .i64 1,.int .i64 255,.pointer (some ⟨ba,3,none⟩)] 194)).alloc (.cells #[.int .i64 1,.int .i64 255,.pointer (some ⟨ba,5,none⟩)] 194)).alloc (.cells #[.int .i64 1,.int .i64 255,.pointer (some ⟨ba,6,none⟩)] 194)):=(X0 _ _ _ _).alloc (by simp;omega) _;replace F:=F.trans (I.mono F.size);have ad:yI wc ba 1 k:=(F.cell (p:=⟨ba,1,none⟩) ab).trans J;have aa:=F.size;have E:yw w ((wc.alloc (.cells #[.int .i64 2,.int .i64 65535,.pointer (some ⟨ba,9,none⟩)] 194)).alloc (.cells #[.int .i64 4,.int .i64 100000000,.pointer (some ⟨ba,10,none⟩)] 194)):=(F.alloc aa _).alloc (by simp;omega) _
 have l1:ba<wc.heap.size:=by omega
 have l2:=O.lt;have l3:=Q.lt;have l4:=U.lt;have l5:=V.lt;have l6:=W.lt;have l7:=X.lt;clear J I U V W X O Q;have ac:=yh F;clear F;have D:=yh aa;clear aa;rcases kinds k with rfl|rfl|rfl|rfl|rfl|rfl|rfl|rfl|J
 ·go_wp2_with fail;go_ret2;exact⟨_,_,_,rfl,Sl.parts [pId,VC,XV,Z9a,pTo,VN,ZJa] _ (Blk.new2 wc _ _ _ _) (by decide) (by show _≤_;have:=D.out;omega) rfl,E.alloc (by have:=D.out;simp;omega) _⟩
 ·go_wp2_with fail;go_ret2;exact⟨_,_,_,rfl,Sl.parts [pId,VC,Vu,VN,ZJa] _ (Blk.new2 wc _ _ _ _) (by decide) (by show _≤_;have:=D.out;omega) rfl,E.alloc (by have:=D.out;simp;omega) _⟩
 ·go_wp2_with fail;go_ret2;exact⟨_,_,_,rfl,Sl.parts [pId] _ (Blk.new2 wc _ _ _ _) (by decide) (by show _≤_;have:=D.out;omega) rfl,E.alloc (by have:=D.out;simp;omega) _⟩
 ·go_wp2_with fail;go_ret2;exact⟨_,_,_,rfl,Sl.parts [pId,Yv] _ (Blk.new2 wc _ _ _ _) (by decide) (by show _≤_;have:=D.out;omega) rfl,E.alloc (by have:=D.out;simp;omega) _⟩
 ·go_wp2_with fail;go_ret2;exact⟨_,_,_,rfl,Sl.parts [pId] _ (Blk.new2 wc _ _ _ _) (by decide) (by show _≤_;have:=D.out;omega) rfl,E.alloc (by have:=D.out;simp;omega) _⟩
 ·go_wp2_with fail;go_ret2;exact⟨_,_,_,rfl,Sl.parts [pId,XV] _ (Blk.new2 wc _ _ _ _) (by decide) (by show _≤_;have:=D.out;omega) rfl,E.alloc (by have:=D.out;simp;omega) _⟩
 ·go_wp2_with fail;go_ret2;exact⟨_,_,_,rfl,Sl.parts [ZJa] _ (Blk.new2 wc _ _ _ _) (by decide) (by show _≤_;have:=D.out;omega) rfl,E.alloc (by have:=D.out;simp;omega) _⟩
 ·go_wp2_with fail;go_ret2;exact⟨_,_,_,rfl,Sl.nil _ _ _ _,E⟩
 ·have n1:(k==1)=false:=by simp;omega
  have n2:(k==2)=false:=by simp;omega
  have n3:(k==3)=false:=by simp;omega
  have n4:(k==4)=false:=by simp;omega
  have n5:(k==5)=false:=by simp;omega
  have n6:(k==6)=false:=by simp;omega
  have n7:(k==7)=false:=by simp;omega
  have n8:(k==8)=false:=by simp;omega
  have HP:=yh (show Qr k=[]by unfold Qr;repeat (rw[M2 (by omega)]));have HK:=yh (QM (n:=k) (a:=1) (b:=8) J);clear J;go_wp2_with fail;go_ret2;exact⟨none,0,0,by rw[HK.out];rfl,by rw[HP.out];exact Sl.nil _ _ _ _,E⟩
def ZR (k:Int):List UInt8:=
 if k=1 then [105,103,99,102,116,108,117]else if k=2 then [105,103,107,108,117]else if k=3∨k=5 then [105]else if k=4 then [105,97]else if k=6 then [105,99]else if k=7 then [117]else []
def QG (c:UInt8):Part:=
 if c=105 then pId else if c=103 then VC else if c=99 then XV else if c=107 then Vu else if c=102 then Z9a else if c=116 then pTo else if c=117 then ZJa else if c=97 then Yv else VN
def fld (x:Ask) (i:Nat):Int:=
 if i=2 then x.id else if i=3 then x.guests else if i=5 then x.cabin else if i=6 then x.category else if i=7 then x.frm else if i=8 then x.upto else if i=9 then x.til else if i=10 then x.amount else if x.level then 1 else 0
theorem XG (k:Int):(ZR k).map QG=Qr k:=by
 unfold ZR Qr
 repeat' split
 all_goals first|rfl|omega
theorem Z7a (k:Int)(w:World):Calls prog 125 #[.int .i64 k] w fun e w'=>e=.returned (.string ⟨(ZR k).toArray⟩)∧w=w':=by
 have A:∀L:List UInt8,ZR k=L→Hid (ZR k=L):=fun _ h=>h;by_cases h1:k=1
 ·subst h1;go_enter func125,ntmps125;go_wp2_with fail;go_ret;exact⟨rfl,rfl⟩
 by_cases h2:k=2
 ·subst h2;go_enter func125,ntmps125;go_wp2_with fail;go_ret;exact⟨rfl,rfl⟩
 by_cases h3:k=3
 ·subst h3;go_enter func125,ntmps125;go_wp2_with fail;go_ret;exact⟨rfl,rfl⟩
 by_cases h5:k=5
 ·subst h5;go_enter func125,ntmps125;go_wp2_with fail;go_ret;exact⟨rfl,rfl⟩
 by_cases h4:k=4
 ·subst h4;go_enter func125,ntmps125;go_wp2_with fail;go_ret;exact⟨rfl,rfl⟩
 by_cases h6:k=6
 ·subst h6;go_enter func125,ntmps125;go_wp2_with fail;go_ret;exact⟨rfl,rfl⟩
 by_cases h7:k=7
 ·subst h7;go_enter func125,ntmps125;go_wp2_with fail;go_ret;exact⟨rfl,rfl⟩
 have D:=A [] (by unfold ZR;rw[M2 h1,M2 h2,M2 (by omega),M2 h4,M2 h6,M2 h7])
 have E:(k==1)=false:=by simpa using h1
 have F:(k==2)=false:=by simpa using h2
 have I:(k==3)=false:=by simpa using h3
 have J:(k==4)=false:=by simpa using h4
 have O:(k==5)=false:=by simpa using h5
 have Q:(k==6)=false:=by simpa using h6
 have U:(k==7)=false:=by simpa using h7
 clear h1 h2 h3 h4 h5 h6 h7 A;go_enter func125,ntmps125;go_wp2_with fail;go_ret;exact⟨by rw[D.out];rfl,rfl⟩
theorem Uda (x:Ask)(c:UInt8)(w:World):Calls prog 126 #[.agg (QY x),.int .u8 (c.toNat:Int)] w fun e w'=>
  e=.returned (.tuple #[.int .i64 (fld x (QG c).ix),.int .i64 (QG c).bytes,.int .i64 (QG c).most])∧yw w w':=by
 unfold QY
 have A:∀d:UInt8,¬c=d→((c.toNat:Int)==(d.toNat:Int))=false:=fun d h=>by
  simp only[beq_eq_false_iff_ne,ne_eq];intro e;exact h (UInt8.toNat_inj.1 (by omega))
 by_cases hi:c=105
 ·subst hi;clear A;go_enter func126,ntmps126;go_wp2_with fail;go_ret3;exact⟨rfl,Qi _ _⟩
 have Q:=A 105 hi;by_cases hg:c=103
 ·subst hg;clear A;go_enter func126,ntmps126;go_wp2_with fail;go_ret3;exact⟨rfl,Qi _ _⟩
 have O:=A 103 hg;by_cases hc:c=99
 ·subst hc;clear A;go_enter func126,ntmps126;go_wp2_with fail;go_ret3;exact⟨rfl,Qi _ _⟩
 have I:=A 99 hc;by_cases hk:c=107
 ·subst hk;clear A;go_enter func126,ntmps126;go_wp2_with fail;go_ret3;exact⟨rfl,Qi _ _⟩
 have U:=A 107 hk;by_cases hf:c=102
 ·subst hf;clear A;go_enter func126,ntmps126;go_wp2_with fail;go_ret3;exact⟨rfl,Qi _ _⟩
 have J:=A 102 hf;by_cases ht:c=116
 ·subst ht;clear A;go_enter func126,ntmps126;go_wp2_with fail;go_ret3;exact⟨rfl,Qi _ _⟩
 have V:=A 116 ht;by_cases hu:c=117
 ·subst hu;clear A;go_enter func126,ntmps126;go_wp2_with fail;go_ret3;exact⟨rfl,Qi _ _⟩
 have W:=A 117 hu;by_cases ha:c=97
 ·subst ha;clear A;go_enter func126,ntmps126;go_wp2_with fail;go_ret3;exact⟨rfl,Qi _ _⟩
 have F:=A 97 ha;have E:=yh (show QG c=VN by unfold QG;rw[M2 hi,M2 hg,M2 hc,M2 hk,M2 hf,M2 ht,M2 hu,M2 ha]);simp only[UInt8.reduceToNat]at Q O I U J V W F;clear A hi hg hc hk hf ht hu ha;cases hl:x.level
 all_goals
  have D:=yh (show fld x 4=if x.level then 1 else 0 by unfold fld;simp);rw[hl]at D;clear hl;go_enter func126,ntmps126;go_wp2_with fail;go_ret3;exact⟨by rw[E.out,show VN.ix=4 from rfl,D.out];rfl,Qi _ _⟩
def Zu (n:Int):Nat→List UInt8
 | 0=>[]
 | m+1=>Zu (n / 256) m++[UInt8.ofNat (n % 256).toNat]
theorem UP (m:Nat):∀n,(Zu n m).length=m:=by
 induction m with
 | zero=>intro n;rfl
 | succ m ih=>intro n;simp[Zu,ih]
def Xea:Cod UInt8:=fun _ _ x cs=>cs=[.int .u8 (x.toNat:Int)]
theorem QIb:XM Xea:=fun _ _ _ _ _ _ h=>h
theorem Xl:Good Xea:=.of_flat QIb fun h u A=>by cases h;simp at A;subst A;rfl
instance byteK:CodK Xea 1:=⟨Xl,by omega⟩
theorem UFb:ElemOf prog 250 5 1 1:=.mk' underlying250 (z:=.int .u8 0) (by kernel_rfl) rfl (by omega)
theorem Qzc (w:World)(S:Nat→Prop)(x:UInt8)(v:Int)(t:TypeId)(D:v=(x.toNat:Int))(A:S w.heap.size):Sl Xea 1 (w.alloc (.cells #[.int .u8 v] t)) S (some ⟨w.heap.size,0,none⟩) 1 1 [x]:=
 Sl.lit1 w S t x [.int .u8 v] (by rw[D];rfl) A
theorem Own.str {w:World}{base:Nat}{A:Option Addr}{n cap:Nat}{l:List UInt8}{xs:List Value}(h:Own Xea 1 5 w base (.slice A n cap) l xs) :
  (convert 250 9 (.slice A n cap)).run prog w=.ok (.string ⟨l.toArray⟩) w:=by
 rcases h.row.2 with⟨Y,D⟩|⟨g,Q,U,Y,V,W,_⟩
 ·simp only[Value.slice.injEq]at Y;obtain⟨rfl,rfl,rfl⟩:=Y;obtain rfl:l=[]:=List.length_eq_zero_iff.1 D;exact Lib.run_convert_nil_bytes w _ _ _ _ underlying250 underlying5 underlying9
 ·simp only[Value.slice.injEq]at Y;obtain⟨rfl,rfl,rfl⟩:=Y
  have E:Lib.Bytes w g 0 ⟨l.toArray⟩:=fun i J=>by
   have O:i<l.length:=by simpa [ByteArray.size] using J
   obtain⟨cs,F,X,I,_⟩:=h.cells (J1 O);cases F;have:=I 0 _ rfl;rw[Nat.mul_one,Nat.add_zero]at this;rw[Nat.zero_add];exact this
  exact Lib.run_convert_whole w _ _ _ underlying250 underlying5 underlying9 g 0 ⟨l.toArray⟩ E cap
theorem ZAa (n:Int)(m:Nat)(w:World)(hm:m≤4) :
  Calls prog 137 #[.int .i64 n,.int .i64 m] w fun e w'=>e=.returned (.string ⟨(Zu n m).toArray⟩)∧yw w w':=by
 have E:∀k:Nat,(2:Int) ^ (8*k)=256 ^ k:=fun k=>by rw[Int.pow_mul];rfl
 have I:∀k:Nat,k<m→Zu (n / 256 ^ (k+1)) (m-(k+1))++[UInt8.ofNat (n / 256 ^ k % 256).toNat]=Zu (n / 256 ^ k) (m-k):=fun k W=>by
  rw[show m-k=m-(k+1)+1 by omega,Zu,Int.ediv_ediv_of_nonneg (by exact Int.pow_nonneg (by decide)),←Int.pow_succ]
 have F:∀k:Nat,n / 2 ^ (8*k) % 256=((UInt8.ofNat (n / 256 ^ k % 256).toNat).toNat:Int):=fun k=>by
  rw[E];have:=Int.emod_nonneg (n / 256 ^ k) (show(256:Int)≠0 by decide);have:=Int.emod_lt_of_pos (n / 256 ^ k) (show(0:Int)<256 by decide);simp only[UInt8.toNat_ofNat'];omega
 have HP:=yh E;clear E;have O:=yh I;clear I;have J:=yh F;clear F;go_enter func137,ntmps137;go_wp2_with fail
 go_loopg [5,6] m (fun gk o i wr=>∃k:Nat,k≤m∧k≤gk∧i=.int .i64 ((k:Int)-1)∧∃xs,Own Xea 1 5 wr w.heap.size o (Zu (n / 256 ^ k) (m-k)) xs∧yw w wr)
 case atStart=>exact⟨m,by omega,by omega,rfl,[],by rw[Nat.sub_self];exact Own.nil _ _ _ _ _,J4 _ _⟩
 case round=>
  obtain⟨k,W,ab,rfl,xs,hO,D⟩:=hrel;obtain⟨A,l,c,rfl,ac⟩:=hO.sl Xl;rcases k with _|k
  ·have Z:=hO.str;simp only[Int.pow_zero,Int.ediv_one,Nat.sub_zero]at Z;go_wp2_with fail;go_ret;exact⟨rfl,D⟩
  ·have X:(Zu (n / 256 ^ (k+1)) (m-(k+1))).length=m-(k+1):=UP _ _;have Q:=D.alloc D.size (.cells #[.int .u8 (n / 2 ^ (8*k) % 256)] 5);have ad:=D.size;go_wp2_with (at_builtin;refine QC (t:=250) (e:=5) (bytes:=1) rfl (.tmp 13) (.tmp 19) rfl UFb Xl rfl (hO.below Xl ((J4 _ _).alloc (J5 _) _)) rfl (Qzc _ All (UInt8.ofNat (n / 256 ^ k % 256).toNat) _ _ (J k) trivial) (fun _ _ U=>U) (by rw[X];omega) (by omega) (by simp;omega) ?_;intro v' w' aa Y V _);go_roundg k
   case measure=>omega
   case rel=>exact⟨k,by omega,by omega,by go_num,aa,by rw[←O.out k (by omega)];exact Y,QA Q (hO.below Xl ((J4 _ _).alloc (J5 _) _)) V (by simp;omega)⟩
theorem Blk.free {w:World}{b:Nat}{cs:Array Value}{t:TypeId}(h:Blk w b cs t)(j:Nat):w.frozen? ⟨b,j,none⟩=false:=by
 unfold Blk at h;simp[World.frozen?,h]
theorem Blk.set {w:World}{b j:Nat}{cs:Array Value}{t:TypeId}(h:Blk w b cs t)(u:Value):Blk (w.setCell ⟨b,j,none⟩ u) b (cs.set! j u) t:=by
 unfold Blk at h ⊢;simp only[World.setCell,Array.getElem?_modify,if_true];rw[h];rfl
theorem Blk.other {w:World}{b:Nat}{cs:Array Value}{t:TypeId}(h:Blk w b cs t){p:Addr}(A:p.block≠b)(u:Value):Blk (w.setCell p u) b cs t:=
 (Below.heap_setCell _ _ _ _ (fun e=>A e.symm)).trans h
def RowI (w:World) (g:Nat) (m:List Int) (t:TypeId):Prop:=Blk w g (m.map (Value.int .i64)).toArray t
theorem RowI.cell {w:World}{g:Nat}{m:List Int}{t:TypeId}(h:RowI w g m t){i:Nat}(A:i<m.length):w.cell? ⟨g,i,none⟩=some (.int .i64 (m.getD i 0)):=by
 refine Blk.cell h ?_;rw[List.getElem?_toArray,List.getElem?_map,J1 A,J7,J1 A];rfl
theorem RowI.free {w:World}{g:Nat}{m:List Int}{t:TypeId}(h:RowI w g m t)(i:Nat):w.frozen? ⟨g,i,none⟩=false:=Blk.free h i
theorem RowI.set {w:World}{g:Nat}{m:List Int}{t:TypeId}(h:RowI w g m t)(i:Nat)(v:Int):RowI (w.setCell ⟨g,i,none⟩ (.int .i64 v)) g (m.set i v) t:=by
 have:=Blk.set (j:=i) h (.int .i64 v);unfold RowI;rw[List.map_set]
 simpa using this
theorem RowI.other {w:World}{g:Nat}{m:List Int}{t:TypeId}(h:RowI w g m t){p:Addr}(A:p.block≠g)(u:Value):RowI (w.setCell p u) g m t:=Blk.other h A u
theorem RowI.bel {w w':World}{g:Nat}{m:List Int}{t:TypeId}(h:RowI w g m t)(A:yw w w'):RowI w' g m t:=Blk.bel h A
end Go.Proofs.YtjdcokpmgionjaaGreat
namespace Go.Proofs.YtjdcokpmgionjaaGreat
def Qn (f:Nat→Int):Nat→Int
 | 0=>0
 | n+1=>if Qn f n≠0 then Qn f n else f n
theorem Z1 {f:Nat→Int}{k:Nat}(A:Qn f k=0)(D:f k≠0):∀{n:Nat},k<n→Qn f n=f k
 | 0,h=>absurd h (by omega)
 | n+1,h=>by
  unfold Qn;by_cases he:k=n
  ·subst he;rw[M2 (by simpa using A)]
  ·have:=Z1 A D (n:=n) (by omega);rw[this,M3 D]
theorem Z8 {f:Nat→Int}{k:Nat}(A:Qn f k=0)(D:f k=0):Qn f (k+1)=0:=by
 unfold Qn;rw[M2 (by simpa using A),D]
theorem U4 {f:Nat→Int} : ∀{n:Nat},Qn f n=0→∀i,i<n→f i=0
 | 0,_=>fun i A=>absurd A (by omega)
 | n+1,h=>fun i A=>by
  unfold Qn at h;by_cases h1:Qn f n≠0
  ·rw[M3 h1]at h;exact absurd h h1
  ·rw[M2 h1]at h;by_cases he:i=n
   ·subst he;exact h
   ·exact U4 (by simpa using h1) i (by omega)
theorem VG {α:Type}{C:List α}{b:Nat}{d:α}(h:C.length≤b):C.getD b d=d:=by
 rw[J7,List.getElem?_eq_none h];rfl
theorem Un {α:Type}{C:List α}{b:Nat}{d:α}(h:b<C.length):C.getD b d=C[b]:=by
 rw[J7,J1 h];rfl
def Up (C:List (List Int)) (b a:Nat):Prop:=(a:Int)∈C.getD b []
instance (C:List (List Int)) (b a:Nat):Decidable (Up C b a):=by unfold Up;exact inferInstance
def Srv (C:List (List Int)) (a b:Nat):Prop:=Relation.TransGen (Up C) b a
def OkC (C:List (List Int)):Prop:=∀c∈C,∀h∈c,0≤h∧h<C.length
theorem Up.lt {C:List (List Int)}{a b:Nat}(h:Up C b a):b<C.length:=by
 unfold Up at h;by_cases hb:b<C.length
 ·exact hb
 ·rw[VG (by omega)]at h;simp at h
theorem OkC.getD {C:List (List Int)}(D:OkC C){b:Nat}{h:Int}(A:h∈C.getD b []):0≤h∧h<C.length:=by
 by_cases hb:b<C.length
 ·rw[Un hb]at A;exact D _ (List.getElem_mem hb) _ A
 ·rw[VG (by omega)]at A;simp at A
theorem Up.lt' {C:List (List Int)}(A:OkC C){a b:Nat}(h:Up C b a):a<C.length:=by
 have:=(A.getD h).2;omega
theorem Srv.lt {C:List (List Int)}(A:OkC C){a b:Nat}(h:Srv C a b):a<C.length∧b<C.length:=by
 unfold Srv at h
 induction h with
 | single h=>exact⟨h.lt' A,h.lt⟩
 | tail _ h ih=>exact⟨h.lt' A,ih.2⟩
theorem Srv.trans {C:List (List Int)}{a b c:Nat}(h:Srv C a b)(A:Srv C b c):Srv C a c:=by
 unfold Srv at *;exact Relation.TransGen.trans A h
def Zj (m:List Int):Nat:=m.countP (fun x=>decide (x≤0))
theorem Q5a (m:List Int)(i j:Nat)(v:Int)(A:i<m.length):(m.set i v).getD j 0=if i=j then v else m.getD j 0:=by
 simp only[J7,List.getElem?_set];by_cases h:i=j
 ·subst h;simp[A]
 ·simp[h]
theorem Qha:∀(m:List Int) (i:Nat) (v:Int),i<m.length→0<v→Zj (m.set i v)+(if m.getD i 0≤0 then 1 else 0)=Zj m
 | [],i,v,h,_=>absurd h (by simp)
 | x::m,0,v,h,hv=>by
  unfold Zj;simp only[List.set_cons_zero,List.countP_cons,List.getD_cons_zero]
  have:¬v≤0:=by omega
  by_cases hx:x≤0<;>simp[hx,this]
 | x::m,i+1,v,h,hv=>by
  have:=Qha m i v (by simpa using h) hv;unfold Zj at *;simp only[List.set_cons_succ,List.countP_cons,List.getD_cons_succ];omega
structure Cl (C:List (List Int)) (M n k:Nat) (hs m m':List Int):Prop where
 len:m'.length=m.length
 mono:∀x,0<m.getD x 0→0<m'.getD x 0
 kids:∀h∈hs,0<m'.getD h.toNat 0
 shut:∀y,0<m'.getD y 0→¬0<m.getD y 0→(∀h∈C.getD y [],0<m'.getD h.toNat 0)
 real:∀y,0<m'.getD y 0→0<m.getD y 0∨Srv C y n
 zer:Zj m'≤Zj m
 low:(∀x,0≤m.getD x 0)→∀x,0≤m'.getD x 0
 bnd:∀(c:Int),(∀x,m.getD x 0≤c)→∀x,m'.getD x 0≤c+k+M*((Zj m:Int)-Zj m')
theorem Cl.refl (C:List (List Int))(M n:Nat)(m:List Int):Cl C M n 0 [] m m where
 len:=rfl
 mono:=fun _ h=>h
 kids:=fun h D=>absurd D (by simp)
 shut:=fun y h A=>absurd h A
 real:=fun y h=>.inl h
 zer:=J5 _
 low:=fun h=>h
 bnd:=fun c h x=>by have:=h x;rw[Int.sub_self,Int.mul_zero];omega
theorem Cl.le {C:List (List Int)}{M n k k':Nat}{A m D:List Int}(c:Cl C M n k A m D)(h:k≤k'):Cl C M n k' A m D:=
 { c with bnd:=fun b E x=>by have:=c.bnd b E x;omega }
theorem Cl.old {C:List (List Int)}{M n k:Nat}{Q m A:List Int}(c:Cl C M n k Q m A)(i:Nat)(O:i<A.length)(W:0<A.getD i 0):Cl C M n (k+1) (Q++[(i:Int)]) m (A.set i (A.getD i 0+1)):=by
 have F:=fun j=>Q5a A i j (A.getD i 0+1) O
 have D:∀x,0<(A.set i (A.getD i 0+1)).getD x 0↔0<A.getD x 0:=fun x=>by
  rw[F];by_cases h:i=x
  ·subst h;rw[M3 rfl];omega
  ·rw[M2 h]
 have U:Zj (A.set i (A.getD i 0+1))=Zj A:=by
  have:=Qha A i (A.getD i 0+1) O (by omega);rw[M2 (by omega)]at this;omega
 refine⟨by rw[List.length_set];exact c.len,fun x h=>(D x).2 (c.mono x h),fun h I=>?_,fun y h J I V=>(D _).2 (c.shut y ((D y).1 h) J I V),fun y h=>c.real y ((D y).1 h),by rw[U];exact c.zer,fun h x=>?_,fun b h x=>?_⟩
 ·rcases List.mem_append.1 I with E|E
  ·exact(D _).2 (c.kids h E)
  ·simp only[List.mem_singleton]at E;subst E;exact(D _).2 (by simpa using W)
 ·rw[F];have:=c.low h x;split<;>omega
 ·rw[F,U];have E:=c.bnd b h x;have J:=c.bnd b h i
  split<;>omega
theorem Cl.new {C:List (List Int)}{M n k:Nat}{X m A F:List Int}(c:Cl C M n k X m A)(i:Nat)(W:i<A.length)(hp:A.getD i 0=0)(Y:Up C n i)
  (E:Cl C M i M (C.getD i []) (A.set i 1) F):Cl C M n (k+1) (X++[(i:Int)]) m F:=by
 have I:=fun j=>Q5a A i j 1 W
 have hz:Zj (A.set i 1)+1=Zj A:=by
  have:=Qha A i 1 W (by omega);rw[M3 (by omega)]at this;omega
 have aa:0<(A.set i 1).getD i 0:=by rw[I];simp
 have U:∀x,0<A.getD x 0→0<F.getD x 0:=fun x h=>E.mono x (by rw[I];split<;>omega);refine⟨by rw[E.len,List.length_set];exact c.len,fun x h=>U x (c.mono x h),fun h O=>?_,fun y h V O Q=>?_,fun y h=>?_,?_,fun h x=>?_,fun b h x=>?_⟩
 ·rcases List.mem_append.1 O with D|D
  ·exact U _ (c.kids h D)
  ·simp only[List.mem_singleton]at D;subst D;exact E.mono _ (by simpa using aa)
 ·by_cases J:0<(A.set i 1).getD y 0
  ·by_cases h4:i=y
   ·subst h4;exact E.kids O Q
   ·rw[I,M2 h4]at J;exact U _ (c.shut y J V O Q)
  ·exact E.shut y h J O Q
 ·rcases E.real y h with D|D
  ·rw[I]at D;by_cases h4:i=y
   ·subst h4;exact .inr (.single Y)
   ·rw[M2 h4]at D;exact c.real y D
  ·exact .inr (Srv.trans D (.single Y))
 ·have:=c.zer;have:=E.zer;omega
 ·refine E.low (fun x=>?_) x;rw[I];have:=c.low h x;split<;>omega
 ·have D:=c.bnd b h
  have hb:=E.bnd (b+(k+1:Nat)+M*((Zj m:Int)-Zj A)) (fun x=>by
   rw[I];have V:=D x;have J:=D i
   split
   ·rw[hp]at J;push_cast;omega
   ·push_cast;omega) x
  have e:(M:Int)*((Zj m:Int)-Zj A)+M+M*((Zj (A.set i 1):Int)-Zj F)=M*((Zj m:Int)-Zj F):=by
   have:(Zj A:Int)=Zj (A.set i 1)+1:=by omega
   rw[this]
   have Z:(M:Int)=M*1:=by omega
   calc (M:Int)*((Zj m:Int)-((Zj (A.set i 1):Int)+1))+M+M*((Zj (A.set i 1):Int)-Zj F)
     = M*((Zj m:Int)-((Zj (A.set i 1):Int)+1))+M*1+M*((Zj (A.set i 1):Int)-Zj F):=by rw[←Z]
    _=M*(((Zj m:Int)-((Zj (A.set i 1):Int)+1))+1+((Zj (A.set i 1):Int)-Zj F)):=by rw[Int.mul_add,Int.mul_add]
    _=_:=by congr 1;omega
  omega
theorem UAb {C:List (List Int)}{M b k:Nat}{N:Nat}{m:List Int}(c:Cl C M b k (C.getD b []) (List.replicate N 0) m)(x:Nat):0<m.getD x 0↔Srv C x b:=by
 have D:∀x,(List.replicate N (0:Int)).getD x 0=0:=fun x=>by
  simp only[J7,List.getElem?_replicate];split<;>rfl
 constructor
 ·intro h;rcases c.real x h with A|A
  ·rw[D]at A;omega
  ·exact A
 ·intro h;unfold Srv at h
  induction h with
  | single h=>simpa using c.kids _ h
  | tail _ h ih=>simpa using c.shut _ ih (by rw[D];omega) _ h
def Zc (C:List (List Int)):Nat→Nat→Nat→Bool
 | 0,a,b=>decide ((a:Int)∈C.getD b [])
 | m+1,a,b=>Zc C m a b || (Zc C m a m && Zc C m m b)
theorem Zpa {C:List (List Int)} : ∀(m a b:Nat),Zc C m a b=true→Srv C a b
 | 0,a,b,h=>.single (by unfold Zc at h;exact of_decide_eq_true h)
 | m+1,a,b,h=>by
  unfold Zc at h;rw[Bool.or_eq_true,Bool.and_eq_true]at h;rcases h with h|⟨h,A⟩
  ·exact Zpa m a b h
  ·exact(Zpa m a m h).trans (Zpa m m b A)
theorem Ymb {C:List (List Int)}{m a b:Nat}(h:Zc C m a b=true):Zc C (m+1) a b=true:=by
 show(Zc C m a b || (Zc C m a m && Zc C m m b))=true
 rw[h];rfl
theorem ZDb {C:List (List Int)}{m a b:Nat}(h:Zc C m a b=true):∀n,m≤n→Zc C n a b=true
 | 0,hn=>by(obtain rfl:m=0:=by omega);(exact h)
 | n+1,hn=>by
  by_cases he:m=n+1
  ·subst he;exact h
  ·exact Ymb (ZDb h n (by omega))
theorem Qmb {C:List (List Int)} : ∀(m k a b:Nat),k<m→Zc C m a k=true→Zc C m k b=true→Zc C m a b=true
 | 0,_,_,_,h,_,_=>absurd h (by omega)
 | m+1,k,a,b,hk,A,D=>by
  have J:∀a b,Zc C (m+1) a b=true↔(Zc C m a b=true∨(Zc C m a m=true∧Zc C m m b=true)):=fun a b=>by
   show(Zc C m a b || (Zc C m a m && Zc C m m b))=true↔_
   rw[Bool.or_eq_true,Bool.and_eq_true]
  rw[J]at A D ⊢;by_cases he:k=m
  ·subst he;exact .inr ⟨A.elim id And.left,D.elim id And.right⟩
  ·have E:=fun a b=>Qmb (C:=C) m k a b (by omega)
   rcases A with A|⟨A,I⟩<;>rcases D with D|⟨D,F⟩
   ·exact .inl (E _ _ A D)
   ·exact .inr ⟨E _ _ A D,F⟩
   ·exact .inr ⟨A,E _ _ I D⟩
   ·exact .inr ⟨A,F⟩
theorem Yea {C:List (List Int)}(a b:Nat):Zc C C.length a b=true↔Srv C a b:=by
 constructor
 ·exact Zpa _ _ _
 ·intro h;unfold Srv at h
  induction h with
  | single h=>exact ZDb (m:=0) (by unfold Zc;exact J2 h) _ (by omega)
  | tail _ h ih=>exact Qmb _ _ _ _ h.lt (ZDb (m:=0) (by unfold Zc;exact J2 h) _ (by omega)) ih
theorem QLc (C:List (List Int))(m a:Nat):Zc C (m+1) a m=Zc C m a m:=by
 show(Zc C m a m || (Zc C m a m && Zc C m m m))=_
 cases Zc C m a m<;>simp
theorem QMc (C:List (List Int))(m b:Nat):Zc C (m+1) m b=Zc C m m b:=by
 show(Zc C m m b || (Zc C m m m && Zc C m m b))=_
 cases Zc C m m b<;>simp
instance (C:List (List Int)) (a b:Nat):Decidable (Srv C a b):=decidable_of_iff _ (Yea a b)
end Go.Proofs.YtjdcokpmgionjaaGreat
namespace Go.Proofs.YtjdcokpmgionjaaGreat
open Proofs.Tryz Go.RowKit Go.Shelf
structure Cat where
 name:List UInt8
 high:List Int
 deriving DecidableEq,Inhabited
structure Cab where
 name:List UInt8
 cat:Int
 ber:Int
 lev:Bool
 deriving DecidableEq,Inhabited
structure Shp where
 legs:Int
 souls:Int
 cats:List Cat
 cabs:List Cab
abbrev Zf (s:List UInt8):Value:=.string ⟨s.toArray⟩
def VZa:Cod (List UInt8):=fun _ _ s cs=>cs=[Zf s]∧s.length≤maxLen
theorem XGa:XM VZa:=fun _ _ _ _ _ _ h=>h
theorem Uj:Good VZa:=.of_flat XGa fun h u A=>by obtain⟨rfl,_⟩:=h;simp at A;subst A;rfl
instance strK:CodK VZa 1:=⟨Uj,by omega⟩
def UX:Cod Cat:=fun w S x cs=>∃A n cap,cs=[Zf x.name,.slice A n cap]∧Sl QO 1 w S A n cap x.high∧x.name.length≤maxLen
theorem Ug:Good UX:=⟨fun h E=>by
  obtain⟨A,n,cap,rfl,h,F⟩:=h
  exact⟨A,n,cap,rfl,h.keep Qd (by omega) E,F⟩,fun h u D=>by
  obtain⟨A,n,cap,rfl,h,F⟩:=h
  simp at D;rcases D with rfl|rfl<;>rfl⟩
instance catK:CodK UX 2:=⟨Ug,by omega⟩
def Ut:Cod Cab:=fun _ _ x cs=>cs=[Zf x.name,.int .i64 x.cat,.int .i64 x.ber,.bool x.lev]∧x.name.length≤maxLen∧InI x.cat∧InI x.ber
theorem Xfa:XM Ut:=fun _ _ _ _ _ _ h=>h
theorem Zx:Good Ut:=.of_flat Xfa fun h u A=>by obtain⟨rfl,_⟩:=h;simp at A;rcases A with rfl|rfl|rfl|rfl<;>rfl
instance cabK:CodK Ut 4:=⟨Zx,by omega⟩
def U6c:Cod Shp:=fun w S x cs=>∃A n cap B m cap2,cs=[.int .i64 x.legs,.int .i64 x.souls,.slice A n cap,.slice B m cap2]∧
 Sl UX 2 w S A n cap x.cats∧Sl Ut 4 w S B m cap2 x.cabs∧InI x.legs∧InI x.souls
def chB (c:UInt8):Bool:=Qc c.toNat 65 90 || Qc c.toNat 48 57
def VI (s:List UInt8):Bool:=!s.any (fun c=>!chB c) && (decide (1≤s.length) && decide (s.length≤8))
theorem QWc {L:List UInt8}{k:Nat}{d:UInt8}(h:L[k]? = some d)(W:World):(Instr.index 9 (Zf L) (.int .i64 (k:Int))).run prog W=.ok (.int .u8 (d.toNat:Int)) W:=by
 have E:k<L.length:=(J0.1 h).1
 have A:(⟨L.toArray⟩:ByteArray).size=L.length:=by show L.toArray.size=_;simp
 unfold Zf;rw[run_index_string _ _ _ _ _ underlying9,dif_pos ⟨by omega,by rw[A];omega⟩];have D:L[k]=d:=(J0.1 h).2
 have:(⟨L.toArray⟩:ByteArray)[k]'(by rw[A];exact E)=d:=by rw[←D];rfl
 simp only[Int.toNat_natCast,this]
theorem XPb (L:List UInt8):(decide (1≤L.length) && decide (L.length≤8))=(!L.isEmpty && decide ((L.length:Int)≤8)):=by
 have e:((L.length:Int)≤8)=(L.length≤8):=propext (by omega);simp only[e]
 cases L with
 | nil=>rfl
 | cons x l=>rw[J2 (by simp)];rfl
theorem U9b (L:List UInt8):(decide (1≤L.length) && decide (L.length≤8))=Qc L.length 1 8:=by
 have e:((L.length:Int)≤8)=(L.length≤8):=propext (by omega);have A:((1:Int)≤(L.length:Int))=(1≤L.length):=propext (by omega);unfold Qc;simp only[e,A]
theorem U8 (n a b:Int)(w:World):Calls prog 157 #[.int .i64 n,.int .i64 a,.int .i64 b] w fun e w'=>e=.returned (.bool (Qc n a b))∧w'=w:=by
 go_enter func157,ntmps157;go_wp2
 all_goals go_ret
 all_goals exact⟨Ux (by unfold Qc;simp;try omega),rfl⟩
theorem XOb (L:List UInt8)(w:World)(Y:L.length≤maxLen):Calls prog 212 #[Zf L] w fun e w'=>e=.returned (.bool (VI L))∧w'=w:=by
 unfold Zf
 have ab:L.length≤9223372036854775807:=by unfold maxLen at Y;omega
 clear Y;obtain⟨r,E⟩:=yE (VI L);rw[←E];have HR:=yh E;clear E;go_enter func212,ntmps212;go_wp2_with fail
 go_loopg [6] L.length (fun gk i wr=>∃k:Nat,k≤L.length∧L.length-k≤gk∧i=.int .i64 k∧Aside ((L.take k).any (fun c=>!chB c)=false)∧wr=w)
 case atStart=>exact⟨0,by omega,by omega,rfl,rfl,rfl⟩
 case round=>
  obtain⟨k,hk,aa,rfl,D,rfl⟩:=hrel;by_cases hlt:k<L.length
  ·obtain⟨d,Q⟩:∃d,L[k]? = some d:=⟨_,J1 hlt⟩;have X:=fun W=>QWc Q W;unfold Zf at X;have O:=yh Q;clear Q;have Z:d.toNat<256:=d.toNat_lt;obtain⟨q,U⟩:∃q:Nat,q=d.toNat:=⟨_,rfl⟩;rw[←U]at X Z;have J:=yh (show chB d=(Qc q 65 90 || Qc q 48 57)by unfold chB;rw[U]);clear U;have F:=fun W=>U8 q 65 90 W;have I:=fun W=>U8 q 48 57 W;cases b1:Qc q 65 90
   ·rw[b1]at F;cases b2:Qc q 48 57
    ·rw[b2]at I
     have E:r=false:=by rw[HR.out];unfold VI;rw[Zwa O.out (by rw[J.out,b1,b2];rfl)];rfl
     subst E;clear b1 b2;go_wp2_with fail;refine(F _).mono ?_;rintro e V ⟨rfl,rfl⟩;go_wp2_with fail;refine(I _).mono ?_;rintro e V ⟨rfl,rfl⟩;go_wp2_with fail;go_ret;exact⟨rfl,rfl⟩
    ·rw[b2]at I;have A:=yh (show chB d=true by rw[J.out,b1,b2];rfl);clear b1 b2;go_wp2_with fail;refine(F _).mono ?_;rintro e V ⟨rfl,rfl⟩;go_wp2_with fail;refine(I _).mono ?_;rintro e V ⟨rfl,rfl⟩;go_wp2_with fail;go_roundg (L.length-(k+1))
     case measure=>omega
     case rel=>exact⟨k+1,by omega,by omega,by go_num,(show Aside _ from by show _=_;rw[Qu O.out,D,A.out];rfl),rfl⟩
   ·rw[b1]at F;have A:=yh (show chB d=true by rw[J.out,b1];rfl);clear b1;go_wp2_with fail;refine yN (F _) ?_;go_wp2_with fail;go_roundg (L.length-(k+1))
    case measure=>omega
    case rel=>exact⟨k+1,by omega,by omega,by go_num,(show Aside _ from by show _=_;rw[Qu O.out,D,A.out];rfl),rfl⟩
  ·obtain rfl:k=L.length:=by omega
   rw[List.take_length]at D;have A:=yh (show r=(decide (1≤L.length) && decide (L.length≤8))by rw[HR.out];unfold VI;rw[show L.any (fun c=>!chB c)=false from D];rfl);clear aa hk hlt D;rw[XPb]at A;by_cases h0:L=[]
   ·subst h0;obtain rfl:r=false:=A.out;go_wp2_with fail;go_ret;exact⟨rfl,rfl⟩
   go_wp2_with fail;go_ret;exact⟨Ux A.symm,rfl⟩
theorem UZa (L:List UInt8)(w:World)(Y:L.length≤maxLen):Calls prog 143 #[Zf L] w fun e w'=>e=.returned (.bool (VI L))∧w'=w:=by
 unfold Zf
 have ab:L.length≤9223372036854775807:=by unfold maxLen at Y;omega
 clear Y;obtain⟨r,E⟩:=yE (VI L);rw[←E];have HR:=yh E;clear E;go_enter func143,ntmps143;go_wp2_with fail
 go_loopg [3] L.length (fun gk i wr=>∃k:Nat,k≤L.length∧L.length-k≤gk∧i=.int .i64 k∧Aside ((L.take k).any (fun c=>!chB c)=false)∧wr=w)
 case atStart=>exact⟨0,by omega,by omega,rfl,rfl,rfl⟩
 case round=>
  obtain⟨k,hk,aa,rfl,A,rfl⟩:=hrel;by_cases hlt:k<L.length
  ·obtain⟨d,U⟩:∃d,L[k]? = some d:=⟨_,J1 hlt⟩;have X:=fun W=>QWc U W;unfold Zf at X;have Q:=yh U;clear U;have Z:d.toNat<256:=d.toNat_lt;obtain⟨q,V⟩:∃q:Nat,q=d.toNat:=⟨_,rfl⟩;rw[←V]at X Z;have O:=yh (show chB d=(Qc q 65 90 || Qc q 48 57)by unfold chB;rw[V]);clear V;have F:=fun W=>Qj q 65 90 W;have I:=fun W=>Qj q 48 57 W;cases b1:Qc q 65 90
   ·rw[b1]at F;cases b2:Qc q 48 57
    ·rw[b2]at I
     have E:r=false:=by rw[HR.out];unfold VI;rw[Zwa Q.out (by rw[O.out,b1,b2];rfl)];rfl
     subst E;clear b1 b2;go_wp2_with fail;refine(F _).mono ?_;rintro e J ⟨rfl,rfl⟩;go_wp2_with fail;refine(I _).mono ?_;rintro e J ⟨rfl,rfl⟩;go_wp2_with fail;go_ret;exact⟨rfl,rfl⟩
    ·rw[b2]at I;have D:=yh (show chB d=true by rw[O.out,b1,b2];rfl);clear b1 b2;go_wp2_with fail;refine(F _).mono ?_;rintro e J ⟨rfl,rfl⟩;go_wp2_with fail;refine(I _).mono ?_;rintro e J ⟨rfl,rfl⟩;go_wp2_with fail;go_roundg (L.length-(k+1))
     case measure=>omega
     case rel=>exact⟨k+1,by omega,by omega,by go_num,(show Aside _ from by show _=_;rw[Qu Q.out,A,D.out];rfl),rfl⟩
   ·rw[b1]at F;have D:=yh (show chB d=true by rw[O.out,b1];rfl);clear b1;go_wp2_with fail;refine(F _).mono ?_;rintro e J ⟨rfl,rfl⟩;go_wp2_with fail;go_roundg (L.length-(k+1))
    case measure=>omega
    case rel=>exact⟨k+1,by omega,by omega,by go_num,(show Aside _ from by show _=_;rw[Qu Q.out,A,D.out];rfl),rfl⟩
  ·obtain rfl:k=L.length:=by omega
   rw[List.take_length]at A;have D:=yh (show r=Qc L.length 1 8 by rw[HR.out];unfold VI;rw[show L.any (fun c=>!chB c)=false from A];rw[←U9b];rfl);clear aa hk hlt A;go_wp2_with fail;refine yN (Qj L.length 1 8 _) ?_;go_wp2_with fail;go_ret;exact⟨Ux D.symm,rfl⟩
theorem Sl.pre {α:Type}{c:Cod α}{size:Nat}{w:World}{S:Nat→Prop}{A:Option Addr}{n cap:Nat}{l:List α}(h:Sl c size w S A n cap l){k:Nat}(F:k≤n):Sl c size w S A k cap (l.take k):=by
 refine⟨by rw[J8,h.len];omega,by have:=h.le;omega,h.max,fun i x I=>h.rd i x ?_⟩
 have E:i<k:=by
  rcases Nat.lt_or_ge i k with D|D
  ·exact D
  ·rw[List.getElem?_eq_none (by rw[J8];omega)]at I;cases I
 rwa [List.getElem?_take,M3 E]at I
theorem XJa (A:Option Addr)(n cap:Nat)(l:List Int)(s:Int)(w:World)(h:Sl QO 1 w All A n cap l) :
  Calls prog 118 #[.slice A n cap,.int .i64 s] w fun e w'=>e=.returned (.bool (l.contains s))∧w'=w:=by
 have D:=Uxb A n cap l s w h;have E:=yh (VH (p:=fun x=>s==x) (l:=l));have I:=Yp (p:=fun x=>s==x) (l:=l) (by have:=h.bd;have:=h.len;omega);have F:=yh (show l.any (fun x=>s==x)=l.contains s by rw[List.any_beq]);obtain⟨q,Q⟩:=yE (UD (fun x=>s==x) l);rw[←Q]at D E I;have J:=yh Q;clear Q;go_enter func118,ntmps118;go_wp2_with fail;refine yN D ?_;go_wp2_with fail;go_ret;exact⟨Ux (E.trans F),rfl⟩
def UQ (n:Int) (l:List Int) (k:Nat):Int:=if Qc (l.getD k 0) 0 (n-1)=false then 3 else if (l.take k).contains (l.getD k 0)then 6 else 0
theorem VW {α:Type}{l:List α}{k:Nat}{x d:α}(h:l[k]? = some x):l.getD k d=x:=by rw[J7,h];rfl
theorem Q1b (A:Option Addr)(n cap:Nat)(l:List Int)(af:Int)(w:World)(h:Sl QO 1 w All A n cap l)(h0:0≤af)(h1:af≤1000000000) :
  Calls prog 160 #[.slice A n cap,.int .i64 af] w fun e w'=>e=.returned (.int .i64 (Qn (UQ af l) l.length))∧w'=w:=by
 have aa:=h.bd;obtain⟨r,D⟩:=yE (Qn (UQ af l) l.length);rw[←D];rw[h.len]at D;have J:=yh D;clear D;go_enter func160,ntmps160;go_wp2_with fail
 go_loopg [9] n (fun gk i wr=>∃k:Nat,k≤n∧n-k≤gk∧i=.int .i64 k∧Aside (Qn (UQ af l) k=0)∧wr=w)
 case atStart=>exact⟨0,M0 _,by omega,rfl,rfl,rfl⟩
 case round=>
  obtain⟨k,hk,ab,rfl,F,rfl⟩:=hrel;by_cases hlt:k<n
  ·obtain⟨b,ad,x,Z,rfl,hx,⟨U,_⟩,g0⟩:=h.at1 hlt;simp only[List.cons.injEq,and_true]at U;obtain rfl:=U;have O:=yh (show UQ af l k=if Qc x 0 (af-1)=false then 3 else if (l.take k).contains x then 6 else 0 by unfold UQ;rw[VW hx]);have V:=XJa _ _ _ _ x _ (h.pre (Nat.le_of_lt hlt));have X:=yh V;clear V
   have ac:k≤cap:=by have:=h.le;omega
   clear hx;have I:=fun W=>U8 x 0 (af-1) W;cases b1:Qc x 0 (af-1)
   ·rw[b1]at I
    have E:UQ af l k=3:=by rw[O.out,M3 b1]
    have D:r=3:=by rw[J.out,Z1 F (by rw[E];decide) hlt,E]
    subst D;clear b1 E;go_wp2_with fail;refine(I _).mono ?_;rintro e w9 ⟨rfl,rfl⟩;go_wp2_with fail;go_ret;exact⟨rfl,rfl⟩
   ·rw[b1]at I;have Q:=yh (show UQ af l k=if (l.take k).contains x then 6 else 0 by rw[O.out,M2 (by rw[b1];simp)]);clear b1;go_wp2_with fail;refine yN (I _) ?_;go_wp2_with fail;refine yN X ?_;cases b2:(l.take k).contains x
    ·have Y:=yh (show UQ af l k=0 by rw[Q.out,b2];rfl);clear b2;go_wp2_with fail;go_roundg (n-(k+1))
     case measure=>omega
     case rel=>exact⟨k+1,by omega,by omega,by go_num,(show Aside _ from Z8 F Y),rfl⟩
    ·have E:UQ af l k=6:=by rw[Q.out,b2];rfl
     have D:r=6:=by rw[J.out,Z1 F (by rw[E];decide) hlt,E]
     subst D;clear b2 E;go_wp2_with fail;go_ret;exact⟨rfl,rfl⟩
  ·obtain rfl:k=n:=by omega
   have D:r=0:=by rw[J.out];exact F
   subst D;go_wp2_with fail;go_ret;exact⟨rfl,rfl⟩
end Go.Proofs.YtjdcokpmgionjaaGreat
namespace Go.Proofs.YtjdcokpmgionjaaGreat
open Go.RowKit Go.Maps
def Tally (P:Program) (w:World) (k e:TypeId) (B n:Nat) (cnt:Lit→Int):Prop:=
 ∃D:DataW Unit,w.ownsMap P k (plainElem P e) B n D∧IsMap D∧∀kl,D.atKey kl (.lit (.int .i64 0))=.lit (.int .i64 (cnt kl))
theorem Tally.made (P:Program)(w:World)(k e:TypeId):Tally P (w.alloc (.map #[] 0)) k e w.heap.size 0 (fun _=>0):=
 ⟨.map [],World.ownsMap_made _ _ _ _,isMap_empty,fun _=>rfl⟩
theorem Tally.bel {P:Program}{w w':World}{k e:TypeId}{B n:Nat}{cnt:Lit→Int}(h:Tally P w k e B n cnt)(A:yw w w'):Tally P w' k e B n cnt:=by
 obtain⟨D,J,E,F⟩:=h;exact⟨D,J.kept (row:=none) ⟨A.os,A.tape,A.output,A.size,fun i I _=>A.block i I⟩ (by simp),E,F⟩
theorem UO {P:Program}(w:World){E:Array Oper}{F:List Oper}{o:Oper}{a:Act}{Q:Exit→Act→World→Prop}
  (hg:o.guard=none) (m x:Operand) (t:TypeId) (W:o.op=Op.lookup t m x false)
  (k e:TypeId) (K:Keyed P k) (Y:P.underlying t=some (.map k e)) (O:P.underlying e=some (.int .i64)) (hz:(zeroValue e).run P w=.ok (.int .i64 0) w) (b n:Nat) (cnt:Lit→Int)
  (V:a.eval m=.map (some b)) (h:Tally P w k e b n cnt) (aa:Value) (A:Lit) (hx:a.eval x=aa) (U:keyOf P k aa=some A) (v:Int) (Z:cnt A=v)
  (hK:wpList P E Q F (a.put o.dst (.int .i64 v)) w) :
  wpList P E Q (o::F) a w:=by
 obtain⟨D,X,h2,I⟩:=h;subst Z;refine wpList_lookup_own_int w hg m x t W k e .i64 K Y O hz b n D V X aa A hx U fun c J _=>?_
 have:c=cnt A:=by
  have:=J.symm.trans (I A);injection this with this;injection this
 subst this;exact hK
theorem Qka {P:Program}(w:World){I:Array Oper}{J:List Oper}{o:Oper}{a:Act}{Q:Exit→Act→World→Prop}
  (W:o.guard=none) (m x v:Operand) (t:TypeId) (ab:o.op=Op.mapUpdate t m x v)
  (k e:TypeId) (K:Keyed P k) (ht:P.underlying t=some (.map k e)) (V:P.underlying e=some (.int .i64)) (b n:Nat) (cnt ae:Lit→Int)
  (hm:a.eval m=.map (some b)) (h:Tally P w k e b n cnt) (hn:n<maxLen) (E:Value) (A:Lit) (i:Int) (hx:a.eval x=E) (hv:a.eval v=.int .i64 i) (Z:keyOf P k E=some A) (aa:WideAt.IsKeyLit A)
  (Y:(Lit.int .i64 i).wf=true) (h1:ae A=i) (U:∀y,y≠A→ae y=cnt y)
  (hK:∀w',Tally P w' k e b (n+1) ae→w.grownBy w' (some b)→wpList P I Q J (a.put o.dst undef) w') :
  wpList P I Q (o::J) a w:=by
 obtain⟨D,ac,F,O⟩:=h;refine wpList_mapUpdate_own w W m x v t ab k e K ht _ b n D hm ac hn E (.int .i64 i) A hx hv Z _ [] (plainElem_int V Y) fun w' ad X=>?_;refine hK w' ⟨_,ad,F.put _ _,fun y=>?_⟩ X;by_cases hy:y=A
 ·subst hy;rw[atKey_put_same F aa,h1]
 ·rw[atKey_put_other hy,O,U y hy]
def Uja (l:List (List UInt8)):Lit→Int
 | .string s=>(l.count s:Nat)
 | _=>0
theorem V4b:Uja []=fun _=>0:=by funext x;cases x<;>rfl
theorem ULb (l:List (List UInt8))(s:List UInt8):Uja (l++[s]) (.string s)=(l.count s:Nat)+1:=by simp[Uja]
theorem QNb (l:List (List UInt8))(s:List UInt8)(x:Lit)(h:x≠.string s):Uja (l++[s]) x=Uja l x:=by
 cases x<;>try rfl
 rename_i y
 have:y≠s:=fun e=>h (by rw[e]);simp only[Uja,List.count_append,List.count_singleton];rw[M2 (by simpa using fun e=>this e.symm)];rfl
end Go.Proofs.YtjdcokpmgionjaaGreat
namespace Go.Proofs.YtjdcokpmgionjaaGreat
open Proofs.Tryz Go.RowKit Go.Shelf Go.Maps
def nmE (l:List (List UInt8)) (f:Nat→Int) (k:Nat):Int:=if VI (l.getD k [])=false then 1 else if (l.take k).contains (l.getD k [])then 6 else f k
theorem X0a:Keyed prog 9:=string_keyed underlying9
theorem Yfa (w:World):(zeroValue 3).run prog w=.ok (.int .i64 0) w:=by kernel_rfl
theorem ZNc {s:List UInt8}(A:s.length≤maxLen):keyOf prog 9 (.string ⟨s.toArray⟩)=some (.string s):=by
 have:=WideMaps.keyOf_string_mk (P:=prog) underlying9 (s:=⟨s.toArray⟩) (by show s.toArray.size≤_;simpa using A)
 simpa using this
theorem Xta (A:Option Addr)(n cap:Nat)(l:List (List UInt8))(g:Nat)(lb:Array Value)(f:Nat→Int)(w:World)(h:Sl VZa 1 w All A n cap l)
  (eg:∀af w,(callFunc g af).run prog w=.ok (.enter g af) w)
  (hp:∀(k:Nat) (w1:World),k<n→yw w w1→Calls prog g (#[.int .i64 (k:Int)]++lb) w1 fun e w'=>e=.returned (.int .i64 (f k))∧yw w1 w') :
  Calls prog 158 #[.slice A n cap,.func (.func g) #[] lb] w fun e w'=>e=.returned (.int .i64 (Qn (nmE l f) l.length))∧yw w w':=by
 have aq:=@run_makeMap prog;have ao:=h.bd
 have aj:n≤maxLen:=by have:=h.le;have:=h.max;omega
 have am:=yh aj;clear aj;have HP:=yh hp;clear hp;obtain⟨r,D⟩:=yE (Qn (nmE l f) l.length);rw[←D];rw[h.len]at D;have U:=yh D;clear D;go_enter func158,ntmps158;go_wp2_with fail
 go_loopg [12] n (fun gk i wr=>∃k:Nat,k≤n∧n-k≤gk∧i=.int .i64 k∧Aside (Qn (nmE l f) k=0)∧Tally prog wr 9 3 w.heap.size k (Uja (l.take k))∧yw w wr)
 case atStart=>exact⟨0,M0 _,by omega,rfl,rfl,by rw[List.take_zero,V4b];exact Tally.made _ _ _ _,(J4 _ _).alloc (J5 _) _⟩
 case round=>
  obtain⟨k,hk,ap,rfl,E,hT,V⟩:=hrel;by_cases hlt:k<n
  ·obtain⟨b,av,x,c0,rfl,J,⟨hc,ac⟩,g0⟩:=(h.bel V).at1 hlt;simp only[List.cons.injEq,and_true]at hc;obtain rfl:=hc;have HV:=yh (show nmE l f k=if VI x=false then 1 else if (l.take k).contains x then 6 else f k by unfold nmE;rw[VW J]);have HX:=yh J;obtain⟨q,I⟩:∃q:Nat,q=(l.take k).count x:=⟨_,rfl⟩
   have ar:q≤k:=by rw[I];exact Nat.le_trans List.count_le_length (by rw[J8];omega)
   have HQ:=yh (show Uja (l.take k) (.string x)=(q:Int)by rw[I];rfl);have ax:=yh (show Uja (l.take (k+1)) (.string x)=(q:Int)+1 by rw[Qo J,ULb,I]);have HO:=yh (show ∀y,y≠.string x→Uja (l.take (k+1)) y=Uja (l.take k) y from fun y hy=>by rw[Qo J,QNb _ _ _ hy])
   have al:=yh (show(l.take k).contains x=decide (0<q)by
    rw[I];cases hcn:(l.take k).contains x
    ·have Z:x∉l.take k:=by simpa using hcn
     rw[List.count_eq_zero_of_not_mem Z];rfl
    ·have Z:x∈l.take k:=by simpa using hcn
     rw[J2 (List.count_pos_iff.2 Z)])
   have O:=yh (ZNc ac);have Q:=yh (fun W=>XOb x W ac);have ad:=yh hT;clear J I ac hT
   have hw:wrap64 ((q:Int)+1)=(q:Int)+1:=by unfold wrap64;omega
   go_wp2_with (first
    | (at_lookup;refine UO _ rfl _ _ 259 rfl 9 3 X0a underlying259 underlying3 (Yfa _) w.heap.size k _ rfl ad _ _ rfl O _ HQ.out ?_)
    | (at_mapUpdate;refine Qka _ rfl _ _ _ 259 rfl 9 3 X0a underlying259 underlying3 w.heap.size k _ (Uja (l.take (k+1))) rfl ad (by have:=am.out;omega) _ _ ((q:Int)+1) rfl rfl O trivial (WalkArith.wf_i64 (by omega)) ax HO.out ?_;intro w1 ag ai))
   have F:=V.grown ai V.size (fun j hj=>by cases hj;exact J5 _);clear ai;have X:=yh ag;clear ag;cases b1:VI x
   ·have hv:nmE l f k=1:=by rw[HV.out,M3 b1]
    have D:r=1:=by rw[U.out,Z1 E (by rw[hv];decide) hlt,hv]
    subst D;rw[b1]at Q;clear b1 hv;refine(Q _).mono ?_;rintro e w2 ⟨rfl,rfl⟩;go_wp2_with fail;go_ret;exact⟨rfl,F⟩
   ·have ae:=yh (show nmE l f k=if 0<q then 6 else f k by
     rw[HV.out,M2 (by rw[b1];simp),al.out];by_cases h0:0<q
     ·rw[J2 h0,M3 rfl,M3 h0]
     ·rw[J3 h0,M2 (by simp),M2 h0])
    rw[b1]at Q;clear b1;refine yN (Q _) ?_;by_cases h0:0<q
    ·have hv:nmE l f k=6:=by rw[ae.out,M3 h0]
     have D:r=6:=by rw[U.out,Z1 E (by rw[hv];decide) hlt,hv]
     subst D;clear hv;go_wp2_with (at_lookup;refine UO _ rfl _ _ 259 rfl 9 3 X0a underlying259 underlying3 (Yfa _) w.heap.size (k+1) _ rfl X _ _ rfl O _ ax.out ?_)
     all_goals first|omega|skip
     go_ret;exact⟨rfl,F⟩
    ·obtain rfl:q=0:=by omega
     obtain⟨v,hv⟩:=yE (f k);have ab:=HP k _ hlt F;rw[←hv]at ab;have Y:=yh (show nmE l f k=v by rw[ae.out,M2 (by omega),hv]);have ak:=yh ab;clear hv ab h0;go_wp2_with (at_lookup;refine UO _ rfl _ _ 259 rfl 9 3 X0a underlying259 underlying3 (Yfa _) w.heap.size (k+1) _ rfl X _ _ rfl O _ ax.out ?_);refine yM ak fun w3 aa=>?_;have ah:=F.trans (aa.mono F.size);have an:=yh (X.bel aa);clear aa;by_cases hv:v=0
     ·subst hv;have HK:=yh (Z8 E Y);go_wp2_with fail;go_roundg (n-(k+1))
      case measure=>omega
      case rel=>exact⟨k+1,by omega,by omega,by go_num,HK,an,ah⟩
     ·have D:r=v:=by rw[U.out,Z1 E (by rw[Y.out];exact hv) hlt,Y.out]
      subst D
      have au:(r !=0)=true:=by simpa using hv
      clear hv;go_wp2_with fail;go_ret;exact⟨rfl,ah⟩
  ·obtain rfl:k=n:=by omega
   have D:r=0:=by rw[U.out];exact E
   subst D;go_wp2_with fail;go_ret;exact⟨rfl,V⟩
end Go.Proofs.YtjdcokpmgionjaaGreat
namespace Go.Proofs.YtjdcokpmgionjaaGreat
open Proofs.Tryz Go.RowKit Go.Shelf
def QZ (cats:List Cat):List (List Int):=cats.map (·.high)
theorem ZDa (cats:List Cat)(i:Nat){x:Cat}(h:cats[i]? = some x):(QZ cats).getD i []=x.high:=by
 unfold QZ;rw[J7,List.getElem?_map,h];rfl
structure OkCats (cats:List Cat):Prop where
 five:cats.length≤5
 inC:OkC (QZ cats)
 few:∀c∈cats,c.high.length≤5
structure ClAt (w:World) (B P G:Nat) (A:Option Addr) (n cap:Nat) (cats:List Cat) (m:List Int):Prop where
 sl:Sl UX 2 w (fun b=>b<B) A n cap cats
 st:Blk w P #[.slice A n cap,.slice (some ⟨G,0,none⟩) n n] 285
 row:RowI w G m 3
 len:m.length=n
theorem ClAt.set {w:World}{B P G:Nat}{A:Option Addr}{n cap:Nat}{cats:List Cat}{m:List Int}(h:ClAt w B P G A n cap cats m)(E:B≤G)(D:P≠G)(i:Nat)(v:Int) :
  ClAt (w.setCell ⟨G,i,none⟩ (.int .i64 v)) B P G A n cap cats (m.set i v):=
 ⟨h.sl.keep Ug (by omega) fun b F _=>⟨Below.heap_setCell _ _ _ _ (by simp;omega),F⟩,h.st.other (by simpa using D.symm) _,h.row.set _ _,by rw[List.length_set];exact h.len⟩
theorem UJb (B P G:Nat)(A:Option Addr)(n cap:Nat)(cats:List Cat)(ho:OkCats cats)(X:B≤G)(ak:P≠G) :
  ∀(z:Nat) (m:List Int) (i:Nat) (c:Int) (w:World),ClAt w B P G A n cap cats m→i<n→Zj m≤z→(∀x,0≤m.getD x 0)→(∀x,m.getD x 0≤c)→c+5*(1+(Zj m:Int))≤1000000000→
  Calls prog 241 #[.pointer (some ⟨P,0,none⟩),.int .i64 (i:Int)] w fun e w'=>e=.returned (.tuple #[])∧∃m',Cl (QZ cats) 5 i 5 ((QZ cats).getD i []) m m'∧ClAt w' B P G A n cap cats m'∧Below B w w':=by
 intro z
 induction z using Nat.strongRecOn with
 | _ z ih=>
  intro m i c w hA hi hz ap hc au;obtain⟨aa,ab,av,aq⟩:=hA;obtain⟨b,az,x,c0,c1,rfl,hx,⟨A2,F,aK,an,af,_⟩,g0,g1⟩:=aa.at2 hi;simp only[List.cons.injEq,and_true]at an;obtain⟨rfl,rfl⟩:=an;have p0:=ab.cell (j:=0) rfl;have p1:=ab.cell (j:=1) rfl;have aI:=ho.few x (J6 hx);have ar:=af.len
  have aM:F≤5:=by omega
  have hn:=aa.len;have Z:=ZDa cats i hx;have aA:=yh (show ClAt w B P G (some ⟨b,az,none⟩) n cap cats m from⟨aa,ab,av,aq⟩)
  have ao:∀(k:Nat) (y:Int),x.high[k]? = some y→0≤y∧y<n:=fun k y J=>by
   have:=ho.inC.getD (b:=i) (h:=y) (by rw[Z];exact J6 J)
   simpa [QZ,hn] using this
  rw[Z];have aE:=yh ao;clear ao;have ag:=yh ap;clear ap;have HC:=yh hc;clear hc;have HZ:=yh hz;clear hz;have ah:=yh au;clear au;have aF:=yh ar;clear ar;have aD:=yh Z;clear Z;have aG:=yh af;clear af;have IH:=yh ih;clear ih;have aJ:=yh hi;clear hi;clear aa ab av aq hx aI;go_enter func241,ntmps241;go_wp2_with fail
  go_loopg [15] F (fun gk iv wr=>∃(k:Nat) (D:List Int),k≤F∧F-k≤gk∧iv=.int .i64 k∧Cl (QZ cats) 5 i k (x.high.take k) m D∧ClAt wr B P G (some ⟨b,az,none⟩) n cap cats D∧Below B w wr)
  case atStart=>exact⟨0,m,M0 _,by omega,rfl,by rw[List.take_zero];exact Cl.refl _ _ _ _,aA,J4 _ _⟩
  case round=>
   obtain⟨k,D,hk,aL,rfl,I,E,Y⟩:=hrel;by_cases hlt:k<F
   ·obtain⟨b2,aP,y,d0,rfl,J,⟨hd,_⟩,e0⟩:=(aG.keep (w':=wr) (S':=All) Qd (by omega) (fun q hq _=>⟨Y.block q hq,trivial⟩)).at1 hlt;simp only[List.cons.injEq,and_true]at hd;obtain rfl:=hd;obtain⟨ax,aO⟩:=aE k y J;obtain⟨j,rfl⟩:=Int.eq_ofNat_of_zero_le ax
    have hj:j<n:=by omega
    have ae:j<D.length:=by rw[E.len];exact hj
    have q0:=E.st.cell (j:=0) rfl;have q1:=E.st.cell (j:=1) rfl;have r0:=E.row.cell ae;have f0:=E.row.free j;obtain⟨v,U⟩:=yE (D.getD j 0);rw[←U]at r0
    have v0:0≤v:=by rw[U];exact I.low ag j
    have v1:v≤1000000000:=by
     have h1:=I.bnd c HC j;have h2:=I.zer;have h3:=ah.out;rw[←U]at h1;omega
    have HT:=yh (Qo J)
    have aw:Up (QZ cats) i j:=by unfold Up;rw[aD.out];exact J6 J
    have aH:=yh aw;clear aw;have aR:=yh I;clear I;have V:=yh E;clear E;have O:=yh ae;clear ae;have Q:=yh U;clear U;clear J ax;by_cases h0:v=0
    ·subst h0;have ay:=Qha D j 1 O (by omega);rw[M3 (by rw[←Q.out];omega)]at ay
     have am:=IH (Zj (D.set j 1)) (by have:=HZ.out;have:=aR.zer;omega) (D.set j 1) j (c+(k+1)+5*((Zj m:Int)-Zj D)) _ (V.set X ak j 1) hj (J5 _)
      (fun q=>by rw[Q5a _ _ _ _ O.out];have:=aR.low ag q;split<;>omega)
      (fun q=>by
       rw[Q5a _ _ _ _ O.out];have h1:=aR.bnd c HC q;have h2:=aR.bnd c HC j;rw[←Q.out]at h2
       split<;>omega)
      (by have:=ah.out;have:=aR.zer;omega)
     have ad:=yh (Y.setCell (p:=⟨G,j,none⟩) X (.int .i64 1));have aC:=yh am;clear am;clear ay;go_wp2_with fail;refine aC.mono ?_;rintro e w2 ⟨rfl,m2,aj,ai,al⟩;have W:=yh (Cl.new aR j O Q.symm aH aj);have aB:=yh (ad.trans al);have ac:=yh ai;clear ai;clear aj al;go_wp2_with fail;go_roundg (F-(k+1))
     case measure=>omega
     case rel=>exact⟨k+1,m2,by omega,by omega,by go_num,by rw[HT.out];exact W,ac,aB⟩
    ·have aN:¬v+1=1:=by omega
     have hw:wrap64 (v+1)=v+1:=by unfold wrap64;omega
     have W:=yh (Cl.old aR j O (by rw[←Q.out];omega));rw[←Q.out]at W;have ac:=yh (V.set X ak j (v+1));have ad:=yh (Y.setCell (p:=⟨G,j,none⟩) X (.int .i64 (v+1)));go_wp2_with fail;go_roundg (F-(k+1))
     case measure=>omega
     case rel=>exact⟨k+1,_,by omega,by omega,by go_num,by rw[HT.out];exact W,ac,ad⟩
   ·obtain rfl:k=F:=by omega
    have aR:=yh (I.le (k':=5) (by omega));have V:=yh E;clear E;clear I;go_wp2_with fail;go_end0;rw[M1 (Nat.le_of_eq aF.out)]at aR;exact⟨rfl,D,aR,V,Y⟩
theorem Qac (W:World):(Instr.makeSlice 70 (.int .i64 0) (.int .i64 0)).run prog W=.ok (.slice (some ⟨W.heap.size,0,none⟩) 0 0) (W.alloc (.cells ((List.replicate 0 (0:Int)).map (Value.int .i64)).toArray 3)):=by kernel_rfl
theorem Qbc (W:World):(Instr.makeSlice 70 (.int .i64 1) (.int .i64 1)).run prog W=.ok (.slice (some ⟨W.heap.size,0,none⟩) 1 1) (W.alloc (.cells ((List.replicate 1 (0:Int)).map (Value.int .i64)).toArray 3)):=by kernel_rfl
theorem Qcc (W:World):(Instr.makeSlice 70 (.int .i64 2) (.int .i64 2)).run prog W=.ok (.slice (some ⟨W.heap.size,0,none⟩) 2 2) (W.alloc (.cells ((List.replicate 2 (0:Int)).map (Value.int .i64)).toArray 3)):=by kernel_rfl
theorem Qdc (W:World):(Instr.makeSlice 70 (.int .i64 3) (.int .i64 3)).run prog W=.ok (.slice (some ⟨W.heap.size,0,none⟩) 3 3) (W.alloc (.cells ((List.replicate 3 (0:Int)).map (Value.int .i64)).toArray 3)):=by kernel_rfl
theorem Qec (W:World):(Instr.makeSlice 70 (.int .i64 4) (.int .i64 4)).run prog W=.ok (.slice (some ⟨W.heap.size,0,none⟩) 4 4) (W.alloc (.cells ((List.replicate 4 (0:Int)).map (Value.int .i64)).toArray 3)):=by kernel_rfl
theorem Qfc (W:World):(Instr.makeSlice 70 (.int .i64 5) (.int .i64 5)).run prog W=.ok (.slice (some ⟨W.heap.size,0,none⟩) 5 5) (W.alloc (.cells ((List.replicate 5 (0:Int)).map (Value.int .i64)).toArray 3)):=by kernel_rfl
theorem XLb (n:Nat)(A:n≤5)(W:World):(Instr.makeSlice 70 (.int .i64 n) (.int .i64 n)).run prog W=.ok (.slice (some ⟨W.heap.size,0,none⟩) n n) (W.alloc (.cells ((List.replicate n (0:Int)).map (Value.int .i64)).toArray 3)):=by
 have h:n=0∨n=1∨n=2∨n=3∨n=4∨n=5:=by omega
 rcases h with rfl|rfl|rfl|rfl|rfl|rfl
 ·exact Qac W
 ·exact Qbc W
 ·exact Qcc W
 ·exact Qdc W
 ·exact Qec W
 ·exact Qfc W
theorem V7a (aa ab:Int)(A:Option Addr)(n cap:Nat)(cats:List Cat)(vc:Value)(i:Nat)(w:World)(h:Sl UX 2 w All A n cap cats)(Y:OkCats cats)(hi:i<n) :
  Calls prog 213 #[.agg #[.int .i64 aa,.int .i64 ab,.slice A n cap,vc],.int .i64 (i:Int)] w fun e w'=>∃(G:Nat) (m:List Int),e=.returned (.slice (some ⟨G,0,none⟩) n n)∧
   RowI w' G m 3∧m.length=n∧(∀x,0<m.getD x 0↔Srv (QZ cats) x i)∧(∀x,0≤m.getD x 0)∧yw w w':=by
 have h5:=Y.five;have X:=h.len
 have ag:n≤5:=by omega
 have ai:=fun W=>XLb n ag W;have ae:=yh (h.keep (w':=w) (S':=fun b=>b<w.heap.size) Ug (by omega) (fun b _ hb=>⟨rfl,hb⟩));have HL:=yh X;clear X;clear h;go_enter func213,ntmps213;go_upto_region 0 with(fail);go_cut [2,4] (fun p _ D=>∃g,yp p g∧Blk D g #[.int .i64 aa,.int .i64 ab,.slice A n cap,vc] 25∧yw w D)
 case first=>as_aux_lemma=>
  go_wp2_with fail;go_meet;exact⟨_,rfl,Zk _ _,Qi _ _⟩
 obtain⟨g,rfl,hB,hb⟩:=hcut;have q2:yJ wc g 2 A n cap:=hB.cell rfl;have ah:=yh (ae.keep (w':=wc) (S':=fun b=>b<w.heap.size) Ug (by omega) (fun b Z _=>⟨hb.block b Z,Z⟩));go_upto_region 1 with(fail);go_cut [5] (fun p D=>∃P G,yp p P∧w.heap.size≤P∧w.heap.size≤G∧P≠G∧ClAt D w.heap.size P G A n cap cats (List.replicate n 0)∧yw w D)
 case first=>as_aux_lemma=>
  go_region_held3 (fun w'=>w'.cell? ⟨g,2,none⟩=some (.slice A n cap)) (first|assumption|go_keep) (first|fail)
  all_goals
   go_wp2_with fail;go_meet
  all_goals
   have Q:=(Zo wc (.cells (Array.replicate n (Value.int IntKind.i64 0)) 3) (.cells #[Value.slice A n cap,Value.slice (some ⟨wc.heap.size,0,none⟩) n n] 285)).drew;refine⟨wc.heap.size+1,wc.heap.size,rfl,by have:=hb.size;omega,hb.size,by omega,⟨ah.out.below Ug (by omega) Q,QF _ _ _,?_,by simp⟩,hb.trans (Q.mono hb.size)⟩;unfold RowI;rw[show((List.replicate n (0:Int)).map (Value.int .i64)).toArray=Array.replicate n (.int .i64 0)by simp];exact QE _ _ _
 obtain⟨P,G,rfl,hP,hG,af,O,hb⟩:=hcut
 have E:∀x,(List.replicate n (0:Int)).getD x 0=0:=fun x=>by
  simp only[J7,List.getElem?_replicate];split<;>rfl
 have hz:Zj (List.replicate n (0:Int))≤n:=by
  have:=List.countP_le_length (p:=fun x=>decide (x≤0)) (l:=List.replicate n (0:Int));rw[List.length_replicate]at this;exact this
 have ak:=UJb w.heap.size P G A n cap cats Y hG af n (List.replicate n 0) i 0 _ O hi hz (fun x=>by rw[E];omega) (fun x=>by rw[E];omega) (by omega);have ad:=yh ak;clear ak;have HB:=yh hb;clear hb;have H0:=yh E;clear O hz E;go_wp2_with fail;refine ad.mono ?_;rintro e w2 ⟨rfl,m,V,F,U⟩;have q1:yJ w2 P 1 (some ⟨G,0,none⟩) n n:=F.st.cell rfl;have J:=yh V;clear V;have I:=yh F;clear F;have ac:=yh (HB.trans U);clear U;go_wp2_with fail;go_ret;exact⟨G,m,rfl,I.row,I.len,UAb J,J.low (fun x=>by rw[H0.out];omega),ac⟩
def Y0 (C:List (List Int)) (n:Nat):Bool:=(List.range n).any (fun x=>decide (Srv C x x))
theorem XEa (C:List (List Int))(n:Nat):Y0 C (n+1)=(Y0 C n || decide (Srv C n n)):=by
 unfold Y0;rw[List.range_succ,List.any_append];simp
theorem Vma {C:List (List Int)}{n k:Nat}(h:Srv C k k)(A:k<n):Y0 C n=true:=List.any_eq_true.2 ⟨k,List.mem_range.2 A,J2 h⟩
theorem Vmb {C:List (List Int)}(D:OkC C)(h:Y0 C C.length=false)(x:Nat):¬Srv C x x:=fun A=>by
 rw[Vma A (A.lt D).1]at h;exact absurd h (by simp)
theorem Vpb (I J:Int)(A:Option Addr)(n cap:Nat)(cats:List Cat)(O:Value)(w:World)(h:Sl UX 2 w All A n cap cats)(ho:OkCats cats) :
  Calls prog 161 #[.agg #[.int .i64 I,.int .i64 J,.slice A n cap,O]] w fun e w'=>e=.returned (.bool (Y0 (QZ cats) n))∧yw w w':=by
 have h5:=ho.five;have hl:=h.len
 have al:n≤5:=by omega
 have Z:=fun i W h hi=>V7a I J A n cap cats O i W h ho hi;have af:=yh Z;clear Z;have HL:=yh hl;clear hl;have ah:=yh h;clear h;obtain⟨r,hr⟩:=yE (Y0 (QZ cats) n);rw[←hr];have HR:=yh hr;clear hr;go_enter func161,ntmps161;go_upto_region 0 with(fail);go_cut [1] (fun p wx=>∃g,yp p g∧Blk wx g #[.int .i64 I,.int .i64 J,.slice A n cap,O] 25∧yw w wx)
 case first=>as_aux_lemma=>
  go_wp2_with fail;go_meet;exact⟨_,rfl,Zk _ _,Qi _ _⟩
 obtain⟨g,rfl,Y,D⟩:=hcut;have q2:yJ wc g 2 A n cap:=Y.cell rfl;go_wp2_with fail
 go_loopg [7] n (fun gk i wr=>∃k:Nat,k≤n∧n-k≤gk∧i=.int .i64 k∧Aside (Y0 (QZ cats) k=false)∧yw wc wr)
 case atStart=>exact⟨0,M0 _,by omega,rfl,rfl,J4 _ _⟩
 case round=>
  obtain⟨k,hk,aj,rfl,V,E⟩:=hrel;by_cases hlt:k<n
  ·have F:=Y.bel E;have c0:yI wr g 0 I:=F.cell rfl;have c1:yI wr g 1 J:=F.cell rfl;have c2:yJ wr g 2 A n cap:=F.cell rfl;have c3:wr.cell? ⟨g,3,none⟩=some O:=F.cell rfl;have ac:=af k wr (ah.bel (D.trans (E.mono D.size))) hlt;have ag:=yh ac;clear ac;go_wp2_with fail;refine ag.mono ?_;rintro e w2 ⟨G,m,rfl,ad,ak,ae,ai,aa⟩;have e0:=ad.cell (i:=k) (by omega);obtain⟨v,U⟩:=yE (m.getD k 0);rw[←U]at e0;have Q:=ae k;rw[←U]at Q;have ab:=E.trans (aa.mono E.size);have X:=yh Q;clear Q;clear ae ai ad aa U;by_cases h0:0<v
   ·have hr:r=true:=by rw[HR.out];exact Vma (X.1 h0) hlt
    subst hr;go_wp2_with fail;go_ret;exact⟨rfl,D.trans (ab.mono D.size)⟩
   ·have HN:=yh (show Y0 (QZ cats) (k+1)=false by rw[XEa,show Y0 (QZ cats) k=false from V,J3 (fun h=>h0 (X.out.2 h))];rfl);go_wp2_with fail;go_roundg (n-(k+1))
    case measure=>omega
    case rel=>exact⟨k+1,by omega,by omega,by go_num,HN,ab⟩
  ·obtain rfl:k=n:=by omega
   have hr:r=false:=by rw[HR.out];exact V
   subst hr;go_wp2_with fail;go_ret;exact⟨rfl,D.trans (E.mono D.size)⟩
def QDa (n:Int) (x:Cab):Int:=if Qc x.cat 0 (n-1)=false∨Qc x.ber 1 4=false then 3 else 0
def Qw (cats:List Cat):List (List UInt8):=cats.map (·.name)
def Qv (cabs:List Cab):List (List UInt8):=cabs.map (·.name)
def XN (cats:List Cat) (k:Nat):Int:=Qn (UQ cats.length (cats.getD k default).high) (cats.getD k default).high.length
def Z9 (x:Shp):Int:=
 if Qc x.legs 1 7=false∨Qc x.souls 1 60=false then 3 else
 if 5<x.cats.length∨12<x.cabs.length then 2 else
 if x.cats.length=0∨x.cabs.length=0 then 5 else
 if Qn (nmE (Qw x.cats) (XN x.cats)) x.cats.length≠0 then Qn (nmE (Qw x.cats) (XN x.cats)) x.cats.length else
 if Y0 (QZ x.cats) x.cats.length=true then 4 else
 Qn (nmE (Qv x.cabs) (fun k=>QDa x.cats.length (x.cabs.getD k default))) x.cabs.length
def ShpAt (w:World) (g:Nat) (legs souls:Int) (A:Option Addr) (n cap:Nat) (B:Option Addr) (m cap2:Nat):Prop:=
 Blk w g #[.int .i64 legs,.int .i64 souls,.slice A n cap,.slice B m cap2] 25
theorem ShpAt.bel {w w':World}{g:Nat}{D E:Int}{A:Option Addr}{n cap:Nat}{B:Option Addr}{m I:Nat}(h:ShpAt w g D E A n cap B m I)(F:yw w w'):ShpAt w' g D E A n cap B m I:=Blk.bel h F
theorem ShpAt.all {w:World}{g:Nat}{D E:Int}{A:Option Addr}{n cap:Nat}{B:Option Addr}{m F:Nat}(h:ShpAt w g D E A n cap B m F) :
  yI w g 0 D∧yI w g 1 E∧yJ w g 2 A n cap∧yJ w g 3 B m F:=
 ⟨Blk.cell h rfl,Blk.cell h rfl,Blk.cell h rfl,Blk.cell h rfl⟩
theorem UGb (V Y:Int)(A:Option Addr)(n cap:Nat)(Z:Value)(x:Cab)(w:World)(hn:n≤1000000000)(h1:InI x.cat)(h2:InI x.ber) :
  Calls prog 163 #[.agg #[.int .i64 V,.int .i64 Y,.slice A n cap,Z],.agg #[Zf x.name,.int .i64 x.cat,.int .i64 x.ber,.bool x.lev]] w fun e w'=>e=.returned (.int .i64 (QDa n x))∧yw w w':=by
 obtain⟨X,E,D,lv⟩:=x;simp only at h1 h2 ⊢;obtain⟨r,hr⟩:=yE (QDa n ⟨X,E,D,lv⟩);rw[←hr];have J:=yh (show r=if Qc E 0 ((n:Int)-1)=false∨Qc D 1 4=false then 3 else 0 from hr);clear hr;have F:=fun W=>U8 E 0 ((n:Int)-1) W;have I:=fun W=>U8 D 1 4 W;go_enter func163,ntmps163;go_upto_region 0 with(fail);go_cut [2,3,4] (fun p q _ U=>∃g k,yp p g∧yp q k∧Blk U g #[.int .i64 V,.int .i64 Y,.slice A n cap,Z] 25∧Blk U k #[Zf X,.int .i64 E,.int .i64 D,.bool lv] 136∧yw w U)
 case first=>as_aux_lemma=>
  go_wp2_with fail;go_meet;exact⟨_,_,rfl,rfl,QE _ _ _,QF _ _ _,Zo _ _ _⟩
 obtain⟨g,k,rfl,rfl,hG,hK,O⟩:=hcut;have g2:yJ wc g 2 A n cap:=hG.cell rfl;have k1:yI wc k 1 E:=hK.cell rfl;have k2:yI wc k 2 D:=hK.cell rfl;cases b1:Qc E 0 ((n:Int)-1)
 ·have hr:r=3:=by rw[J.out,M3 (.inl b1)]
  subst hr;rw[b1]at F;clear b1;go_wp2_with fail;refine(F _).mono ?_;rintro e Q ⟨rfl,rfl⟩;go_wp2_with fail;go_ret;exact⟨rfl,O⟩
 ·rw[b1]at F;cases b2:Qc D 1 4
  ·have hr:r=3:=by rw[J.out,M3 (.inr b2)]
   subst hr;rw[b2]at I;clear b1 b2;go_wp2_with fail;refine(F _).mono ?_;rintro e Q ⟨rfl,rfl⟩;go_wp2_with fail;refine(I _).mono ?_;rintro e Q ⟨rfl,rfl⟩;go_wp2_with fail;go_ret;exact⟨rfl,O⟩
  ·have hr:r=0:=by rw[J.out,M2 (by rw[b1,b2];simp)]
   subst hr;rw[b2]at I;clear b1 b2;go_wp2_with fail;refine(F _).mono ?_;rintro e Q ⟨rfl,rfl⟩;go_wp2_with fail;refine yN (I _) ?_;go_wp2_with fail;go_ret;exact⟨rfl,O⟩
theorem Qtb (ad ae:Int)(A:Option Addr)(n cap:Nat)(cats:List Cat)(B:Option Addr)(m ac:Nat)(g h k:Nat)(F:Option Addr)(I:Nat)(w:World)(D:Sl UX 2 w All A n cap cats)
  (V:ShpAt w g ad ae A n cap B m ac) (hh:yJ w h 0 F n I) (hk:k<n) (hn:n≤1000000) :
  Calls prog 159 #[.int .i64 (k:Int),.pointer (some ⟨g,0,none⟩),.pointer (some ⟨h,0,none⟩)] w fun e w'=>e=.returned (.int .i64 (XN cats k))∧yw w w':=by
 obtain⟨b,aa,x,c0,c1,rfl,Y,⟨E,Z,J,U,X,_⟩,e0,e1⟩:=D.at2 hk;simp only[List.cons.injEq,and_true]at U;obtain⟨rfl,rfl⟩:=U
 have Q:XN cats k=Qn (UQ n x.high) x.high.length:=by unfold XN;rw[VW Y,D.len]
 rw[Q];have ah:=fun W hW=>Q1b E Z J x.high n W (X.all Qd (by omega) |>.bel (w':=W) hW) (by omega) (by omega);obtain⟨r,hr⟩:=yE (Qn (UQ n x.high) x.high.length);rw[←hr]at ah ⊢;have ab:=yh ah;obtain⟨g0,g1,g2,g3⟩:=V.all
 have af:(k:Int)<n:=by omega
 clear ah hr Q D X Y V;go_enter func159,ntmps159;go_upto_region 1 with(fail);have O:=(J4 w.heap.size w).drew
 go_region_held3 (fun w'=>w'.cell? ⟨g,2,none⟩=some (.slice (some ⟨b,aa,none⟩) n cap)∧w'.cell? ⟨b,aa+k*2+1,none⟩=some (.slice E Z J)∧w'.cell? ⟨h,0,none⟩=some (.slice F n I)) (first|exact⟨g2,e1,hh⟩|go_keep)
  (first|(go_at_call 160;refine yN (ab _ O) ?_))
 all_goals go_wp2_with fail
 all_goals go_ret
 all_goals exact⟨rfl,O⟩
theorem Qub (O Q:Int)(A:Option Addr)(n cap:Nat)(U:List Cab)(B:Option Addr)(m I:Nat)(g k:Nat)(w:World)(Z:Sl Ut 4 w All B m I U)
  (hg:ShpAt w g O Q A n cap B m I) (hk:k<m) (hn:n≤1000000) :
  Calls prog 162 #[.int .i64 (k:Int),.pointer (some ⟨g,0,none⟩)] w fun e w'=>e=.returned (.int .i64 (QDa n (U.getD k default)))∧yw w w':=by
 obtain⟨b,E,x,c0,c1,c2,c3,rfl,hx,⟨af,_,i1,i2⟩,e0,e1,e2,e3⟩:=Z.at4 hk;simp only[List.cons.injEq,and_true]at af;obtain⟨rfl,rfl,rfl,rfl⟩:=af;rw[VW hx];have J:=fun W=>UGb O Q A n cap (.slice (some ⟨b,E,none⟩) m I) x W (by omega) i1 i2;obtain⟨r,Y⟩:=yE (QDa n x);rw[←Y]at J ⊢;have aa:=yh J;obtain⟨g0,g1,g2,g3⟩:=hg.all
 have ad:(k:Int)<m:=by omega
 have D:∀{X:World} {p q:Nat} {v:Value},yw w X→w.cell? ⟨p,q,none⟩=some v→X.cell? ⟨p,q,none⟩=some v:=fun hX V=>(World.cell?_of_block (a:=⟨_,_,none⟩) (hX.block _ (ZT V))).trans V;have ab:=yh (fun X (hX:yw w X)=>And.intro (D hX g0) (And.intro (D hX g1) (And.intro (D hX g2) (And.intro (D hX g3) (And.intro (D hX e0) (And.intro (D hX e1) (And.intro (D hX e2) (D hX e3))))))));clear J Y Z hx hg D;go_enter func162,ntmps162;go_upto_region 1 with(fail);have F:=(J4 w.heap.size w).drew
 go_region_held3 (fun w'=>w'.cell? ⟨g,0,none⟩=some (.int .i64 O)∧w'.cell? ⟨g,1,none⟩=some (.int .i64 Q)∧w'.cell? ⟨g,2,none⟩=some (.slice A n cap)∧w'.cell? ⟨g,3,none⟩=some (.slice (some ⟨b,E,none⟩) m I)∧w'.cell? ⟨b,E+k*4,none⟩=some (Zf x.name)∧w'.cell? ⟨b,E+k*4+1,none⟩=some (.int .i64 x.cat)∧w'.cell? ⟨b,E+k*4+2,none⟩=some (.int .i64 x.ber)∧w'.cell? ⟨b,E+k*4+3,none⟩=some (.bool x.lev)) (first|exact ab _ F|go_keep)
  (first|(go_at_call 163;refine yM (aa _) fun wq ac=>?_;replace F:=F.trans (ac.mono F.size)))
 all_goals go_wp2_with fail
 all_goals go_ret
 all_goals exact⟨rfl,F⟩
theorem YYa:∀(n:Nat) (l:List Int),l.Nodup→(∀x∈l,0≤x∧x<n)→l.length≤n
 | 0,[],_,_=>J5 _
 | 0,x::l,_,h=>by have:=h x (by simp);omega
 | n+1,l,hn,h=>by
  have D:=YYa n (l.erase (n:Int)) (hn.erase _) (fun x A=>by
   have E:=h x (List.mem_of_mem_erase A)
   have F:x≠(n:Int):=(List.Nodup.mem_erase_iff hn).1 A |>.1
   omega)
  have I:l.length≤(l.erase (n:Int)).length+1:=by rw[List.length_erase];split<;>omega
  omega
theorem YYb {n:Int}{l:List Int}(h:Qn (UQ n l) l.length=0):(∀x∈l,0≤x∧x<n)∧(l.length:Int)≤max n 0:=by
 have A:∀k (A:k<l.length),(0≤l[k]∧l[k]<n)∧l[k]∉l.take k:=fun k A=>by
  have:=U4 h k A;unfold UQ at this;rw[Un A]at this;by_cases h1:Qc l[k] 0 (n-1)=false
  ·rw[M3 h1]at this;omega
  ·rw[M2 h1]at this;have Q:=Ql.1 (by simpa using h1);by_cases h3:(l.take k).contains l[k]=true
   ·rw[M3 h3]at this;omega
   ·exact⟨by omega,by simpa using h3⟩
 have E:∀x∈l,0≤x∧x<n:=fun x D=>by
  obtain⟨k,J,rfl⟩:=List.getElem_of_mem D;exact(A k J).1
 refine⟨E,?_⟩
 have O:l.Nodup:=by
  unfold List.Nodup;rw[List.pairwise_iff_getElem];intro i j U I V F;exact(A j I).2 (by rw[←F];exact List.mem_take_iff_getElem.2 ⟨i,by omega,rfl⟩)
 have:=YYa n.toNat l O (fun x D=>by have:=E x D;omega);omega
theorem ZIa {cats:List Cat}{nms:List (List UInt8)}(I:cats.length≤5)(h:Qn (nmE nms (XN cats)) cats.length=0):OkCats cats:=by
 have A:∀c∈cats,(∀x∈c.high,0≤x∧x<cats.length)∧(c.high.length:Int)≤max (cats.length:Int) 0:=fun c A=>by
  obtain⟨k,E,rfl⟩:=List.getElem_of_mem A;have:=U4 h k E;unfold nmE at this;by_cases h1:VI (nms.getD k [])=false
  ·rw[M3 h1]at this;omega
  ·rw[M2 h1]at this;by_cases h2:(nms.take k).contains (nms.getD k [])=true
   ·rw[M3 h2]at this;omega
   ·rw[M2 h2]at this;unfold XN at this;rw[Un E]at this;exact YYb this
 refine⟨I,fun l F x J=>?_,fun c D=>by have:=(A c D).2;omega⟩;unfold QZ at F;obtain⟨c,D,rfl⟩:=List.mem_map.1 F;have:=(A c D).1 x J
 simpa [QZ] using this
theorem Qlb:ElemOf prog 211 9 1 16:=.mk' underlying211 (z:=Zf []) (by kernel_rfl) rfl (by omega)
theorem Ydb (w:World)(S:Nat→Prop)(x:List UInt8)(t:TypeId)(D:x.length≤maxLen)(A:S w.heap.size):Sl VZa 1 (w.alloc (.cells #[Zf x] t)) S (some ⟨w.heap.size,0,none⟩) 1 1 [x]:=
 Sl.lit1 w S t x [Zf x] ⟨rfl,D⟩ A
theorem Blk.grown {w w':World}{b:Nat}{cs:Array Value}{t:TypeId}{row:Option Nat}(h:Blk w b cs t)(A:w.grownBy w' row)(D:some b≠row):Blk w' b cs t:=(A.block b h.lt D).trans h
theorem VVa (x:Shp)(A:Option Addr)(n cap:Nat)(B:Option Addr)(m Z:Nat)(w:World)(U:Sl UX 2 w All A n cap x.cats)(hb:Sl Ut 4 w All B m Z x.cabs) :
  Calls prog 77 #[.agg #[.int .i64 x.legs,.int .i64 x.souls,.slice A n cap,.slice B m Z]] w fun e w'=>e=.returned (.int .i64 (Z9 x))∧yw w w':=by
 obtain⟨bB,Y,cats,J⟩:=x;simp only at U hb ⊢;have ac:=U.len;have an:=hb.len;obtain⟨r,D⟩:=yE (Z9 ⟨bB,Y,cats,J⟩);rw[←D];have HR:=yh D;clear D;have aw:=yh ac;clear ac;have aI:=yh an;clear an;have HC:=yh U;clear U;have aT:=yh hb;clear hb;go_enter func77,ntmps77;go_upto_region 0 with(fail);go_cut [1,2] (fun p _ E=>∃g,yp p g∧ShpAt E g bB Y A n cap B m Z∧yw w E)
 case first=>as_aux_lemma=>
  go_wp2_with fail;go_meet;exact⟨_,rfl,Zk _ _,Qi _ _⟩
 obtain⟨g,rfl,hG,hb⟩:=hcut;obtain⟨g0,g1,g2,g3⟩:=hG.all;have ai:=fun W=>U3a bB W;have au:=fun W=>U8 Y 1 60 W;unfold X7 at ai;cases b1:Qc bB 1 7
 ·have D:r=3:=by rw[HR.out];unfold Z9;rw[M3 (.inl b1)]
  subst D;rw[b1]at ai;clear b1;go_wp2_with fail;refine(ai _).mono ?_;rintro e w9 ⟨rfl,rfl⟩;go_wp2_with fail;go_ret;exact⟨rfl,hb⟩
 have a9:=yh b1;rw[b1]at ai;clear b1;go_wp2_with fail;refine(ai _).mono ?_;rintro e w9 ⟨rfl,rfl⟩;clear ai;cases b2:Qc Y 1 60
 ·have D:r=3:=by rw[HR.out];unfold Z9;rw[M3 (.inr b2)]
  subst D;rw[b2]at au;clear b2;go_wp2_with fail;refine(au _).mono ?_;rintro e w9 ⟨rfl,rfl⟩;go_wp2_with fail;go_ret;exact⟨rfl,hb⟩
 have ap:=HR.out;unfold Z9 at ap;rw[M2 (by rw[a9.out,b2];simp)]at ap;simp only[aw.out,aI.out]at ap;have ay:=yh ap;clear ap;rw[b2]at au;clear b2;go_wp2_with fail;refine yN (au _) ?_;clear au;by_cases h0:5<n
 ·have D:r=2:=by rw[ay.out,M3 (.inl h0)]
  subst D;go_wp2_with fail;go_ret;exact⟨rfl,hb⟩
 by_cases h1:12<m
 ·have D:r=2:=by rw[ay.out,M3 (.inr h1)]
  subst D;go_wp2_with fail;go_ret;exact⟨rfl,hb⟩
 have az:=yh (ay.trans (M2 (by omega)));by_cases h2:n=0
 ·have D:r=5:=by rw[az.out,M3 (.inl h2)]
  subst D;subst h2;go_wp2_with fail;go_ret;exact⟨rfl,hb⟩
 by_cases h3:m=0
 ·have D:r=5:=by rw[az.out,M3 (.inr h3)]
  subst D;subst h3;go_wp2_with fail;go_ret;exact⟨rfl,hb⟩
 have aW:=yh (az.trans (M2 (by omega)));have d1:decide ((5:Int)<(n:Int))=false:=J3 (by omega);have d2:decide ((12:Int)<(m:Int))=false:=J3 (by omega)
 have d3:((n:Int)==0)=false:=by simpa using h2
 have d4:((m:Int)==0)=false:=by simpa using h3
 go_upto_region 7 with(fail);go_cut [3,4] (fun p v E=>∃h,yp p h∧v=.slice none 0 0∧g<h∧w.heap.size≤h∧Blk E h #[.slice none 0 0] 211∧ShpAt E g bB Y A n cap B m Z∧yw w E)
 case first=>as_aux_lemma=>
  go_wp2_with fail;go_meet;exact⟨_,rfl,rfl,hG.lt,hb.size,Zk _ _,hG.bel (Qi _ _),hb.trans ((Qi _ _).mono hb.size)⟩
 obtain⟨h,rfl,rfl,bj,bp,hH,aA,a3⟩:=hcut;clear hG hb g0 g1 g2 g3 d1 d2 d3 d4;obtain⟨g0,g1,g2,g3⟩:=aA.all;have ac:=aw.out;have HH:=yh hH;have HG:=yh aA;have aE:=yh a3;have bl:=Blk.lt aA;have bn:=Blk.lt hH;obtain⟨W1,rfl⟩:=yE wc;obtain⟨BS,a2⟩:=yE W1.heap.size;clear hH aA a3
 have bm:h<BS:=by omega
 have aJ:=yh a2;clear a2;go_upto_block 1 with(fail);go_cut [46] (fun _ E=>∃(v:Value) (xs:List Value),Blk E h #[v] 211∧Own VZa 1 9 E BS v (Qw cats) xs∧Below h W1 E)
 case first=>as_aux_lemma=>
  go_wp2_with fail
  go_loopg [46] n (fun gk i wr=>∃(k:Nat) (v:Value) (xs:List Value),k≤n∧n-k≤gk∧i=.int .i64 k∧Blk wr h #[v] 211∧Own VZa 1 9 wr BS v ((Qw cats).take k) xs∧Below h W1 wr)
  case atStart=>exact⟨0,_,[],M0 _,by omega,rfl,HH,by rw[List.take_zero];exact Own.nil _ _ _ _ _,J4 _ _⟩
  case round=>
   obtain⟨k,v,xs,hk,bk,rfl,aa,F,hb⟩:=hrel;by_cases hlt:k<n
   ·obtain⟨b,bs,x,c0,c1,rfl,hx,⟨A2,n2,bi,ao,bo,av⟩,e0,e1⟩:=(HC.keep (w':=wr) (S':=All) Ug (by omega) (fun q _ V=>⟨(hb.block q (by omega)).trans (aE.block q V),trivial⟩)).at2 hlt;simp only[List.cons.injEq,and_true]at ao;obtain⟨rfl,rfl⟩:=ao;have HT:=yh (show(Qw cats).take (k+1)=(Qw cats).take k++[x.name]from Qo (by unfold Qw;rw[List.getElem?_map,hx];rfl));have HL:=yh (show((Qw cats).take k).length=k by rw[J8];unfold Qw;rw[List.length_map];omega);have aM:=yh av;have bw:=aa.lt;have bq:=yh hb.size
    have br:BS≤wr.heap.size:=by have:=aJ.out;have:=bq.out;omega
    have aH:=yh aa;have ab:=yh F;clear hx bo av aa F;go_upto_region 10 with(fail);go_cut [6] (fun p E=>∃q,yp p q∧Blk E q #[Zf x.name,.slice A2 n2 bi] 134∧yw wr E)
    case first=>as_aux_lemma=>
     go_wp2_with fail;go_meet;exact⟨_,rfl,Zk _ _,Qi _ _⟩
    obtain⟨q,rfl,V,bA⟩:=hcut;have al:=hb.trans (bA.mono (by omega));have I:=al.alloc (by have:=bA.size;omega) (.cells #[Zf x.name] 9);have q0:wc.cell? ⟨q,0,none⟩=some (Zf x.name):=V.cell rfl;have aO:=aH.bel bA;have h0:wc.cell? ⟨h,0,none⟩=some v:=aO.cell rfl;have ak:=(ab.bel bA).bel (Qi wc (.cells #[Zf x.name] 9));have a6:=aO.bel (Qi wc (.cells #[Zf x.name] 9))
    have ar:BS≤(wc.alloc (.cells #[Zf x.name] 9)).heap.size:=by have:=aJ.out;have:=I.size;omega
    have ae:=yh ak;have aF:=yh I;have ba:=yh a6;clear hb bA al I aO ak a6 V;go_wp2_with (at_builtin;refine QC (t:=211) (e:=9) (bytes:=16) rfl (.tmp 50) (.tmp 53) rfl Qlb Uj rfl ae rfl (Ydb _ All x.name 9 aM trivial) (fun _ _ U=>U) (by rw[HL.out];omega) (by omega) ar ?_;intro v' w' aS ad ah _;obtain⟨A5,n5,c5,rfl,_⟩:=ad.sl Uj;have aB:=ba.grown ah (fun e=>by have:=(ae.lt h e.symm).1;omega);have bu:w'.cell? ⟨h,0,none⟩=some v:=aB.cell rfl;have bv:=aB.free 0;have aG:=yh (aF.grown ah (Nat.le_trans (by omega) ar) (fun j hj=>by have:=(ae.lt j hj).1;omega));have bb:=yh aB;have ax:=yh ad;clear ah aB ad);go_roundg (n-(k+1))
    case measure=>omega
    case rel=>exact⟨k+1,_,aS,by omega,by omega,by go_num,bb.set _,by rw[HT.out];exact ZM XGa ax (fun e=>by have:=(ax.lt h e).1;omega) _,aG.setCell (J5 _) _⟩
   ·obtain rfl:k=n:=by omega
    have HT:=yh (show(Qw cats).take k=Qw cats from M1 (by unfold Qw;rw[List.length_map];omega));rw[HT.out]at F;have aH:=yh aa;have ab:=yh F;have HB:=yh hb;clear aa F hb;go_wp2_with fail;go_meet;exact⟨v,xs,aH,ab,HB⟩
 obtain⟨v,xs,aa,F,hb⟩:=hcut;obtain⟨A3,O,c3,rfl,aQ⟩:=F.sl Uj
 obtain rfl:O=n:=by rw[←aQ.len];unfold Qw;rw[List.length_map];exact aw
 have a0:=yh (aQ.all Uj (by omega));have aj:=yh (aE.trans (hb.mono bp));have aK:=yh (show ShpAt wc g bB Y A O cap B m Z from(hb.block g bj).trans HG);have aU:=yh aa;obtain⟨W2,rfl⟩:=yE wc;clear F aQ aa hb HG HH aE g0 g1 g2 g3 bl bn aJ bm;obtain⟨g0,g1,g2,g3⟩:=aK.all;have an:=aI.out;go_upto_block 3 with(fail);go_cut [4,59] (fun v _ E=>∃(xs:List Value),Own VZa 1 9 E W2.heap.size v (Qv J) xs∧yw W2 E)
 case first=>as_aux_lemma=>
  go_wp2_with fail
  go_loopg [4,59] m (fun gk v i wr=>∃(k:Nat) (xs:List Value),k≤m∧m-k≤gk∧i=.int .i64 k∧Own VZa 1 9 wr W2.heap.size v ((Qv J).take k) xs∧yw W2 wr)
  case atStart=>exact⟨0,[],M0 _,by omega,rfl,by rw[List.take_zero];exact Own.nil _ _ _ _ _,J4 _ _⟩
  case round=>
   obtain⟨k,xs,hk,bk,rfl,F,hb⟩:=hrel;by_cases hlt:k<m
   ·obtain⟨b,bs,x,c0,c1,c2,bt,rfl,hx,⟨ao,av,_,_⟩,e0,e1,e2,e3⟩:=(aT.bel (aj.trans (hb.mono aj.size))).at4 hlt;simp only[List.cons.injEq,and_true]at ao;obtain⟨rfl,rfl,rfl,rfl⟩:=ao;have HT:=yh (show(Qv J).take (k+1)=(Qv J).take k++[x.name]from Qo (by unfold Qv;rw[List.getElem?_map,hx];rfl));have HL:=yh (show((Qv J).take k).length=k by rw[J8];unfold Qv;rw[List.length_map];omega);have aM:=yh av;have ab:=yh F;obtain⟨A5,n5,c5,rfl,_⟩:=F.sl Uj;have br:=hb.size;clear hx av F;go_upto_region 15 with(fail);go_cut [8] (fun p E=>∃q,yp p q∧Blk E q #[Zf x.name,.int .i64 x.cat,.int .i64 x.ber,.bool x.lev] 136∧yw wr E)
    case first=>as_aux_lemma=>
     go_wp2_with fail;go_meet;exact⟨_,rfl,Zk _ _,Qi _ _⟩
    obtain⟨q,rfl,V,bA⟩:=hcut;have al:=hb.trans (bA.mono (by omega));have I:=al.alloc (by have:=bA.size;omega) (.cells #[Zf x.name] 9);have q0:wc.cell? ⟨q,0,none⟩=some (Zf x.name):=V.cell rfl;have ak:=(ab.bel bA).bel (Qi wc (.cells #[Zf x.name] 9));have ar:W2.heap.size≤(wc.alloc (.cells #[Zf x.name] 9)).heap.size:=I.size;have ae:=yh ak;have aF:=yh I;clear hb bA al I ak V;go_wp2_with (at_builtin;refine QC (t:=211) (e:=9) (bytes:=16) rfl (.tmp 63) (.tmp 66) rfl Qlb Uj rfl ae rfl (Ydb _ All x.name 9 aM trivial) (fun _ _ U=>U) (by rw[HL.out];omega) (by omega) ar ?_;intro v' w' aS ad ah _;obtain⟨A6,n6,c6,rfl,_⟩:=ad.sl Uj;have aG:=yh (aF.grown ah ar (fun j hj=>(ae.lt j hj).1));have ax:=yh ad;clear ah ad);go_roundg (m-(k+1))
    case measure=>omega
    case rel=>exact⟨k+1,aS,by omega,by omega,by go_num,by rw[HT.out];exact ax,aG⟩
   ·obtain rfl:k=m:=by omega
    have HT:=yh (show(Qv J).take k=Qv J from M1 (by unfold Qv;rw[List.length_map];omega));rw[HT.out]at F;have ab:=yh F;have HB:=yh hb;clear F hb;go_wp2_with fail;go_meet;exact⟨xs,ab,HB⟩
 obtain⟨xs,F,hb⟩:=hcut;obtain⟨A4,n4,c4,rfl,aR⟩:=F.sl Uj
 obtain rfl:n4=m:=by rw[←aR.len];unfold Qv;rw[List.length_map];exact aI
 have Q:=yh (aj.trans (hb.mono aj.size));have bg:=yh (aR.all Uj (by omega));have aL:=yh (aK.bel hb);have bh:=yh (a0.bel hb);have aN:=aU.bel hb;have a1:yJ wc h 0 A3 O c3:=aN.cell rfl;have aV:=yh aN;have ac:=aw.out;clear F aR hb aN aj a0 aK aU g0 g1 g2 g3;obtain⟨W3,rfl⟩:=yE wc;have mv:∀{X:World} {p q:Nat} {v:Value},yw W3 X→W3.cell? ⟨p,q,none⟩=some v→X.cell? ⟨p,q,none⟩=some v:=fun hX U=>(World.cell?_of_block (a:=⟨_,_,none⟩) (hX.block _ (ZT U))).trans U
 have aC:=Xta A3 O c3 (Qw cats) 159 #[.pointer (some ⟨g,0,none⟩),.pointer (some ⟨h,0,none⟩)] (XN cats) W3 bh (enters_of func159 (by kernel_rfl) rfl)
  (fun k w1 hk ag=>by simpa using Qtb bB Y A O cap cats B n4 Z g h k A3 c3 w1 (HC.bel (Q.trans (ag.mono Q.size))) (aL.bel ag) (mv ag (aV.cell rfl)) hk (by omega))
 have aD:=fun W (hX:yw W3 W)=>Xta A4 n4 c4 (Qv J) 162 #[.pointer (some ⟨g,0,none⟩)] (fun k=>QDa O (J.getD k default)) W (bg.bel hX) (enters_of func162 (by kernel_rfl) rfl)
  (fun k w1 hk ag=>by simpa using Qub bB Y A O cap J B n4 Z g k w1 ((aT.bel (Q.trans (hX.mono Q.size))).bel ag) ((aL.bel hX).bel ag) hk (by omega))
 rw[show(Qw cats).length=O by unfold Qw;rw[List.length_map];exact ac]at aC;rw[show(Qv J).length=n4 by unfold Qv;rw[List.length_map];exact an]at aD;obtain⟨e1,aP⟩:=yE (Qn (nmE (Qw cats) (XN cats)) O);obtain⟨e2,a7⟩:=yE (Qn (nmE (Qv J) (fun k=>QDa O (J.getD k default))) n4);obtain⟨q,V⟩:=yE (Y0 (QZ cats) O);have aq:=aW.out;rw[←aP]at aC aq;rw[←a7]at aD aq;rw[←V]at aq;have be:=yh (fun(h0:e1=0)=>ZIa (cats:=cats) (nms:=Qw cats) (by omega) (by rw[ac,←aP];exact h0));have aZ:=yh (fun W hW ho=>Vpb bB Y A O cap cats (.slice B n4 Z) W hW ho);rw[←V]at aZ;have bc:=yh aC;clear aC;have bd:=yh aD;clear aD;have aX:=yh aq;clear aq;clear HR ay az aW aP a7 V mv ac an h0 h1 h2 h3 a1;have a1:yJ W3 h 0 A3 O c3:=aV.cell rfl;go_wp2_with fail;refine yM bc fun w5 I=>?_;by_cases hz:e1=0
 ·subst hz;obtain⟨g0,g1,g2,g3⟩:=(aL.bel I).all;have a8:=aZ w5 (HC.bel (Q.trans (I.mono Q.size))) (be rfl);have bf:=yh a8;clear a8;have aY:=yh (show r=if q=true then 4 else e2 from aX.trans (M2 (by simp)));go_wp2_with fail;refine yM bf fun w6 a4=>?_;have af:=I.trans (a4.mono I.size);clear g0 g1 g2 g3 I a4;cases q
  ·have D:r=e2:=aY.out;subst D;go_wp2_with fail;refine yM (bd _ af) fun w8 a5=>?_;have am:=yh (Q.trans ((af.trans (a5.mono af.size)).mono Q.size));clear a5 af;go_wp2_with fail;go_ret;exact⟨rfl,am.out⟩
  ·have D:r=4:=aY.out;subst D;have am:=yh (Q.trans (af.mono Q.size));clear af;go_wp2_with fail;go_ret;exact⟨rfl,am.out⟩
 ·have D:r=e1:=aX.trans (M3 hz);subst D
  have bx:(r==0)=false:=by simpa using hz
  have am:=yh (Q.trans (I.mono Q.size));clear hz I;go_wp2_with fail;go_ret;exact⟨rfl,am.out⟩
end Go.Proofs.YtjdcokpmgionjaaGreat
