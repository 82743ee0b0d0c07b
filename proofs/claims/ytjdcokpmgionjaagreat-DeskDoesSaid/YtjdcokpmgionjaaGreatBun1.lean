/-
  Laws and contracts.
-/
import Derived.Test.YtjdcokpmgionjaaGreatBun0
import Derived.Deep.RegionHeld
import Derived.BigQuiet
import Derived.BigRegion
import Derived.Lib.ConvBytes
import Derived.Lib.SlBytesRow
import Derived.Lib.BufferRead
import Derived.Deep.RegionWith
set_option linter.unusedSimpArgs false
set_option linter.unusedVariables false
set_option maxRecDepth 100000
set_option maxHeartbeats 20000000
namespace Go.Proofs.YtjdcokpmgionjaaGreat
open Proofs.Tryz Go.RowKit Go.Shelf
variable {P:Program} {ops:Array Oper} {Q:Exit→Act→World→Prop} {md:Region.Mode} {S:World→Prop}
theorem Unc (i:Nat){o:Oper}{E:Nat}{D:Array Bool}{a:Act}{w:World}(I:Region.ready md ops D=[i])(F:ops[i]? = some o)
  (h:∀A:Act→World→Prop,Shut (∀a w,S w→(S w→wpAnyH P md ops Q S E (D.setIfInBounds i true) a w)→A a w)→if Region.wanted o (yielded ops a.tmps)=true then Oper.wp P o a w A Q else A (a.put o.dst undef) w):wpAnyH P md ops Q S (E+1) D a w:=
 wpAnyH_ready I (by simp) (AllReadyH.cons F h AllReadyH.nil)
theorem Uoc (i j:Nat){o p:Oper}{E:Nat}{D:Array Bool}{a:Act}{w:World}(O:Region.ready md ops D=[i,j])(I:ops[i]? = some o)(J:ops[j]? = some p)
  (h:∀A:Act→World→Prop,Shut (∀a w,S w→(S w→wpAnyH P md ops Q S E (D.setIfInBounds i true) a w)→A a w)→if Region.wanted o (yielded ops a.tmps)=true then Oper.wp P o a w A Q else A (a.put o.dst undef) w)
  (F:∀A:Act→World→Prop,Shut (∀a w,S w→(S w→wpAnyH P md ops Q S E (D.setIfInBounds j true) a w)→A a w)→if Region.wanted p (yielded ops a.tmps)=true then Oper.wp P p a w A Q else A (a.put p.dst undef) w):wpAnyH P md ops Q S (E+1) D a w:=
 wpAnyH_ready O (by simp) (AllReadyH.cons I h (AllReadyH.cons J F AllReadyH.nil))
theorem Upc (i j k:Nat){o p q:Oper}{E:Nat}{D:Array Bool}{a:Act}{w:World}(V:Region.ready md ops D=[i,j,k])(J:ops[i]? = some o)(O:ops[j]? = some p)(U:ops[k]? = some q)
  (h:∀A:Act→World→Prop,Shut (∀a w,S w→(S w→wpAnyH P md ops Q S E (D.setIfInBounds i true) a w)→A a w)→if Region.wanted o (yielded ops a.tmps)=true then Oper.wp P o a w A Q else A (a.put o.dst undef) w)
  (F:∀A:Act→World→Prop,Shut (∀a w,S w→(S w→wpAnyH P md ops Q S E (D.setIfInBounds j true) a w)→A a w)→if Region.wanted p (yielded ops a.tmps)=true then Oper.wp P p a w A Q else A (a.put p.dst undef) w)
  (I:∀A:Act→World→Prop,Shut (∀a w,S w→(S w→wpAnyH P md ops Q S E (D.setIfInBounds k true) a w)→A a w)→if Region.wanted q (yielded ops a.tmps)=true then Oper.wp P q a w A Q else A (a.put q.dst undef) w):wpAnyH P md ops Q S (E+1) D a w:=
 wpAnyH_ready V (by simp) (AllReadyH.cons J h (AllReadyH.cons O F (AllReadyH.cons U I AllReadyH.nil)))
end Go.Proofs.YtjdcokpmgionjaaGreat
namespace Go.Proofs.YtjdcokpmgionjaaGreat
open Proofs.Tryz Go.RowKit Go.Shelf
structure Ask where
 number:Int
 kind:Int
 id:Int
 guests:Int
 level:Bool
 cabin:Int
 category:Int
 frm:Int
 upto:Int
 til:Int
 amount:Int
 deriving DecidableEq,Inhabited
def Zf (x:Ask):Array Value:=#[.int .i64 x.number,.int .i64 x.kind,.int .i64 x.id,.int .i64 x.guests,.bool x.level,.int .i64 x.cabin,.int .i64 x.category,.int .i64 x.frm,.int .i64 x.upto,.int .i64 x.til,.int .i64 x.amount]
def Qpa (x:Ask):Prop:=InI x.number∧InI x.kind∧InI x.id∧InI x.guests∧InI x.cabin∧InI x.category∧InI x.frm∧InI x.upto∧InI x.til∧InI x.amount
def Qsc:Cod Ask:=fun _ _ x cs=>cs=(Zf x).toList∧Qpa x
structure Part where
 bytes:Int
 most:Int
 ix:Nat
 deriving DecidableEq,Inhabited
def QX (ba bl:Nat) (i:Nat):Addr:=if i=4 then ⟨bl,0,none⟩else ⟨ba,i,none⟩
def UCa (ba bl:Nat):Cod Part:=fun _ _ x cs=>cs=[.int .i64 x.bytes,.int .i64 x.most,.pointer (some (QX ba bl x.ix))]∧True
theorem QNb (A D:Nat):Xq (UCa A D):=fun _ _ _ _ _ _ h=>h
theorem V9 (A D:Nat):Good (UCa A D):=.of_flat (QNb A D) fun h u E=>by obtain⟨rfl,_⟩:=h;simp at E;rcases E with rfl | rfl | rfl<;>rfl
instance partK (ba bl:Nat):CodK (UCa ba bl) 3:=⟨V9 ba bl,by omega⟩
def pId:Part:=⟨3,999999,2⟩
def Xm:Part:=⟨1,255,3⟩
def Xz:Part:=⟨1,1,4⟩
def YD:Part:=⟨1,255,5⟩
def XQ:Part:=⟨1,255,6⟩
def V2a:Part:=⟨1,255,7⟩
def pTo:Part:=⟨1,255,8⟩
def UAa:Part:=⟨2,65535,9⟩
def QOa:Part:=⟨4,100000000,10⟩
def QP (k:Int):List Part:=
 if k=1 then [pId,Xm,YD,V2a,pTo,Xz,UAa]else if k=2 then [pId,Xm,XQ,Xz,UAa]else if k=3∨k=5 then [pId]else
 if k=4 then [pId,QOa]else if k=6 then [pId,YD]else if k=7 then [UAa]else []
theorem Sl.parts {w:World}{S:Nat→Prop}{E F b:Nat}{t:TypeId}(l:List Part)(cs:Array Value)(h:Blk w b cs t)(U:l.length≤10)(I:S b)(J:cs.toList=l.flatMap fun x=>[.int .i64 x.bytes,.int .i64 x.most,.pointer (some (QX E F x.ix))]) :
  Sl (UCa E F) 3 w S (some ⟨b,0,none⟩) l.length l.length l:=
 Sl.ofBlk h l (by omega) I fun i x A=>⟨_,⟨rfl,trivial⟩,rfl,fun j u D=>by
  have O:∀(l:List Part) (i:Nat) (x:Part),l[i]? = some x→∀j u,[Value.int .i64 x.bytes,.int .i64 x.most,.pointer (some (QX E F x.ix))][j]? = some u→
    (l.flatMap fun x=>[Value.int .i64 x.bytes,.int .i64 x.most,.pointer (some (QX E F x.ix))])[i*3+j]? = some u:=by
   intro l
   induction l with
   | nil=>intro i x A;simp at A
   | cons y l ih=>
    intro i x A j u D;rw[List.flatMap_cons];rcases i with _ | i
    ·simp at A;subst A
     have Q:j < 3:=by have:=(J0.1 D).1;simpa using this
     rw[List.getElem?_append_left (by simp;omega)]
     simpa using D
    ·rw[List.getElem?_append_right (by simp;omega)];simp only[List.length_cons,List.length_nil];rw[show(i+1)*3+j - (0+1+1+1)=i*3+j by omega];exact ih i x (by simpa using A) j u D
  have:=O l i x A j u D;rw[←J]at this
  simpa using this⟩
theorem kinds (k:Int):k=1∨k=2∨k=3∨k=4∨k=5∨k=6∨k=7∨k=8∨(k < 1∨8 < k):=by omega
theorem YN (ba bl:Nat)(k:Int)(w:World)(J:yI w ba 1 k) :
  Calls prog 138 #[.pointer (some ⟨ba,0,none⟩),.pointer (some ⟨bl,0,none⟩)] w fun e w'=>∃A n cap,e=.returned (.tuple #[.slice A n cap,.bool (Qd k 1 8)])∧Sl (UCa ba bl) 3 w' (fun b=>w.heap.size≤b) A n cap (QP k)∧yw w w':=by
 have ab:=ZO J;go_enter func138,ntmps138;go_upto_region 5 with(fail);go_cut [10,11] (fun x y wx=>∃Y Z,yp x Y∧yp y Z∧Blk wx Y #[.int .i64 1,.int .i64 255,.pointer (some ⟨ba,7,none⟩)] 194∧Blk wx Z #[.int .i64 1,.int .i64 255,.pointer (some ⟨ba,8,none⟩)] 194∧Below ((((w.alloc (.cells #[.int .i64 3,.int .i64 999999,.pointer (some ⟨ba,2,none⟩)] 194)).alloc (.cells #[.int .i64 1,.int .i64 255,.pointer (some ⟨ba,3,none⟩)] 194)).alloc (.cells #[.int .i64 1,.int .i64 255,.pointer (some ⟨ba,5,none⟩)] 194)).alloc (.cells #[.int .i64 1,.int .i64 255,.pointer (some ⟨ba,6,none⟩)] 194)).heap.size ((((w.alloc (.cells #[.int .i64 3,.int .i64 999999,.pointer (some ⟨ba,2,none⟩)] 194)).alloc (.cells #[.int .i64 1,.int .i64 255,.pointer (some ⟨ba,3,none⟩)] 194)).alloc (.cells #[.int .i64 1,.int .i64 255,.pointer (some ⟨ba,5,none⟩)] 194)).alloc (.cells #[.int .i64 1,.int .i64 255,.pointer (some ⟨ba,6,none⟩)] 194)) wx)
 case first=>as_aux_lemma=>
  go_region
  ·go_wp2_with fail;go_meet;exact⟨_,_,rfl,rfl,(Blk.new4 w _ _ _ _ _ _).old _,Blk.new5 w _ _ _ _ _ _ _,(Zl _ _ _).drew⟩
  ·go_wp2_with fail;go_meet;exact⟨_,_,rfl,rfl,Blk.new5 w _ _ _ _ _ _ _,(Blk.new4 w _ _ _ _ _ _).old _,(Zl _ _ _).drew⟩
 obtain⟨Y,Z,rfl,rfl,O,Q,I⟩:=hcut;have U:Blk wc w.heap.size #[.int .i64 3,.int .i64 999999,.pointer (some ⟨ba,2,none⟩)] 194:=Blk.bel (w:=((((w.alloc (.cells #[.int .i64 3,.int .i64 999999,.pointer (some ⟨ba,2,none⟩)] 194)).alloc (.cells #[.int .i64 1,.int .i64 255,.pointer (some ⟨ba,3,none⟩)] 194)).alloc (.cells #[.int .i64 1,.int .i64 255,.pointer (some ⟨ba,5,none⟩)] 194)).alloc (.cells #[.int .i64 1,.int .i64 255,.pointer (some ⟨ba,6,none⟩)] 194))) ((((Blk.new w _ _).old _).old _).old _) I;have V:Blk wc (w.heap.size+1) #[.int .i64 1,.int .i64 255,.pointer (some ⟨ba,3,none⟩)] 194:=Blk.bel (w:=((((w.alloc (.cells #[.int .i64 3,.int .i64 999999,.pointer (some ⟨ba,2,none⟩)] 194)).alloc (.cells #[.int .i64 1,.int .i64 255,.pointer (some ⟨ba,3,none⟩)] 194)).alloc (.cells #[.int .i64 1,.int .i64 255,.pointer (some ⟨ba,5,none⟩)] 194)).alloc (.cells #[.int .i64 1,.int .i64 255,.pointer (some ⟨ba,6,none⟩)] 194))) (((Blk.new1 w _ _ _).old _).old _) I;have W:Blk wc (w.heap.size+1+1) #[.int .i64 1,.int .i64 255,.pointer (some ⟨ba,5,none⟩)] 194:=Blk.bel (w:=((((w.alloc (.cells #[.int .i64 3,.int .i64 999999,.pointer (some ⟨ba,2,none⟩)] 194)).alloc (.cells #[.int .i64 1,.int .i64 255,.pointer (some ⟨ba,3,none⟩)] 194)).alloc (.cells #[.int .i64 1,.int .i64 255,.pointer (some ⟨ba,5,none⟩)] 194)).alloc (.cells #[.int .i64 1,.int .i64 255,.pointer (some ⟨ba,6,none⟩)] 194))) ((Blk.new2 w _ _ _ _).old _) I;have X:Blk wc (w.heap.size+1+1+1) #[.int .i64 1,.int .i64 255,.pointer (some ⟨ba,6,none⟩)] 194:=Blk.bel (w:=((((w.alloc (.cells #[.int .i64 3,.int .i64 999999,.pointer (some ⟨ba,2,none⟩)] 194)).alloc (.cells #[.int .i64 1,.int .i64 255,.pointer (some ⟨ba,3,none⟩)] 194)).alloc (.cells #[.int .i64 1,.int .i64 255,.pointer (some ⟨ba,5,none⟩)] 194)).alloc (.cells #[.int .i64 1,.int .i64 255,.pointer (some ⟨ba,6,none⟩)] 194))) (Blk.new3 w _ _ _ _ _) I;have ak:=U.cell (j:=0) rfl;have al:=U.cell (j:=1) rfl;have am:=U.cell (j:=2) rfl;have an:=V.cell (j:=0) rfl;have ao:=V.cell (j:=1) rfl;have ap:=V.cell (j:=2) rfl;have aq:=W.cell (j:=0) rfl;have ar:=W.cell (j:=1) rfl;have au:=W.cell (j:=2) rfl;have av:=X.cell (j:=0) rfl;have aw:=X.cell (j:=1) rfl;have ax:=X.cell (j:=2) rfl;have ae:=O.cell (j:=0) rfl;have af:=O.cell (j:=1) rfl;have ag:=O.cell (j:=2) rfl;have ah:=Q.cell (j:=0) rfl;have ai:=Q.cell (j:=1) rfl;have aj:=Q.cell (j:=2) rfl;have F:yw w ((((w.alloc (.cells #[.int .i64 3,.int .i64 999999,.pointer (some ⟨ba,2,none⟩)] 194)).alloc (.cells #[.int .i64 1,.int .i64 255,.pointer (some ⟨ba,3,none⟩)] 194)).alloc (.cells #[.int .i64 1,.int .i64 255,.pointer (some ⟨ba,5,none⟩)] 194)).alloc (.cells #[.int .i64 1,.int .i64 255,.pointer (some ⟨ba,6,none⟩)] 194)):=(Yg _ _ _ _).alloc (by simp;omega) _;replace F:=F.trans (I.mono F.size);have ad:yI wc ba 1 k:=(F.cell (p:=⟨ba,1,none⟩) ab).trans J;have aa:=F.size;have E:yw w ((wc.alloc (.cells #[.int .i64 2,.int .i64 65535,.pointer (some ⟨ba,9,none⟩)] 194)).alloc (.cells #[.int .i64 4,.int .i64 100000000,.pointer (some ⟨ba,10,none⟩)] 194)):=(F.alloc aa _).alloc (by simp;omega) _
 have l1:ba < wc.heap.size:=by omega
 have l2:=O.lt;have l3:=Q.lt;have l4:=U.lt;have l5:=V.lt;have l6:=W.lt;have l7:=X.lt;clear J I U V W X O Q;have ac:=yh F;clear F;have D:=yh aa;clear aa;rcases kinds k with rfl | rfl | rfl | rfl | rfl | rfl | rfl | rfl | J
 ·go_wp2_with fail;go_ret2;exact⟨_,_,_,rfl,Sl.parts [pId,Xm,YD,V2a,pTo,Xz,UAa] _ (Blk.new2 wc _ _ _ _) (by decide) (by show _≤_;have:=D.out;omega) rfl,E.alloc (by have:=D.out;simp;omega) _⟩
 ·go_wp2_with fail;go_ret2;exact⟨_,_,_,rfl,Sl.parts [pId,Xm,XQ,Xz,UAa] _ (Blk.new2 wc _ _ _ _) (by decide) (by show _≤_;have:=D.out;omega) rfl,E.alloc (by have:=D.out;simp;omega) _⟩
 ·go_wp2_with fail;go_ret2;exact⟨_,_,_,rfl,Sl.parts [pId] _ (Blk.new2 wc _ _ _ _) (by decide) (by show _≤_;have:=D.out;omega) rfl,E.alloc (by have:=D.out;simp;omega) _⟩
 ·go_wp2_with fail;go_ret2;exact⟨_,_,_,rfl,Sl.parts [pId,QOa] _ (Blk.new2 wc _ _ _ _) (by decide) (by show _≤_;have:=D.out;omega) rfl,E.alloc (by have:=D.out;simp;omega) _⟩
 ·go_wp2_with fail;go_ret2;exact⟨_,_,_,rfl,Sl.parts [pId] _ (Blk.new2 wc _ _ _ _) (by decide) (by show _≤_;have:=D.out;omega) rfl,E.alloc (by have:=D.out;simp;omega) _⟩
 ·go_wp2_with fail;go_ret2;exact⟨_,_,_,rfl,Sl.parts [pId,YD] _ (Blk.new2 wc _ _ _ _) (by decide) (by show _≤_;have:=D.out;omega) rfl,E.alloc (by have:=D.out;simp;omega) _⟩
 ·go_wp2_with fail;go_ret2;exact⟨_,_,_,rfl,Sl.parts [UAa] _ (Blk.new2 wc _ _ _ _) (by decide) (by show _≤_;have:=D.out;omega) rfl,E.alloc (by have:=D.out;simp;omega) _⟩
 ·go_wp2_with fail;go_ret2;exact⟨_,_,_,rfl,Sl.nil _ _ _ _,E⟩
 ·have n1:(k == 1)=false:=by simp;omega
  have n2:(k == 2)=false:=by simp;omega
  have n3:(k == 3)=false:=by simp;omega
  have n4:(k == 4)=false:=by simp;omega
  have n5:(k == 5)=false:=by simp;omega
  have n6:(k == 6)=false:=by simp;omega
  have n7:(k == 7)=false:=by simp;omega
  have n8:(k == 8)=false:=by simp;omega
  have HP:=yh (show QP k=[]by unfold QP;repeat (rw[M2 (by omega)]));have HK:=yh (QK (n:=k) (a:=1) (b:=8) J);clear J;go_wp2_with fail;go_ret2;exact⟨none,0,0,by rw[HK.out];rfl,by rw[HP.out];exact Sl.nil _ _ _ _,E⟩
def Uc (k:Int):List UInt8:=
 if k=1 then [105,103,99,102,116,108,117]else if k=2 then [105,103,107,108,117]else if k=3∨k=5 then [105]else if k=4 then [105,97]else if k=6 then [105,99]else if k=7 then [117]else []
def QO (c:UInt8):Part:=
 if c=105 then pId else if c=103 then Xm else if c=99 then YD else if c=107 then XQ else if c=102 then V2a else if c=116 then pTo else if c=117 then UAa else if c=97 then QOa else Xz
def fld (x:Ask) (i:Nat):Int:=
 if i=2 then x.id else if i=3 then x.guests else if i=5 then x.cabin else if i=6 then x.category else if i=7 then x.frm else if i=8 then x.upto else if i=9 then x.til else if i=10 then x.amount else if x.level then 1 else 0
theorem YA (k:Int):(Uc k).map QO=QP k:=by
 unfold Uc QP
 repeat' split
 all_goals first | rfl | omega
theorem Yxa (k:Int)(w:World):Calls prog 125 #[.int .i64 k] w fun e w'=>e=.returned (.string ⟨(Uc k).toArray⟩)∧w=w':=by
 have A:∀L:List UInt8,Uc k=L→Hid (Uc k=L):=fun _ h=>h;by_cases h1:k=1
 ·subst h1;go_enter func125,ntmps125;go_wp2_with fail;go_ret;exact⟨rfl,rfl⟩
 by_cases h2:k=2
 ·subst h2;go_enter func125,ntmps125;go_wp2_with fail;go_ret;exact⟨rfl,rfl⟩
 by_cases h3:k=3
 ·subst h3;go_enter func125,ntmps125;go_wp2_with fail;go_ret;exact⟨rfl,rfl⟩
 by_cases h5:k=5
 ·subst h5;go_enter func125,ntmps125;go_wp2_with fail;go_ret;exact⟨rfl,rfl⟩
 by_cases h4:k=4
 ·subst h4;go_enter func125,ntmps125;go_wp2_with fail;go_ret;exact⟨rfl,rfl⟩
 by_cases h6:k=6
 ·subst h6;go_enter func125,ntmps125;go_wp2_with fail;go_ret;exact⟨rfl,rfl⟩
 by_cases h7:k=7
 ·subst h7;go_enter func125,ntmps125;go_wp2_with fail;go_ret;exact⟨rfl,rfl⟩
 have D:=A [] (by unfold Uc;rw[M2 h1,M2 h2,M2 (by omega),M2 h4,M2 h6,M2 h7])
 have E:(k == 1)=false:=by simpa using h1
 have F:(k == 2)=false:=by simpa using h2
 have I:(k == 3)=false:=by simpa using h3
 have J:(k == 4)=false:=by simpa using h4
 have O:(k == 5)=false:=by simpa using h5
 have Q:(k == 6)=false:=by simpa using h6
 have U:(k == 7)=false:=by simpa using h7
 clear h1 h2 h3 h4 h5 h6 h7 A;go_enter func125,ntmps125;go_wp2_with fail;go_ret;exact⟨by rw[D.out];rfl,rfl⟩
theorem YXa (x:Ask)(c:UInt8)(w:World):Calls prog 126 #[.agg (Zf x),.int .u8 (c.toNat:Int)] w fun e w'=>
  e=.returned (.tuple #[.int .i64 (fld x (QO c).ix),.int .i64 (QO c).bytes,.int .i64 (QO c).most])∧yw w w':=by
 unfold Zf
 have A:∀d:UInt8,¬c=d→((c.toNat:Int) == (d.toNat:Int))=false:=fun d h=>by
  simp only[beq_eq_false_iff_ne,ne_eq];intro e;exact h (UInt8.toNat_inj.1 (by omega))
 by_cases hi:c=105
 ·subst hi;clear A;go_enter func126,ntmps126;go_wp2_with fail;go_ret3;exact⟨rfl,Qi _ _⟩
 have Q:=A 105 hi;by_cases hg:c=103
 ·subst hg;clear A;go_enter func126,ntmps126;go_wp2_with fail;go_ret3;exact⟨rfl,Qi _ _⟩
 have O:=A 103 hg;by_cases hc:c=99
 ·subst hc;clear A;go_enter func126,ntmps126;go_wp2_with fail;go_ret3;exact⟨rfl,Qi _ _⟩
 have I:=A 99 hc;by_cases hk:c=107
 ·subst hk;clear A;go_enter func126,ntmps126;go_wp2_with fail;go_ret3;exact⟨rfl,Qi _ _⟩
 have U:=A 107 hk;by_cases hf:c=102
 ·subst hf;clear A;go_enter func126,ntmps126;go_wp2_with fail;go_ret3;exact⟨rfl,Qi _ _⟩
 have J:=A 102 hf;by_cases ht:c=116
 ·subst ht;clear A;go_enter func126,ntmps126;go_wp2_with fail;go_ret3;exact⟨rfl,Qi _ _⟩
 have V:=A 116 ht;by_cases hu:c=117
 ·subst hu;clear A;go_enter func126,ntmps126;go_wp2_with fail;go_ret3;exact⟨rfl,Qi _ _⟩
 have W:=A 117 hu;by_cases ha:c=97
 ·subst ha;clear A;go_enter func126,ntmps126;go_wp2_with fail;go_ret3;exact⟨rfl,Qi _ _⟩
 have F:=A 97 ha;have E:=yh (show QO c=Xz by unfold QO;rw[M2 hi,M2 hg,M2 hc,M2 hk,M2 hf,M2 ht,M2 hu,M2 ha]);simp only[UInt8.reduceToNat]at Q O I U J V W F;clear A hi hg hc hk hf ht hu ha;cases hl:x.level
 all_goals
  have D:=yh (show fld x 4=if x.level then 1 else 0 by unfold fld;simp);rw[hl]at D;clear hl;go_enter func126,ntmps126;go_wp2_with fail;go_ret3;exact⟨by rw[E.out,show Xz.ix=4 from rfl,D.out];rfl,Qi _ _⟩
def ZQ (n:Int):Nat→List UInt8
 | 0=>[]
 | m+1=>ZQ (n / 256) m++[UInt8.ofNat (n % 256).toNat]
theorem UB (m:Nat):∀n,(ZQ n m).length=m:=by
 induction m with
 | zero=>intro n;rfl
 | succ m ih=>intro n;simp[ZQ,ih]
def VCa:Cod UInt8:=fun _ _ x cs=>cs=[.int .u8 (x.toNat:Int)]
theorem Qfb:Xq VCa:=fun _ _ _ _ _ _ h=>h
theorem VT:Good VCa:=.of_flat Qfb fun h u A=>by cases h;simp at A;subst A;rfl
instance byteK:CodK VCa 1:=⟨VT,by omega⟩
theorem Z3b:ElemOf prog 250 5 1 1:=.mk' underlying250 (z:=.int .u8 0) (by kernel_rfl) rfl (by omega)
theorem YUb (w:World)(S:Nat→Prop)(x:UInt8)(v:Int)(t:TypeId)(D:v=(x.toNat:Int))(A:S w.heap.size):Sl VCa 1 (w.alloc (.cells #[.int .u8 v] t)) S (some ⟨w.heap.size,0,none⟩) 1 1 [x]:=
 Sl.lit1 w S t x [.int .u8 v] (by rw[D];rfl) A
theorem Own.str {w:World}{base:Nat}{A:Option Addr}{n cap:Nat}{l:List UInt8}{xs:List Value}(h:Own VCa 1 5 w base (.slice A n cap) l xs) :
  (convert 250 9 (.slice A n cap)).run prog w=.ok (.string ⟨l.toArray⟩) w:=by
 rcases h.row.2 with⟨Y,D⟩ | ⟨g,Q,U,Y,V,W,_⟩
 ·simp only[Value.slice.injEq]at Y;obtain⟨rfl,rfl,rfl⟩:=Y;obtain rfl:l=[]:=List.length_eq_zero_iff.1 D;exact Lib.run_convert_nil_bytes w _ _ _ _ underlying250 underlying5 underlying9
 ·simp only[Value.slice.injEq]at Y;obtain⟨rfl,rfl,rfl⟩:=Y
  have E:Lib.Bytes w g 0 ⟨l.toArray⟩:=fun i J=>by
   have O:i < l.length:=by simpa [ByteArray.size] using J
   obtain⟨cs,F,X,I,_⟩:=h.cells (J1 O);cases F;have:=I 0 _ rfl;rw[Nat.mul_one,Nat.add_zero]at this;rw[Nat.zero_add];exact this
  exact Lib.run_convert_whole w _ _ _ underlying250 underlying5 underlying9 g 0 ⟨l.toArray⟩ E cap
theorem Zca (n:Int)(m:Nat)(w:World)(hm:m≤4) :
  Calls prog 137 #[.int .i64 n,.int .i64 m] w fun e w'=>e=.returned (.string ⟨(ZQ n m).toArray⟩)∧yw w w':=by
 have E:∀k:Nat,(2:Int) ^ (8*k)=256 ^ k:=fun k=>by rw[Int.pow_mul];rfl
 have I:∀k:Nat,k < m→ZQ (n / 256 ^ (k+1)) (m - (k+1))++[UInt8.ofNat (n / 256 ^ k % 256).toNat]=ZQ (n / 256 ^ k) (m - k):=fun k W=>by
  rw[show m - k=m - (k+1)+1 by omega,ZQ,Int.ediv_ediv_of_nonneg (by exact Int.pow_nonneg (by decide)),←Int.pow_succ]
 have F:∀k:Nat,n / 2 ^ (8*k) % 256=((UInt8.ofNat (n / 256 ^ k % 256).toNat).toNat:Int):=fun k=>by
  rw[E];have:=Int.emod_nonneg (n / 256 ^ k) (show(256:Int)≠0 by decide);have:=Int.emod_lt_of_pos (n / 256 ^ k) (show(0:Int) < 256 by decide);simp only[UInt8.toNat_ofNat'];omega
 have HP:=yh E;clear E;have O:=yh I;clear I;have J:=yh F;clear F;go_enter func137,ntmps137;go_wp2_with fail
 go_loopg [5,6] m (fun gk o i wr=>∃k:Nat,k≤m∧k≤gk∧i=.int .i64 ((k:Int) - 1)∧∃xs,Own VCa 1 5 wr w.heap.size o (ZQ (n / 256 ^ k) (m - k)) xs∧yw w wr)
 case atStart=>exact⟨m,by omega,by omega,rfl,[],by rw[Nat.sub_self];exact Own.nil _ _ _ _ _,J4 _ _⟩
 case round=>
  obtain⟨k,W,ab,rfl,xs,hO,D⟩:=hrel;obtain⟨A,l,c,rfl,ac⟩:=hO.sl VT;rcases k with _ | k
  ·have Z:=hO.str;simp only[Int.pow_zero,Int.ediv_one,Nat.sub_zero]at Z;go_wp2_with fail;go_ret;exact⟨rfl,D⟩
  ·have X:(ZQ (n / 256 ^ (k+1)) (m - (k+1))).length=m - (k+1):=UB _ _;have Q:=D.alloc D.size (.cells #[.int .u8 (n / 2 ^ (8*k) % 256)] 5);have ad:=D.size;go_wp2_with (at_builtin;refine Qz (t:=250) (e:=5) (bytes:=1) rfl (.tmp 13) (.tmp 19) rfl Z3b VT rfl (hO.below VT ((J4 _ _).alloc (J5 _) _)) rfl (YUb _ All (UInt8.ofNat (n / 256 ^ k % 256).toNat) _ _ (J k) trivial) (fun _ _ U=>U) (by rw[X];omega) (by omega) (by simp;omega) ?_;intro v' w' aa Y V _);go_roundg k
   case measure=>omega
   case rel=>exact⟨k,by omega,by omega,by go_num,aa,by rw[←O.out k (by omega)];exact Y,QA Q (hO.below VT ((J4 _ _).alloc (J5 _) _)) V (by simp;omega)⟩
end Go.Proofs.YtjdcokpmgionjaaGreat
