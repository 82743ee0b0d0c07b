/-
  Words, laws and contracts: Fit, Base, Gen, Mini, SpanA, StepApp, SameI.
-/
import Derived.Test.YtjdcokpmgionjaaGreatChecked
import Derived.Test.YtjdcokpmgionjaaGreatRows
import Derived.JoinedOf
import Derived.KernelRfl
import Derived.WalkKit
import Derived.Lib.Hide
import Derived.Maps.AppendAt
import Derived.WalkLawsBesides
import Derived.WalkSpells
import Derived.BigQuiet
import Derived.Shelf.Abstract
import Derived.Deep.LoopGhost
import Derived.Deep.QuietTactic
import Derived.Deep.DeepCutAuto
import Derived.Deep.RegionHeld
import Derived.Deep.RegionLaw
set_option linter.unusedSimpArgs false
set_option linter.unusedVariables false
set_option maxRecDepth 100000
set_option maxHeartbeats 20000000
namespace Go.Proofs.YtjdcokpmgionjaaGreat
open Go
theorem UKa:laidOutB Tryz.prog=true:=by kernel_rfl
theorem ULa:mapsRowed Tryz.prog=true:=by kernel_rfl
theorem Zga:Tryz.prog.stopsHeard=true:=by kernel_rfl
theorem Zfa:Tryz.prog.mayEnter=true:=by kernel_rfl
theorem Zla {P:Program}{f:FuncId}{A:Func}{s:ChangeSpec}{c:OpenClaim}
  (D:(c.wf (OpenSpec.ofChange s) && A.params.all (P.readableRec ·) && namedTie P c.named s.vars && (c.stops == []) && (P.stops == []) && (c.knobs == []) && (P.stopKnobs == []))=true)
  (l:laidOutB P=true) (m:mapsRowed P=true)
  (E:((c.inPlace == P.inPlace f) && (c.unfollowed == P.unfollowed f) && (c.recurses == P.recurses f) && (c.named == P.varsNamed f))=true)
  (F:((c.maps == (A.params.toList++s.plain.varTypes P).any (P.mapsRec ·)) && (c.ifaces == (A.params.toList++s.plain.varTypes P).any (P.ifacesRec ·)) && (c.mapsOut == P.mapsAmong A.resultTypes.toList) &&
   (c.loops == (A.params.toList++s.plain.varTypes P).any (P.loopsFrom ·)) && (c.wideKeys == (A.params.toList++s.plain.varTypes P++A.resultTypes.toList).any (P.wideKeysFrom ·)) &&
   s.vars.all (P.varReadable ·) && A.resultTypes.all (fun t=>P.readableRec t && decide (t < P.types.size)) && (c.ifacesOut == A.resultTypes.toList.any (P.ifacesRec ·)) && (c.loopsOut == A.resultTypes.toList.any (P.loopsFrom ·)) && (c.plainKeys == P.plainKeys) && c.shortTexts.isNone)=true)
  (sh:P.stopsHeard=true) (me:P.mayEnter=true) (I:((c.lifted == P.liftsFinal) && (P.make == some c.make))=true)
  (J:((c.kinds == (if c.domain.isEmpty then []else A.params.toList.map fun t=>match P.underlying t with | some (.int k)=>some k | _=>none)) && (c.pinned == c.pinnedBy) &&
   (c.veiled == (A.params.toList++s.plain.varTypes P++A.resultTypes.toList).any (P.veiledRec ·)) && c.veiledFits P A.params.toList (A.params.toList++s.plain.varTypes P++A.resultTypes.toList))=true) :
  joinedFacts P f A s c=true:=by
 rw[Bool.and_eq_true,Bool.and_eq_true,Bool.and_eq_true,Bool.and_eq_true,Bool.and_eq_true,Bool.and_eq_true]at D;rw[Bool.and_eq_true,Bool.and_eq_true,Bool.and_eq_true]at E;rw[Bool.and_eq_true,Bool.and_eq_true,Bool.and_eq_true,Bool.and_eq_true,Bool.and_eq_true,Bool.and_eq_true,Bool.and_eq_true,Bool.and_eq_true,Bool.and_eq_true,Bool.and_eq_true]at F;rw[Bool.and_eq_true]at I;rw[Bool.and_eq_true,Bool.and_eq_true,Bool.and_eq_true]at J;obtain⟨⟨⟨⟨⟨⟨O,Q⟩,U⟩,V⟩,W⟩,X⟩,Y⟩:=D;obtain⟨⟨⟨Z,b2⟩,b3⟩,b4⟩:=E;obtain⟨⟨⟨⟨⟨⟨⟨⟨⟨⟨d1,d2⟩,d3⟩,d4⟩,d5⟩,d6⟩,d7⟩,d8⟩,d9⟩,aa⟩,ab⟩:=F;obtain⟨e1,e2⟩:=I;obtain⟨⟨⟨g1,g2⟩,g3⟩,g4⟩:=J;unfold joinedFacts;refine Bool.and_eq_true_iff.2 ⟨Bool.and_eq_true_iff.2 ⟨Bool.and_eq_true_iff.2 ⟨Bool.and_eq_true_iff.2 ⟨?_,g1⟩,g2⟩,g3⟩,g4⟩;rw[O,l,m,Q,U,V,W,X,Y,Z,b2,b3,b4,d1,d2,d3,d4,d5,d6,d7,d8,d9,aa,ab,sh,me,e1,e2]
 rfl
end Go.Proofs.YtjdcokpmgionjaaGreat
namespace Go.Proofs.YtjdcokpmgionjaaGreat
open Go.RowKit
def Cod (α:Type):=World→(Nat→Prop)→α→List Value→Prop
def InI (n:Int):Prop:=-9223372036854775808≤n∧n≤9223372036854775807
theorem InI.of {n:Int}(h : -1000000000000000≤n)(A:n≤1000000000000000):InI n:=⟨by omega,by omega⟩
def QL:Cod Int:=fun _ _ n cs=>cs=[.int .i64 n]∧InI n
def ZKb:Cod Bool:=fun _ _ b cs=>cs=[.bool b]
def RdA {α:Type} (c:Cod α) (size:Nat) (w:World) (S:Nat→Prop) (A:Option Addr) (l:List α):Prop:=
 ∀i x,l[i]? = some x→∃b off cs,A=some ⟨b,off,none⟩∧S b∧c w S x cs∧cs.length=size∧∀j u,cs[j]? = some u→w.cell? ⟨b,off+i*size+j,none⟩=some u
structure Sl {α:Type} (c:Cod α) (size:Nat) (w:World) (S:Nat→Prop) (A:Option Addr) (n cap:Nat) (l:List α):Prop where
 len:l.length=n
 le:n≤cap
 max:cap≤maxLen
 rd:RdA c size w S A l
def slC {α:Type} (c:Cod α) (size:Nat):Cod (List α):=fun w S l cs=>∃A n cap,cs=[.slice A n cap]∧Sl c size w S A n cap l
structure Good {α:Type} (c:Cod α):Prop where
 keep:∀{w w':World} {S S':Nat→Prop} {x:α} {cs:List Value},c w S x cs→(∀b,S b→b < w.heap.size→w'.heap[b]? = w.heap[b]?∧S' b)→c w' S' x cs
 one:∀{w:World} {S:Nat→Prop} {x:α} {cs:List Value},c w S x cs→∀u∈cs,u.oneCell'=true
def VV {α:Type} (c:Cod α):Prop:=∀(w w':World) (S S':Nat→Prop) (x:α) (cs:List Value),c w S x cs→c w' S' x cs
def okL {α:Type} (r:Int) (l:List α):List α:=if r=0 then l else []
def okI (r v:Int):Int:=if r=0 then v else 0
theorem QG {α:Type}(l:List α):okL 0 l=l:=rfl
theorem Zn (v:Int):okI 0 v=v:=rfl
theorem Yq {α:Type}{r:Int}(h:¬r=0)(l:List α):okL r l=[]:=if_neg h
theorem Q9b {r:Int}(h:¬r=0)(v:Int):okI r v=0:=if_neg h
def All:Nat→Prop:=fun _=>True
theorem ZD:VV QL:=fun _ _ _ _ _ _ h=>h
theorem QBb:VV ZKb:=fun _ _ _ _ _ _ h=>h
theorem Good.of_flat {α:Type}{c:Cod α}(E:VV c)(D:∀{w:World} {S:Nat→Prop} {x:α} {A:List Value},c w S x A→∀u∈A,u.oneCell'=true):Good c:=
 ⟨fun h _=>E _ _ _ _ _ _ h,D⟩
theorem Qb:Good QL:=.of_flat ZD fun h u A=>by obtain⟨rfl,_⟩:=h;simp at A;subst A;rfl
theorem QCb:Good ZKb:=.of_flat QBb fun h u A=>by cases h;simp at A;subst A;rfl
section
variable {α:Type} {c:Cod α} {size:Nat} {w w':World} {S S':Nat→Prop} {A:Option Addr} {n cap:Nat} {l:List α}
theorem Sl.bd (h:Sl c size w S A n cap l):n≤9223372036854775807:=by have:=h.le;have:=h.max;unfold maxLen at this;omega
theorem Sl.nil (w:World)(S:Nat→Prop)(c:Cod α)(size:Nat):Sl c size w S none 0 0 []:=⟨rfl,Nat.le_refl _,by simp[maxLen],fun i x h=>by simp at h⟩
theorem Ub {b A:Nat}{u:Value}(h:w.cell? ⟨b,A,none⟩=some u):b < w.heap.size:=World.block_lt_of_cell? w ⟨b,A,none⟩ h
theorem Sl.keep (h:Sl c size w S A n cap l)(V:Good c)(Z:0 < size)(E:∀b,S b→b < w.heap.size→w'.heap[b]? = w.heap[b]?∧S' b):Sl c size w' S' A n cap l:=by
 refine⟨h.len,h.le,h.max,fun i x X=>?_⟩;obtain⟨b,Y,D,Q,I,U,W,O⟩:=h.rd i x X
 have J:b < w.heap.size:=by
  obtain⟨u,F⟩:∃u,D[0]? = some u:=⟨D[0]'(by omega),List.getElem?_eq_getElem (by omega)⟩;exact Ub (O 0 u F)
 exact⟨b,Y,D,Q,(E b I J).2,V.keep U E,W,fun j u F=>(World.cell?_of_block (a:=⟨b,_,none⟩) (E b I J).1).trans (O j u F)⟩
theorem Sl.below (h:Sl c size w S A n cap l)(F:Good c)(J:0 < size)(E:Below w.heap.size w w'):Sl c size w' S A n cap l:=
 h.keep F J fun b D I=>⟨E.block b I,D⟩
theorem Sl.all (h:Sl c size w S A n cap l)(D:Good c)(E:0 < size):Sl c size w All A n cap l:=
 h.keep D E fun _ _ _=>⟨rfl,trivial⟩
theorem Sl.at1 (h:Sl c 1 w S A n cap l){k:Nat}(U:k < n):∃b E x D,A=some ⟨b,E,none⟩∧l[k]? = some x∧c w S x [D]∧w.cell? ⟨b,E+k,none⟩=some D:=by
 have V:=h.len;obtain⟨b,E,F,I,_,J,Q,O⟩:=h.rd k (l[k]'(by omega)) (List.getElem?_eq_getElem (by omega))
 match F,Q with
 | [D],_=>exact⟨b,E,_,D,I,List.getElem?_eq_getElem (by omega),J,by simpa using O 0 D rfl⟩
theorem Sl.at2 (h:Sl c 2 w S A n cap l){k:Nat}(V:k < n):∃b F x D E,A=some ⟨b,F,none⟩∧l[k]? = some x∧c w S x [D,E]∧
  w.cell? ⟨b,F+k*2,none⟩=some D∧w.cell? ⟨b,F+k*2+1,none⟩=some E:=by
 have W:=h.len;obtain⟨b,F,J,O,_,Q,U,I⟩:=h.rd k (l[k]'(by omega)) (List.getElem?_eq_getElem (by omega))
 match J,U with
 | [D,E],_=>exact⟨b,F,_,D,E,O,List.getElem?_eq_getElem (by omega),Q,by simpa using I 0 D rfl,I 1 E rfl⟩
theorem Sl.at3 (h:Sl c 3 w S A n cap l){k:Nat}(W:k < n):∃b D x E F I,A=some ⟨b,D,none⟩∧l[k]? = some x∧c w S x [E,F,I]∧
  w.cell? ⟨b,D+k*3,none⟩=some E∧w.cell? ⟨b,D+k*3+1,none⟩=some F∧w.cell? ⟨b,D+k*3+2,none⟩=some I:=by
 have X:=h.len;obtain⟨b,D,O,Q,_,U,V,J⟩:=h.rd k (l[k]'(by omega)) (List.getElem?_eq_getElem (by omega))
 match O,V with
 | [E,F,I],_=>exact⟨b,D,_,E,F,I,Q,List.getElem?_eq_getElem (by omega),U,by simpa using J 0 E rfl,J 1 F rfl,J 2 I rfl⟩
theorem Sl.at4 (h:Sl c 4 w S A n cap l){k:Nat}(X:k < n):∃b D x E F I J,A=some ⟨b,D,none⟩∧l[k]? = some x∧c w S x [E,F,I,J]∧
  w.cell? ⟨b,D+k*4,none⟩=some E∧w.cell? ⟨b,D+k*4+1,none⟩=some F∧w.cell? ⟨b,D+k*4+2,none⟩=some I∧w.cell? ⟨b,D+k*4+3,none⟩=some J:=by
 have Y:=h.len;obtain⟨b,D,Q,U,_,V,W,O⟩:=h.rd k (l[k]'(by omega)) (List.getElem?_eq_getElem (by omega))
 match Q,W with
 | [E,F,I,J],_=>exact⟨b,D,_,E,F,I,J,U,List.getElem?_eq_getElem (by omega),V,by simpa using O 0 E rfl,O 1 F rfl,O 2 I rfl,O 3 J rfl⟩
theorem Sl.cut (h:Sl c size w S A n cap l){k m:Nat}(Y:k≤m)(hm:m≤n) :
  Sl c size w S (if cap=k then A else A.map (·.add (k*size))) (m - k) (cap - k) ((l.drop k).take (m - k)):=by
 have Z:=h.le;refine⟨by rw[List.length_take,List.length_drop,h.len];omega,by omega,Nat.le_trans (Nat.sub_le _ _) h.max,fun i x D=>?_⟩
 have V:i < m - k:=by
  rcases Nat.lt_or_ge i (m - k)with F | F
  ·exact F
  ·rw[List.getElem?_eq_none (by rw[List.length_take];omega)]at D;cases D
 rw[List.getElem?_take,if_pos V,List.getElem?_drop]at D;obtain⟨b,E,I,J,O,Q,W,U⟩:=h.rd _ x D;refine⟨b,E+k*size,I,?_,O,Q,W,fun j u X=>?_⟩
 ·rw[if_neg (by omega),J]
  simp only[Option.map_some,Option.some.injEq,Addr.add]
  split
  ·next h0=>rw[h0];rfl
  ·rfl
 ·have:=U j u X
  rw[show E+k*size+i*size+j=E+(k+i)*size+j by rw[Nat.add_mul];omega];exact this
theorem Sl.mono_cod {E:Cod α}(h:Sl c size w S A n cap l)(J:∀x D,c w S x D→E w S x D):Sl E size w S A n cap l:=
 ⟨h.len,h.le,h.max,fun i x Q=>by
  obtain⟨b,U,D,F,I,O,r⟩:=h.rd i x Q;exact⟨b,U,D,F,I,J _ _ O,r⟩⟩
end
theorem Sl.lit1 {α:Type}{c:Cod α}(w:World)(S:Nat→Prop)(t:TypeId)(x:α)(A:List Value)(F:c (w.alloc (.cells A.toArray t)) S x A)(E:S w.heap.size) :
  Sl c A.length (w.alloc (.cells A.toArray t)) S (some ⟨w.heap.size,0,none⟩) 1 1 [x]:=by
 refine⟨rfl,Nat.le_refl _,by simp[maxLen],fun i y D=>?_⟩
 have I:i=0:=by have:=(List.getElem?_eq_some_iff.1 D).1;simp at this;omega
 subst I
 simp at D
 subst D;exact⟨w.heap.size,0,A,rfl,E,F,rfl,fun j u J=>by simpa using J⟩
def QO (base:Nat) (v:Value):Nat→Prop:=fun b=>base≤b∧some b≠v.ownBlock
structure Own {α:Type} (c:Cod α) (size:Nat) (e:TypeId) (w:World) (base:Nat) (v:Value) (l:List α) (xs:List Value):Prop where
 row:w.ownsRow base e size v l.length xs
 el:∀i x,l[i]? = some x→∃cs,c w (QO base v) x cs∧cs.length=size∧∀j u,cs[j]? = some u→xs[i*size+j]? = some u
section
variable {α:Type} {c:Cod α} {size:Nat} {w w':World} {e:TypeId} {base:Nat} {v:Value} {l:List α} {xs:List Value}
theorem Own.sl (h:Own c size e w base v l xs)(V:Good c):∃A n cap,v=.slice A n cap∧Sl c size w (fun b=>base≤b) A n cap l:=by
 rcases h.row.2 with⟨rfl,F⟩ | ⟨g,cap,aa,rfl,J,ac,Z,U,ab,ad⟩
 ·have:l=[]:=List.eq_nil_of_length_eq_zero F
  subst this;exact⟨none,0,0,rfl,Sl.nil _ _ _ _⟩
 ·refine⟨_,l.length,cap,rfl,rfl,Z,U,fun i x D=>?_⟩
  obtain⟨E,O,X,Q⟩:=h.el i x D;refine⟨g,0,E,rfl,J,V.keep O (fun b I _=>⟨rfl,I.1⟩),X,fun j u hu=>?_⟩;have W:i < l.length:=(List.getElem?_eq_some_iff.1 D).1
  have hj:j < size:=by have:=(List.getElem?_eq_some_iff.1 hu).1;omega
  have Y:i*size+j < l.length*size:=by
   have:(i+1)*size≤l.length*size:=Nat.mul_le_mul_right _ W;rw[Nat.add_mul]at this;omega
  have:=h.row.cellAt (g:=g) (i*size+j) Y;rw[Nat.zero_add,this];exact Q j u hu
theorem Own.nil (w:World)(c:Cod α)(size:Nat)(e:TypeId)(base:Nat):Own c size e w base (.slice none 0 0) [] []:=
 ⟨w.ownsRow_nil base e size,fun i x h=>by simp at h⟩
theorem Own.made (w:World)(c:Cod α)(size:Nat)(e:TypeId)(base:Nat)(A:Array Value)(cap:Nat)(D:base≤w.heap.size)(E:cap≤maxLen)(F:A.size=cap*size) :
  Own c size e (w.alloc (.cells A e)) base (.slice (some ⟨w.heap.size,0,none⟩) 0 cap) [] []:=
 ⟨World.ownsRow_made w A cap D E F,fun i x h=>by simp at h⟩
theorem Own.keep (h:Own c size e w base v l xs)(U:Good c)(F:∀b,base≤b→b < w.heap.size→w'.heap[b]? = w.heap[b]?):Own c size e w' base v l xs:=by
 refine⟨⟨h.row.1,?_⟩,fun i x X=>?_⟩
 ·rcases h.row.2 with O | ⟨g,cap,J,W,D,E,r⟩
  ·exact .inl O
  ·exact .inr ⟨g,cap,J,W,D,(F g D (Array.getElem?_eq_some_iff.1 E).1).trans E,r⟩
 ·obtain⟨I,Q,r⟩:=h.el i x X
  exact⟨I,U.keep Q (fun b A V=>⟨F b A.1 V,A⟩),r⟩
theorem Own.below (h:Own c size e w base v l xs)(D:Good c)(A:Below w.heap.size w w'):Own c size e w' base v l xs:=
 h.keep D fun b _ E=>A.block b E
theorem Own.mono {A:Nat}(h:Own c size e w base v l xs)(U:Good c)(E:A≤base):Own c size e w A v l xs:=by
 refine⟨⟨h.row.1,?_⟩,fun i x W=>?_⟩
 ·rcases h.row.2 with J | ⟨g,cap,I,V,O,r⟩
  ·exact .inl J
  ·exact .inr ⟨g,cap,I,V,Nat.le_trans E O,r⟩
 ·obtain⟨F,Q,r⟩:=h.el i x W
  exact⟨F,U.keep Q (fun b D _=>⟨rfl,Nat.le_trans E D.1,D.2⟩),r⟩
theorem Own.lt (h:Own c size e w base v l xs):∀k,v.ownBlock=some k→base≤k∧k < w.heap.size:=h.row.lt
theorem Own.joined {l2:List α}{A:Option Addr}{m cap:Nat}{S:Nat→Prop}{v':Value}{news:List Value}(h:Own c size e w base v l xs)(hg:Good c)(X:Sl c size w S A m cap l2)
  (D:∀x cs,c w S x cs→c w (QO base v) x cs) (ab:w.grownBy w' v.ownBlock) (aa:v'.ownBlock=v.ownBlock∨v'.ownBlock=some w.heap.size)
  (af:news.length=m*size) (ae:∀b O,A=some ⟨b,O,none⟩→∀j u,news[j]? = some u→w.cell? ⟨b,O+j,none⟩=some u)
  (ag:w'.ownsRow base e size v' (l++l2).length (xs++news)):Own c size e w' base v' (l++l2) (xs++news):=by
 refine⟨ag,fun i x I=>?_⟩;have ah:xs.length=l.length*size:=h.row.1
 have Y:∀{x:α} {cs:List Value},c w (QO base v) x cs→c w' (QO base v') x cs:=fun E=>
  hg.keep E fun b D J=>⟨ab.block b J D.2,D.1,by
   rcases aa with e | e<;>rw[e]
   ·exact D.2
   ·intro W;injection W with W;omega⟩
 by_cases hi:i < l.length
 ·rw[List.getElem?_append_left hi]at I
  obtain⟨cs,E,U,Q⟩:=h.el i x I;refine⟨cs,Y E,U,fun j u F=>?_⟩
  have hj:j < size:=by have:=(List.getElem?_eq_some_iff.1 F).1;omega
  rw[List.getElem?_append_left (by
   have:(i+1)*size≤l.length*size:=Nat.mul_le_mul_right _ hi;rw[Nat.add_mul]at this;omega)]
  exact Q j u F
 ·rw[List.getElem?_append_right (by omega)]at I
  obtain⟨b,O,cs,hA,_,E,U,Q⟩:=X.rd _ x I;refine⟨cs,Y (D _ _ E),U,fun j u F=>?_⟩
  have hj:j < size:=by have:=(List.getElem?_eq_some_iff.1 F).1;omega
  have ai:l.length*size≤i*size:=Nat.mul_le_mul_right _ (by omega);rw[List.getElem?_append_right (by omega),ah]
  have ac:i - l.length < m:=by
   have:=(List.getElem?_eq_some_iff.1 I).1;have:=X.len;omega
  have ad:i*size+j - l.length*size=(i - l.length)*size+j:=by rw[Nat.sub_mul];omega
  have J:(i - l.length)*size+j < news.length:=by
   rw[af];have:(i - l.length+1)*size≤m*size:=Nat.mul_le_mul_right _ ac;rw[Nat.add_mul]at this;omega
  rw[ad];have Z:=ae b O hA ((i - l.length)*size+j) news[(i - l.length)*size+j] (List.getElem?_eq_getElem J);have V:=Q j u F;rw[Nat.add_assoc,Z]at V;rw[List.getElem?_eq_getElem J];exact V
end
theorem Sl.news {α:Type}{c:Cod α}{size:Nat}{w:World}{S:Nat→Prop}{A:Option Addr}{m cap:Nat}{l:List α}(h:Sl c size w S A m cap l)(W:Good c) :
  ∃news:List Value,news.length=m*size∧(∀u∈news,u.oneCell'=true)∧∀b D,A=some ⟨b,D,none⟩→∀j u,news[j]? = some u→w.cell? ⟨b,D+j,none⟩=some u:=by
 obtain⟨Y,_,_,Z⟩:=h;subst Y
 have aa:∀k,k≤l.length→∃news:List Value,news.length=k*size∧(∀u∈news,u.oneCell'=true)∧∀b D,A=some ⟨b,D,none⟩→∀j u,news[j]? = some u→w.cell? ⟨b,D+j,none⟩=some u:=by
  intro k
  induction k with
  | zero=>exact fun _=>⟨[],by simp,by simp,by simp⟩
  | succ k ih=>
   intro hk;obtain⟨news,X,J,O⟩:=ih (by omega);obtain⟨b,D,I,F,_,Q,V,U⟩:=Z k l[k] (List.getElem?_eq_getElem (by omega));refine⟨news++I,by rw[List.length_append,X,V,Nat.add_mul];omega,?_,?_⟩
   ·intro u hu
    rcases List.mem_append.1 hu with hu | hu
    ·exact J u hu
    ·exact W.one Q u hu
   ·intro b' ab E j u hu
    rw[F]at E
    injection E with E
    injection E with hb ho _
    subst hb ho
    by_cases hj:j < news.length
    ·rw[List.getElem?_append_left hj]at hu
     exact O b D F j u hu
    ·rw[List.getElem?_append_right (by omega)]at hu
     have:=U _ u hu;rw[show D+j=D+k*size+(j - news.length)by omega];exact this
 exact aa l.length (Nat.le_refl _)
structure ElemOf (P:Program) (t e:TypeId) (size bytes:Nat):Prop where
 ht:P.underlying t=some (.slice e)
 hi:∃i z,P.info? e=some i∧i.zero=some z∧i.size=size∧i.bytes=bytes∧z.cells.size=size
 pos:0 < size
theorem ElemOf.mk' {P:Program}{t e:TypeId}{size bytes:Nat}{z:Value}(E:P.underlying t=some (.slice e))(A:(P.info? e).map (fun i=>(i.zero,i.size,i.bytes))=some (some z,size,bytes))
  (F:z.cells.size=size) (D:0 < size):ElemOf P t e size bytes:=by
 obtain⟨i,A,I,J,O⟩:=info_parts A;exact⟨E,⟨i,z,A,I,J,O,F⟩,D⟩
section
variable {P:Program} {α:Type} {c:Cod α} {size bytes:Nat} {t e:TypeId} {w:World} {base:Nat} {v:Value} {l:List α} {xs:List Value}
theorem ZTa (h:ElemOf P t e size bytes)(ty:TypeId)(E:w.ownsRow base e size v l.length xs)(k:Nat):(Builtin.append_ #[t,t] ty #[v,.slice none 0 k]).run P w=.ok v w:=by
 obtain⟨i,z,A,_⟩:=h.hi
 rcases E.2 with⟨rfl,_⟩ | ⟨g,cap,F,rfl,_,_,D,_⟩
 ·simp[Builtin.append_,run_underlying h.ht,sizeOf,typeInfo,A,Builtin.lenOf,Builtin.firstCells]
 ·simp[Builtin.append_,run_underlying h.ht,sizeOf,typeInfo,A,Builtin.lenOf,Builtin.firstCells,D,storeCells]
theorem QSc (D:ElemOf P t e size bytes)(W:Good c)(ty:TypeId)(E:Own c size e w base v l xs){A:Option Addr}{m cap:Nat}{S:Nat→Prop}{l2:List α}(ai:Sl c size w S A m cap l2)
  (hS:∀x O,c w S x O→c w (QO base v) x O) (V:(l.length+m)*bytes≤140737488355328) (ac:1≤bytes) (ad:base≤w.heap.size) :
  ∃v' w' ah,(Builtin.append_ #[t,t] ty #[v,.slice A m cap]).run P w=.ok v' w'∧Own c size e w' base v' (l++l2) ah∧w.grownBy w' v.ownBlock∧(v'.ownBlock=v.ownBlock∨v'.ownBlock=some w.heap.size):=by
 obtain⟨news,Y,h1,ae⟩:=ai.news W
 rcases Nat.eq_zero_or_pos m with rfl | hm
 ·have:l2=[]:=List.eq_nil_of_length_eq_zero ai.len
  subst this
  rcases A with _ | a
  ·refine⟨v,w,xs,ZTa D ty E.row cap,by simpa using E,⟨rfl,rfl,rfl,Nat.le_refl _,fun _ _ _=>rfl⟩,.inl rfl⟩
  ·obtain⟨i,z,X,hz,aa,U,ab⟩:=D.hi
   have hn:news=[]:=List.eq_nil_of_length_eq_zero (by simpa using Y);subst hn
   obtain⟨v',w',Z,Q,F,_,I⟩:=run_append_own_at w base t ty e i z size bytes D.ht X hz aa U ab D.pos v l.length xs E.row a 0 cap [] (by simp) (by simp) (by simp)
    (by have hx:l.length*1≤l.length*bytes:=Nat.mul_le_mul_left _ ac;simp only[maxLen];simp at V;omega) V ad
   have af:=E.joined (v':=v') W ai hS F I (news:=[]) (by simp) (by simp) (by simpa using Q);exact⟨v',w',_,Z,af,F,I⟩
 ·obtain⟨b,J,O,hA,_⟩:=ai.rd 0 (l2[0]'(by have:=ai.len;omega)) (List.getElem?_eq_getElem (by have:=ai.len;omega))
  subst hA;obtain⟨i,z,X,hz,aa,U,ab⟩:=D.hi
  have ag:∀j,(⟨b,J,none⟩:Addr).add j=⟨b,J+j,none⟩:=fun j=>by
   unfold Addr.add;split
   ·next h0=>rw[h0];rfl
   ·rfl
  obtain⟨v',w',Z,Q,F,_,I⟩:=run_append_own_at w base t ty e i z size bytes D.ht X hz aa U ab D.pos v l.length xs E.row ⟨b,J,none⟩ m cap news Y
   (fun j u hu=>by rw[ag];exact ae b J rfl j u hu) h1
   (by have hx:(l.length+m)*1≤(l.length+m)*bytes:=Nat.mul_le_mul_left _ ac;simp only[maxLen];omega) V ad
  exact⟨v',w',_,Z,E.joined W ai hS F I Y ae (by rw[List.length_append,ai.len];exact Q),F,I⟩
theorem Y1b {o:Oper}{a:Act}{K:Act→World→Prop}{Q:Exit→Act→World→Prop}(s x:Operand)
  (X:o.op=.call { callee:=.builtin .append,args:=#[s,x],argTypes:=#[t,t] })
  (V:ElemOf P t e size bytes) (W:Good c) {A:Option Addr} {m cap:Nat} {S:Nat→Prop} {l2:List α} (hs:a.eval s=v) (Y:Own c size e w base v l xs) (hx:a.eval x=.slice A m cap) (aa:Sl c size w S A m cap l2)
  (J:∀x D,c w S x D→c w (QO base v) x D) (U:(l.length+m)*bytes≤140737488355328) (O:1≤bytes) (ac:base≤w.heap.size)
  (h:∀v' w' ab,Own c size e w' base v' (l++l2) ab→w.grownBy w' v.ownBlock→(v'.ownBlock=v.ownBlock∨v'.ownBlock=some w.heap.size)→K (a.put o.dst v') w'):o.wp P a w K Q:=by
 obtain⟨v',w',ab,Z,E,F,I⟩:=QSc (P:=P) V W o.type Y aa J U O ac;unfold Oper.wp execOp;simp only[X,resolve,invoke,builtin,Sem.run_bind,Sem.run_pure,Result.andThen_ok,List.map_toArray,List.map_cons,List.map_nil,hs,hx,Z];exact h v' w' ab E F I
theorem QC {E:Array Oper}{F:List Oper}{o:Oper}{a:Act}{Q:Exit→Act→World→Prop}(Z:o.guard=none)(s x:Operand)
  (ho:o.op=.call { callee:=.builtin .append,args:=#[s,x],argTypes:=#[t,t] })
  (X:ElemOf P t e size bytes) (Y:Good c) {A:Option Addr} {m cap:Nat} {S:Nat→Prop} {l2:List α} (hs:a.eval s=v) (aa:Own c size e w base v l xs) (hx:a.eval x=.slice A m cap) (ab:Sl c size w S A m cap l2)
  (hS:∀x D,c w S x D→c w (QO base v) x D) (W:(l.length+m)*bytes≤140737488355328) (U:1≤bytes) (V:base≤w.heap.size)
  (h:∀v' w' ac,Own c size e w' base v' (l++l2) ac→w.grownBy w' v.ownBlock→(v'.ownBlock=v.ownBlock∨v'.ownBlock=some w.heap.size)→wpList P E Q F (a.put o.dst v') w'):wpList P E Q (o::F) a w:=
 wpList_plain Z fun _ hK=>Y1b s x ho X Y hs aa hx ab hS W U V fun v' w' ac I J O=>hK _ _ (h v' w' ac I J O)
end
theorem QP {α:Type}{c:Cod α}{size:Nat}{e:TypeId}{a w w':World}{base:Nat}{v:Value}{l:List α}{xs:List Value}(h:Below base a w)(F:Own c size e w base v l xs)(D:w.grownBy w' v.ownBlock)(A:base≤w.heap.size):Below base a w':=
 h.grown D A fun k E=>(F.lt k E).1
end Go.Proofs.YtjdcokpmgionjaaGreat
namespace Go.Proofs.YtjdcokpmgionjaaGreat
open Go.RowKit Go.Shelf
theorem gA {α:Type}{l:List α}{i:Nat}{x:α}(h:l[i]? = some x):l.toArray[i]? = some x:=by simpa using h
theorem ZH {k:IntKind}{a b:Int}(h:a=b):Ending.returned (.int k a)=.returned (.int k b):=by rw[h]
theorem ZN {a b:Bool}(h:a=b):Ending.returned (.bool a)=.returned (.bool b):=by rw[h]
def Qo (f:Nat→Int):Nat→Int
 | 0=>0
 | n+1=>if Qo f n=0 then f n else Qo f n
theorem Q4 {f:Nat→Int}{n:Nat}(h:Qo f n=0):Qo f (n+1)=f n:=by simp[Qo,h]
theorem UB {f:Nat→Int}{k n:Nat}(h:Qo f k=0)(A:f k≠0)(D:k < n):Qo f n=f k:=by
 induction n with
 | zero=>omega
 | succ n ih=>
  by_cases e:n=k
  ·subst e;exact Q4 h
  ·have:=ih (by omega)
   simp only[Qo,this,if_neg A]
def Qc (n a b:Int):Bool:=decide (a≤n) && decide (n≤b)
theorem QX {n a b:Int}(h:a≤n)(A:n≤b):Qc n a b=true:=by simp[Qc,h,A]
theorem QH {n a b:Int}(h:n < a∨b < n):Qc n a b=false:=by simp[Qc];omega
theorem Qj {n a b:Int} : Qc n a b=true↔a≤n∧n≤b:=by simp[Qc]
theorem Qk (n a b:Int)(w:World):Calls Tryz.prog 70 #[.int .i64 n,.int .i64 a,.int .i64 b] w fun e w'=>e=.returned (.bool (Qc n a b))∧w=w':=by
 go_enter Tryz.func70,Tryz.ntmps70
 go_wp2
 all_goals go_ret
 all_goals exact⟨ZN (by unfold Qc;simp;try omega),rfl⟩
theorem Qn {α:Type}{l:List α}{k:Nat}{x:α}(h:l[k]? = some x):l.take (k+1)=l.take k++[x]:=by
 rw[List.take_add_one,h];rfl
def Uq {α:Type} (p:α→Bool) (l:List α):Int:=if l.any p then (l.findIdx p:Int)else -1
section
variable {α:Type} {p:α→Bool} {l:List α} {k:Nat} {x:α}
theorem QF (A:l[k]? = some x):(l.take (k+1)).any p=((l.take k).any p || p x):=by rw[Qn A];simp
theorem Q7a (D:l[k]? = some x)(A:p x=true):l.any p=true:=List.any_eq_true.2 ⟨x,List.mem_of_getElem? D,A⟩
theorem VR (h:(l.take k).any p=false)(A:l[k]? = some x)(E:p x=true):Uq p l=(k:Int):=by
 have D:k < l.length:=(List.getElem?_eq_some_iff.1 A).1
 have F:l.findIdx p=k:=by
  rw[List.findIdx_eq D];refine⟨?_,fun j I=>?_⟩
  ·rw[List.getElem?_eq_getElem D]at A;injection A with A;rw[A];exact E
  ·have:=List.any_eq_false.1 h (l[j]'(by omega)) (List.mem_take_iff_getElem.2 ⟨j,by omega,rfl⟩)
   simpa using this
 unfold Uq;rw[Q7a A E,F];rfl
theorem Ud (h:l.any p=false):Uq p l=-1:=by unfold Uq;rw[h];rfl
theorem VD:decide (0≤Uq p l)=l.any p:=by
 unfold Uq
 cases l.any p<;>simp
theorem XL (h:l.length≤9223372036854775807) : -1≤Uq p l∧Uq p l < 9223372036854775807:=by
 unfold Uq
 cases e:l.any p
 ·simp
 ·have:l.findIdx p < l.length:=List.findIdx_lt_length.2 (by simpa using e)
  simp;omega
theorem Qnc (h:l.any p=true):0≤Uq p l∧Uq p l < l.length:=by
 unfold Uq;have:l.findIdx p < l.length:=List.findIdx_lt_length.2 (by simpa using h);rw[h,if_pos rfl];constructor<;>omega
end
theorem ZE {w:World}{b j:Nat}{A:Array Value}{t:TypeId}{D:Nat×Nat}{v:Value}(h:w.heap[b]? = some (.cells A t D))(E:A[j]? = some v):w.cell? ⟨b,j,none⟩=some v:=by simp[World.cell?,h,E]
theorem Za (w:World)(A:Obj):(w.alloc A).heap[w.heap.size]? = some A:=heap_alloc_new _ _
theorem QA (w:World)(A B:Obj):((w.alloc A).alloc B).heap[w.heap.size]? = some A:=(Below.heap_alloc _ _ _ (by simp)).trans (Za _ _)
theorem QB (w:World)(A B:Obj):((w.alloc A).alloc B).heap[w.heap.size+1]? = some B:=by
 have:=Za (w.alloc A) B
 rwa [show(w.alloc A).heap.size=w.heap.size+1 by simp]at this
theorem Yd (w:World)(A B C:Obj):(((w.alloc A).alloc B).alloc C).heap[w.heap.size]? = some A:=(Below.heap_alloc _ _ _ (by simp;omega)).trans (QA _ _ _)
theorem Ye (w:World)(A B C:Obj):(((w.alloc A).alloc B).alloc C).heap[w.heap.size+1]? = some B:=(Below.heap_alloc _ _ _ (by simp)).trans (QB _ _ _)
theorem Yf (w:World)(A B C:Obj):(((w.alloc A).alloc B).alloc C).heap[w.heap.size+1+1]? = some C:=by
 have:=QB (w.alloc A) B C
 rwa [show(w.alloc A).heap.size=w.heap.size+1 by simp]at this
theorem Own.form {α:Type}{c:Cod α}{size:Nat}{e:TypeId}{w:World}{base:Nat}{v:Value}{l:List α}{xs:List Value}(h:Own c size e w base v l xs)(J:0 < l.length) :
  ∃g cap,v=.slice (some ⟨g,0,none⟩) l.length cap∧base≤g∧g < w.heap.size:=by
 rcases h.row.2 with⟨_,I⟩ | ⟨g,cap,F,E,A,D,_⟩
 ·omega
 ·exact⟨g,cap,E,A,(Array.getElem?_eq_some_iff.1 D).1⟩
section
variable {α:Type} {c:Cod α} {size:Nat} {e:TypeId} {w:World} {base g n cap:Nat} {l:List α} {xs:List Value}
theorem Own.cells (h:Own c size e w base (.slice (some ⟨g,0,none⟩) n cap) l xs){i:Nat}{x:α}(I:l[i]? = some x) :
  ∃A,c w (QO base (.slice (some ⟨g,0,none⟩) n cap)) x A∧A.length=size∧(∀j u,A[j]? = some u→w.cell? ⟨g,i*size+j,none⟩=some u)∧∀j,w.frozen? ⟨g,j,none⟩=false:=by
 obtain⟨A,J,U,O⟩:=h.el i x I;have Q:i < l.length:=(List.getElem?_eq_some_iff.1 I).1;have D:=h.row
 have V:n=l.length:=by
  rcases D.2 with⟨E,_⟩ | ⟨Y,W,X,E,_⟩
  ·cases E
  ·injection E
 subst V;refine⟨A,J,U,fun j u F=>?_,fun j=>D.frozenAt j⟩
 have Z:j < size:=by have:=(List.getElem?_eq_some_iff.1 F).1;omega
 rw[D.cellAt _ (by
  have:(i+1)*size≤l.length*size:=Nat.mul_le_mul_right _ Q;rw[Nat.add_mul]at this;omega)]
 exact O j u F
end
class CodK {α:Type} (c:Cod α) (size:Nat):Prop where
 good:Good c
 pos:0 < size
instance intK:CodK QL 1:=⟨Qb,by omega⟩
instance boolK:CodK ZKb 1:=⟨QCb,by omega⟩
theorem Sl.bel {α:Type}{c:Cod α}{size:Nat}[k:CodK c size]{w w':World}{S:Nat→Prop}{A:Option Addr}{n cap:Nat}{l:List α}(h:Sl c size w S A n cap l)(D:Below w.heap.size w w'):Sl c size w' S A n cap l:=
 h.below k.good k.pos D
theorem Own.bel {α:Type}{c:Cod α}{size:Nat}[k:CodK c size]{w w':World}{e:TypeId}{base:Nat}{v:Value}{l:List α}{xs:List Value}(h:Own c size e w base v l xs)(A:Below w.heap.size w w'):Own c size e w' base v l xs:=
 h.below k.good A
def Blk (w:World) (b:Nat) (cs:Array Value) (t:TypeId):Prop:=w.heap[b]? = some (.cells cs t (0,0))
theorem Blk.lt {w:World}{b:Nat}{A:Array Value}{t:TypeId}(h:Blk w b A t):b < w.heap.size:=lt_of_block h
theorem Blk.bel {w w':World}{b:Nat}{A:Array Value}{t:TypeId}(h:Blk w b A t)(D:Below w.heap.size w w'):Blk w' b A t:=(D.block _ (lt_of_block h)).trans h
theorem Blk.new (w:World)(A:Array Value)(t:TypeId):Blk (w.alloc (.cells A t)) w.heap.size A t:=Za _ _
theorem Blk.old {w:World}{b:Nat}{A:Array Value}{t:TypeId}(h:Blk w b A t)(o:Obj):Blk (w.alloc o) b A t:=(Below.heap_alloc _ _ _ h.lt).trans h
theorem Blk.cell {w:World}{b j:Nat}{A:Array Value}{t:TypeId}{v:Value}(h:Blk w b A t)(D:A[j]? = some v):w.cell? ⟨b,j,none⟩=some v:=ZE h D
theorem Qf (w:World)(o:Obj):Below w.heap.size w (w.alloc o):=(Below.refl _ _).alloc (Nat.le_refl _) _
theorem Zh (w:World)(o p:Obj):Below w.heap.size w ((w.alloc o).alloc p):=(Qf w o).alloc (by simp) _
theorem Q8a (w:World)(o p q:Obj):Below w.heap.size w (((w.alloc o).alloc p).alloc q):=(Zh w o p).alloc (by simp;omega) _
theorem Sl.ofBlk {α:Type}{c:Cod α}{size:Nat}{w:World}{S:Nat→Prop}{b:Nat}{D:Array Value}{t:TypeId}(h:Blk w b D t)(l:List α)(V:l.length≤1000000)(E:S b)
  (J:∀i x,l[i]? = some x→∃A,c w S x A∧A.length=size∧∀j u,A[j]? = some u→D[i*size+j]? = some u):Sl c size w S (some ⟨b,0,none⟩) l.length l.length l:=by
 refine⟨rfl,Nat.le_refl _,by simp only[maxLen];omega,fun i x U=>?_⟩;obtain⟨A,F,O,I⟩:=J i x U;exact⟨b,0,A,rfl,E,F,O,fun j u Q=>by rw[Nat.zero_add];exact h.cell (I j u Q)⟩
theorem Sl.ofInts {w:World}{S:Nat→Prop}{b:Nat}{t:TypeId}(l:List Int)(h:Blk w b (l.map (Value.int .i64)).toArray t)(I:l.length≤1000000)(F:S b)(E:∀x∈l,-1000000000000000≤x∧x≤1000000000000000) :
  Sl QL 1 w S (some ⟨b,0,none⟩) l.length l.length l:=
 Sl.ofBlk h l I F fun i x D=>⟨[.int .i64 x],⟨rfl,.of (E x (List.mem_of_getElem? D)).1 (E x (List.mem_of_getElem? D)).2⟩,rfl,fun j u A=>by
  rcases j with _ | j
  ·simp at A;subst A;simp[D]
  ·simp at A⟩
theorem Blk.new1 (w:World)(o:Obj)(A:Array Value)(t:TypeId):Blk ((w.alloc o).alloc (.cells A t)) (w.heap.size+1) A t:=by
 have:=Blk.new (w.alloc o) A t
 rwa [show(w.alloc o).heap.size=w.heap.size+1 by simp]at this
theorem Blk.new2 (w:World)(o p:Obj)(A:Array Value)(t:TypeId):Blk (((w.alloc o).alloc p).alloc (.cells A t)) (w.heap.size+1+1) A t:=by
 have:=Blk.new ((w.alloc o).alloc p) A t
 rwa [show((w.alloc o).alloc p).heap.size=w.heap.size+1+1 by simp]at this
theorem Blk.new3 (w:World)(o p q:Obj)(A:Array Value)(t:TypeId):Blk ((((w.alloc o).alloc p).alloc q).alloc (.cells A t)) (w.heap.size+1+1+1) A t:=by
 have:=Blk.new (((w.alloc o).alloc p).alloc q) A t
 rwa [show(((w.alloc o).alloc p).alloc q).heap.size=w.heap.size+1+1+1 by simp]at this
theorem Blk.new4 (w:World)(o p q r:Obj)(A:Array Value)(t:TypeId):Blk (((((w.alloc o).alloc p).alloc q).alloc r).alloc (.cells A t)) (w.heap.size+1+1+1+1) A t:=by
 have:=Blk.new ((((w.alloc o).alloc p).alloc q).alloc r) A t
 rwa [show((((w.alloc o).alloc p).alloc q).alloc r).heap.size=w.heap.size+1+1+1+1 by simp]at this
theorem Blk.new5 (w:World)(o p q r s:Obj)(A:Array Value)(t:TypeId):Blk ((((((w.alloc o).alloc p).alloc q).alloc r).alloc s).alloc (.cells A t)) (w.heap.size+1+1+1+1+1) A t:=by
 have:=Blk.new (((((w.alloc o).alloc p).alloc q).alloc r).alloc s) A t
 rwa [show(((((w.alloc o).alloc p).alloc q).alloc r).alloc s).heap.size=w.heap.size+1+1+1+1+1 by simp]at this
theorem Zt {α:Type}{c:Cod α}{size:Nat}(D:Good c)(E:0 < size):Good (slC c size):=
 ⟨fun⟨A,n,cap,e,h⟩ hk=>⟨A,n,cap,e,h.keep D E hk⟩,fun⟨A,n,cap,e,_⟩ u hu=>by subst e;simp at hu;subst hu;rfl⟩
theorem YO {P:Program}{t t2:TypeId}{A:Array Oper}{D:List Oper}{o:Oper}{a:Act}{w w':World}{v u v':Value}{Q:Exit→Act→World→Prop}(E:o.guard=none)(s x:Operand)
  (F:o.op=.call { callee:=.builtin .append,args:=#[s,x],argTypes:=#[t,t2] }) (J:a.eval s=v) (O:a.eval x=u)
  (I:(Builtin.append_ #[t,t2] o.type #[v,u]).run P w=.ok v' w') (h:wpList P A Q D (a.put o.dst v') w'):wpList P A Q (o::D) a w:=
 wpList_plain E fun _ hK=>by
  unfold Oper.wp execOp;simp only[F,resolve,invoke,builtin,Sem.run_bind,Sem.run_pure,Result.andThen_ok,List.map_toArray,List.map_cons,List.map_nil,J,O,I];exact hK _ _ h
theorem QY {α:Type}{c:Cod α}(F:VV c){size:Nat}{e:TypeId}{w:World}{base:Nat}{v:Value}{l:List α}{xs:List Value}(h:Own c size e w base v l xs){a:Addr}(D:v.ownBlock≠some a.block)(u:Value):Own c size e (w.setCell a u) base v l xs:=
 ⟨ownsRow_setCell_other h.row D u,fun i x I=>by
  obtain⟨A,E,r⟩:=h.el i x I;exact⟨A,F _ _ _ _ _ _ E,r⟩⟩
structure Kept (S:Nat→Prop) (w w':World):Prop where
 os:w'.os=w.os
 tape:w'.tape=w.tape
 output:w'.output=w.output
 size:w.heap.size≤w'.heap.size
 block:∀k,k < w.heap.size→¬S k→w'.heap[k]? = w.heap[k]?
theorem Kept.refl (S:Nat→Prop)(w:World):Kept S w w:=⟨rfl,rfl,rfl,Nat.le_refl _,fun _ _ _=>rfl⟩
theorem Kept.trans {S:Nat→Prop}{a b c:World}(h:Kept S a b)(k:Kept S b c):Kept S a c:=
 ⟨k.os.trans h.os,k.tape.trans h.tape,k.output.trans h.output,Nat.le_trans h.size k.size,fun i D A=>(k.block i (Nat.lt_of_lt_of_le D h.size) A).trans (h.block i D A)⟩
theorem Kept.mono {S T:Nat→Prop}{a b:World}(h:Kept S a b)(D:∀k,k < a.heap.size→S k→T k):Kept T a b:=
 ⟨h.os,h.tape,h.output,h.size,fun i A E=>h.block i A fun F=>E (D i A F)⟩
theorem Kept.of_below {S:Nat→Prop}{a b:World}{B:Nat}(h:Below B a b)(D:∀k,k < a.heap.size→B≤k→S k):Kept S a b:=
 ⟨h.os,h.tape,h.output,h.size,fun i F E=>h.block i (by rcases Nat.lt_or_ge i B with A | A;exact A;exact absurd (D i F A) E)⟩
theorem Kept.below {S:Nat→Prop}{a b:World}{B:Nat}(h:Kept S a b)(E:B≤a.heap.size)(A:∀k,k < B→¬S k):Below B a b:=
 ⟨h.os,h.tape,h.output,h.size,fun i D=>h.block i (by omega) (A i D)⟩
theorem Kept.alloc {S:Nat→Prop}{a w:World}(h:Kept S a w)(o:Obj):Kept S a (w.alloc o):=
 h.trans ⟨rfl,rfl,rfl,by simp,fun k A _=>Below.heap_alloc _ _ _ A⟩
theorem Kept.drew {S:Nat→Prop}{a w:World}(h:Kept S a w):Kept S a w.drew:=⟨h.os,h.tape,h.output,h.size,h.block⟩
theorem Kept.setCell {S:Nat→Prop}{a w:World}(h:Kept S a w){p:Addr}(A:S p.block∨a.heap.size≤p.block)(u:Value):Kept S a (w.setCell p u):=
 ⟨h.os,h.tape,h.output,by simpa [World.setCell] using h.size,fun k E D=>(Below.heap_setCell _ _ _ _ (by rintro rfl;rcases A with A | A;exact D A;omega)).trans (h.block k E D)⟩
theorem Blk.kept {S:Nat→Prop}{w w':World}{b:Nat}{A:Array Value}{t:TypeId}(h:Blk w b A t)(E:Kept S w w')(D:¬S b):Blk w' b A t:=(E.block b h.lt D).trans h
theorem Sl.kept {α:Type}{c:Cod α}{size:Nat}[k:CodK c size]{w w':World}{S T:Nat→Prop}{A:Option Addr}{n cap:Nat}{l:List α}(h:Sl c size w T A n cap l)(F:Kept S w w')(E:∀b,b < w.heap.size→T b→¬S b):Sl c size w' T A n cap l:=
 h.keep k.good k.pos fun b I D=>⟨F.block b D (E b D I),I⟩
end Go.Proofs.YtjdcokpmgionjaaGreat
namespace Go.Proofs.YtjdcokpmgionjaaGreat
open Go.RowKit
theorem yh {p:Prop}(h:p):Hid p:=h
abbrev yw (w:World):World→Prop:=Below w.heap.size w
abbrev yI (w:World) (g i:Nat) (v:Int):Prop:=w.cell? ⟨g,i,none⟩=some (.int .i64 v)
abbrev yJ (w:World) (g i:Nat) (A:Option Addr) (n c:Nat):Prop:=w.cell? ⟨g,i,none⟩=some (.slice A n c)
theorem yP (a:Act)(d:Tmp)(v:Value):a.put (some d) v={ a with tmps:=a.tmps.setIfInBounds d v }:=rfl
theorem yQ (a:Act)(v:Value):a.put none v=a:=rfl
section
variable {P:Program} {ops:Array Oper} {Q:Exit→Act→World→Prop} {md:Region.Mode} {S:World→Prop}
def yb (md:Region.Mode) (ops:Array Oper):List Nat→Nat→Array Bool→Bool
 | [],_,_=>true
 | _::_,0,_=>false
 | i::l,f+1,b=>Region.free md ops b i && ((Region.ready md ops b).contains i && yb md ops l f (b.setIfInBounds i true))
def yL (P:Program) (ops:Array Oper) (Q:Exit→Act→World→Prop) (md:Region.Mode) (S:World→Prop):List Nat→Nat→Array Bool→Act→World→Prop
 | [],f,b,a,w=>wpAnyH P md ops Q S f b a w
 | _::_,0,_,_,_=>True
 | i::l,f+1,b,a,w=>∃oi v,ops[i]? = some oi∧(∀c a w,Q (.panic c) (a.put oi.dst v) w→Q (.panic c) a w)∧YieldsIf P ops S oi v a∧yL P ops Q md S l f (b.setIfInBounds i true) (a.put oi.dst v) w
theorem yG (hs:Region.noSelect ops=true){w:World}(hS:S w):∀(l:List Nat) (f:Nat) (b:Array Bool) (a:Act),yb md ops l f b=true→yL P ops Q md S l f b a w→wpAnyH P md ops Q S f b a w
 | [],_,_,_,_,h=>h
 | _::_,0,_,_,h0,_=>by cases h0
 | i::l,f+1,b,a,h0,h=>by
  obtain⟨oi,v,ho,hq,hy,h⟩:=h;unfold yb at h0;rw[Bool.and_eq_true,Bool.and_eq_true]at h0;exact wpAnyH_take ho hs h0.1 h0.2.1 hq hy hS (yG hs hS l f _ _ h0.2.2 h)
theorem yT (l:List Nat){f:Nat}{b:Array Bool}{a:Act}{w:World}(h0:(Region.noSelect ops && yb md ops l f b)=true)(hS:S w)(h:yL P ops Q md S l f b a w):wpAnyH P md ops Q S f b a w:=by
 rw[Bool.and_eq_true]at h0;exact yG h0.1 hS l f b a h0.2 h
theorem yS {i:Nat}{l:List Nat}{f:Nat}{b:Array Bool}{a:Act}{w:World}{oi:Oper}{v:Value}(ho:ops[i]? = some oi)(hq:∀c a w,Q (.panic c) (a.put oi.dst v) w→Q (.panic c) a w)(hw:Region.wanted oi (yielded ops a.tmps)=true)(hy:∀w,S w→(execOp a.eval oi).run P w=.ok (.value v) w)
  (h:yL P ops Q md S l f (b.setIfInBounds i true) (a.put oi.dst v) w):yL P ops Q md S (i::l) (f+1) b a w:=⟨oi,v,ho,hq,.inl ⟨hw,hy⟩,h⟩
theorem yR (i:Nat){o:Oper}{fuel:Nat}{listed:Array Bool}{a:Act}{w:World}(hr:Region.ready md ops listed=[i])(ho:ops[i]? = some o)
  (h:∀K':Act→World→Prop,Shut (∀a w,S w→(S w→wpAnyH P md ops Q S fuel (listed.setIfInBounds i true) a w)→K' a w)→if Region.wanted o (yielded ops a.tmps)=true then Oper.wp P o a w K' Q else K' (a.put o.dst undef) w):wpAnyH P md ops Q S (fuel+1) listed a w:=
 wpAnyH_ready hr (by simp) (AllReadyH.cons ho h AllReadyH.nil)
end
theorem yA {α:Type}(l:List α)(i:Nat)(a:α):l.toArray.setIfInBounds i a=(l.set i a).toArray:=List.setIfInBounds_toArray ..
theorem yB {α:Type}(a x:α)(l:List α):(a::l).set 0 x=x::l:=rfl
theorem yC {α:Type}(a x:α)(l:List α)(n:Nat):(a::l).set (n+1) x=a::l.set n x:=rfl
end Go.Proofs.YtjdcokpmgionjaaGreat
namespace Go.Proofs.YtjdcokpmgionjaaGreat
open Go.RowKit Go.Shelf
theorem Ur:ElemOf Tryz.prog 70 3 1 8:=.mk' Tryz.underlying70 (z:=.int .i64 0) (by kernel_rfl) rfl (by omega)
theorem Vna (A:Option Addr)(n cap:Nat)(l:List Int)(g:Nat)(lb:Array Value)(p:Int→Bool)(w:World)(h:Sl QL 1 w All A n cap l)
  (eg:∀U w,(callFunc g U).run Tryz.prog w=.ok (.enter g U) w)
  (V:∀(x:Int) (w1:World),x∈l→yw w w1→Calls Tryz.prog g (#[.int .i64 x]++lb) w1 fun e w'=>e=.returned (.bool (p x))∧yw w1 w') :
  Calls Tryz.prog 198 #[.slice A n cap,.func (.func g) #[] lb] w fun e w'=>e=.returned (.int .i64 (Uq p l))∧yw w w':=by
 have Y:=yh V;clear V;have aa:=h.bd
 go_enter Tryz.func198,Tryz.ntmps198
 go_wp2_with fail
 go_loopg [8] n (fun gk i wr=>∃k:Nat,k≤n∧n - k≤gk∧i=.int .i64 k∧Aside ((l.take k).any p=false)∧yw w wr)
 case atStart=>exact⟨0,Nat.zero_le _,by omega,rfl,rfl,Below.refl _ _⟩
 case round=>
  obtain⟨k,hk,ab,rfl,I,D⟩:=hrel
  by_cases hlt:k < n
  ·obtain⟨b,ac,x,Z,rfl,O,F,g0⟩:=(h.below Qb (by omega) D).at1 hlt
   obtain⟨F,hw⟩:=F;simp only[List.cons.injEq,and_true]at F;obtain rfl:=F;have Q:=yh O;have W:=yh (List.mem_of_getElem? O);clear O
   have E:=fun w1 (ad:yw w w1)=>Y.out x w1 W.out ad
   cases hq:p x with
   | true=>
    rw[hq]at E;have J:=yh hq;clear hq
    go_wp2_with (go_at_fn g;refine(E _ D).mono ?_;rintro e w1 ⟨rfl,ad⟩;replace ad:=D.trans (ad.mono D.size);clear E)
    go_ret
    exact⟨ZH (VR I Q.out J.out).symm,ad⟩
   | false=>
    rw[hq]at E;have J:=yh hq;clear hq
    go_wp2_with (go_at_fn g;refine(E _ D).mono ?_;rintro e w1 ⟨rfl,ad⟩;replace ad:=D.trans (ad.mono D.size);clear E)
    go_roundg (n - (k+1))
    case measure=>omega
    case rel=>exact⟨k+1,by omega,by omega,by go_num,by show _=_;rw[QF Q.out,I,J.out];rfl,ad⟩
  ·have:k=n:=by omega
   subst this;have X:=yh (List.take_of_length_le (Nat.le_of_eq h.len))
   go_wp2_with fail
   go_ret
   exact⟨ZH (by rw[Ud (by rw[←X.out];exact I)]),D⟩
theorem Q0a (A:Option Addr)(n cap:Nat)(l:List Int)(g:Nat)(lb:Array Value)(p:Int→Bool)(w:World)(h:Sl QL 1 w All A n cap l)
  (I:∀Q w,(callFunc g Q).run Tryz.prog w=.ok (.enter g Q) w)
  (D:∀(x:Int) (w1:World),x∈l→yw w w1→Calls Tryz.prog g (#[.int .i64 x]++lb) w1 fun e w'=>e=.returned (.bool (p x))∧yw w1 w') :
  Calls Tryz.prog 116 #[.slice A n cap,.func (.func g) #[] lb] w fun e w'=>e=.returned (.bool (l.any p))∧yw w w':=by
 have E:=Vna A n cap l g lb p w h I D;clear D
 go_enter Tryz.func116,Tryz.ntmps116
 go_wp2_with fail
 refine E.mono ?_;rintro e w1 ⟨rfl,J⟩;have F:=yh (VD (p:=p) (l:=l));have O:=XL (p:=p) (l:=l) (by have:=h.bd;have:=h.len;omega)
 go_wp2_with fail
 go_ret
 exact⟨ZN F.out,J⟩
theorem VIa (A:Option Addr)(n cap:Nat)(l:List Int)(w:World)(h:Sl QL 1 w All A n cap l)(O:n*8≤140737488355328) :
  Calls Tryz.prog 220 #[.slice A n cap] w fun e w'=>∃v xs,e=.returned v∧Own QL 1 3 w' w.heap.size v l xs∧yw w w':=by
 have Q:=fun(W:World) (a:Option Addr)=>Lib.run_eql_slice_nil (P:=Tryz.prog) W 70 3 a n cap 0 0 Tryz.underlying70
 rcases A with _ | a
 ·have F:l=[]:=by
   rcases l with _ | ⟨x,l⟩
   ·rfl
   ·obtain⟨b,U,J,X,_⟩:=h.rd 0 x rfl
    cases X
  subst F
  go_enter Tryz.func220,Tryz.ntmps220
  go_wp2
  go_ret
  exact⟨_,_,rfl,Own.nil _ _ _ _ _,Below.refl _ _⟩
 ·go_enter Tryz.func220,Tryz.ntmps220
  go_wp2_with (at_builtin;refine QC (t:=70) (e:=3) (bytes:=8) rfl (.tmp 5) (.tmp 6) rfl Ur Qb rfl (Own.made w QL 1 3 w.heap.size #[] 0 (Nat.le_refl _) (by simp[maxLen]) rfl) rfl (h.below Qb (by omega) ((Below.refl _ _).alloc (Nat.le_refl _) _)) (fun _ _ D=>D) (by simp;omega) (by omega) (by simp) ?_;intro v' w' V I E _)
  go_ret
  exact⟨_,_,rfl,I,QP (Below.alloc (Below.refl _ _) (Nat.le_refl _) _) (Own.made w QL 1 3 w.heap.size #[] 0 (Nat.le_refl _) (by simp[maxLen]) rfl) E (by simp)⟩
def mx (l:List Int):Int:=l.foldl max (-1)
theorem Udb (l:List Int)(x:Int):mx (l++[x])=max (mx l) x:=by simp[mx]
theorem Ueb {l:List Int}{k:Nat}{x:Int}(h:l[k]? = some x):mx (l.take (k+1))=max (mx (l.take k)) x:=by rw[Qn h,Udb]
theorem QGa (l:List Int):∀a,a≤l.foldl max a∧(∀x∈l,x≤l.foldl max a)∧(l.foldl max a=a∨l.foldl max a∈l):=by
 induction l with
 | nil=>intro a;simp
 | cons y l ih=>
  intro a;obtain⟨F,E,A⟩:=ih (max a y);rw[List.foldl_cons];refine⟨by omega,?_,?_⟩
  ·intro x D
   rcases List.mem_cons.1 D with rfl | D
   ·omega
   ·exact E x D
  ·rcases A with A | A
   ·rw[A]
    rcases Int.le_total a y with h | h
    ·right;rw[Int.max_eq_right h];simp
    ·left;rw[Int.max_eq_left h]
   ·right;exact List.mem_cons_of_mem _ A
theorem Uuc {l:List Int}{x:Int}(h:x∈l):x≤mx l:=(QGa l (-1)).2.1 x h
theorem Uxc (l:List Int) : -1≤mx l:=(QGa l (-1)).1
theorem Uvc {l:List Int}(h:∀x∈l,InI x):InI (mx l):=by
 rcases(QGa l (-1)).2.2 with e | e
 ·unfold mx;rw[e];exact .of (by omega) (by omega)
 ·exact h _ e
theorem Sl.ints {w:World}{A:Option Addr}{n cap:Nat}{l:List Int}(h:Sl QL 1 w All A n cap l):∀x∈l,InI x:=by
 intro x E;obtain⟨i,D⟩:=List.getElem?_of_mem E;obtain⟨_,_,_,_,_,F,_⟩:=h.rd i x D;exact F.2
theorem Y4b (A:Option Addr)(n cap:Nat)(l:List Int)(w:World)(h:Sl QL 1 w All A n cap l)(V:0 < n)(D:∀x∈l,0≤x) :
  Calls Tryz.prog 121 #[.slice A n cap] w fun e w'=>e=.returned (.int .i64 (mx l))∧w'=w:=by
 have aa:=h.bd;obtain⟨b,ae,x,c0,rfl,F,⟨hc,Y⟩,U⟩:=h.at1 V;simp only[List.cons.injEq,and_true]at hc;subst hc;have ad:=D x (List.mem_of_getElem? F);have Q:=yh (show mx (l.take 1)=x by rw[Ueb F];simp[mx];omega);have X:=yh D;clear F D;simp only[Nat.add_zero]at U
 go_enter Tryz.func121,Tryz.ntmps121
 go_wp2_with fail
 go_loopg [3,4] n (fun gk m i wr=>∃k:Nat,k≤n∧1≤k∧n - k≤gk∧i=.int .i64 k∧m=.int .i64 (mx (l.take k))∧wr=w)
 case atStart=>exact⟨1,by omega,by omega,by omega,rfl,by rw[Q.out],rfl⟩
 case round=>
  obtain⟨k,hk,ac,ab,rfl,rfl,rfl⟩:=hrel
  by_cases hlt:k < n
  ·obtain⟨b',af,y,c1,E,I,⟨hc,Z⟩,g1⟩:=h.at1 hlt
   simp only[List.cons.injEq,and_true]at hc;subst hc
   injection E with E
   injection E with e1 e2 _
   subst e1 e2;have J:=yh (Ueb I);have hm:=Uvc (l:=l.take k) (fun z W=>Sl.ints h z (List.mem_of_mem_take W));clear I
   go_wp2_with fail
   all_goals go_roundg (n - (k+1))
   all_goals first
    | omega
    | exact⟨k+1,by omega,by omega,by omega,by go_num,by rw[J.out];congr 1;omega,rfl⟩
  ·have:k=n:=by omega
   subst this;have O:=yh (List.take_of_length_le (Nat.le_of_eq h.len))
   go_wp2_with fail
   go_ret
   exact⟨ZH (by rw[O.out]),rfl⟩
theorem UBb (A:Option Addr)(n cap:Nat)(l:List Int)(v:Int)(w:World)(h:Sl QL 1 w All A n cap l) :
  Calls Tryz.prog 199 #[.slice A n cap,.int .i64 v] w fun e w'=>e=.returned (.int .i64 (Uq (fun x=>v == x) l))∧w'=w:=by
 have W:=h.bd
 go_enter Tryz.func199,Tryz.ntmps199
 go_wp2_with fail
 go_loopg [8] n (fun gk i wr=>∃k:Nat,k≤n∧n - k≤gk∧i=.int .i64 k∧Aside ((l.take k).any (fun x=>v == x)=false)∧wr=w)
 case atStart=>exact⟨0,Nat.zero_le _,by omega,rfl,rfl,rfl⟩
 case round=>
  obtain⟨k,Y,X,rfl,HA,rfl⟩:=hrel
  by_cases hlt:k < n
  ·obtain⟨b,Z,x,U,rfl,F,⟨E,Q⟩,V⟩:=h.at1 hlt
   simp only[List.cons.injEq,and_true]at E;subst E;have D:=yh F;clear F
   by_cases hq:v=x
   ·subst hq
    go_wp2_with fail
    go_ret
    exact⟨ZH (VR HA D.out (by simp)).symm,rfl⟩
   ·have O:(v == x)=false:=by simpa using hq
    clear hq;have I:=yh O
    go_wp2_with fail
    go_roundg (n - (k+1))
    case measure=>omega
    case rel=>exact⟨k+1,by omega,by omega,by go_num,by show _=_;rw[QF D.out,HA,I.out];rfl,rfl⟩
  ·have:k=n:=by omega
   subst this;have J:=yh (List.take_of_length_le (Nat.le_of_eq h.len))
   go_wp2_with fail
   go_ret
   exact⟨ZH (by rw[Ud (by rw[←J.out];exact HA)]),rfl⟩
structure Span where
 frm:Int
 upto:Int
 deriving DecidableEq,Inhabited
def Ug:Cod Span:=fun _ _ x cs=>cs=[.int .i64 x.frm,.int .i64 x.upto]∧InI x.frm∧InI x.upto
theorem XU:VV Ug:=fun _ _ _ _ _ _ h=>h
theorem Ql:Good Ug:=.of_flat XU fun h u A=>by obtain⟨rfl,_⟩:=h;simp at A;rcases A with rfl | rfl<;>rfl
def Xq (n:Int):Bool:=Qc n 1 7
def Vg (s:Span) (legs:Int):Int:=if Xq legs=false∨s.frm < 0∨legs < s.upto then 3 else if s.upto≤s.frm then 4 else 0
theorem USa (n:Int)(w:World):Calls Tryz.prog 156 #[.int .i64 n] w fun e w'=>e=.returned (.bool (Xq n))∧w=w':=by
 go_enter Tryz.func156,Tryz.ntmps156
 go_wp2
 all_goals go_ret
 all_goals exact⟨ZN (by simp[Xq,Qc];try omega),rfl⟩
theorem VCa (a b:Int)(A:Int)(w:World):Calls Tryz.prog 114 #[.agg #[.int .i64 a,.int .i64 b],.int .i64 A] w fun e w'=>e=.returned (.int .i64 (Vg ⟨a,b⟩ A))∧yw w w':=by
 go_enter Tryz.func114,Tryz.ntmps114
 have I:∃q,q=Xq A:=⟨_,rfl⟩;obtain⟨q,D⟩:=I;have F:=yh D
 have E:=fun W=>USa A W
 rw[←D]at E;clear D
 cases q
 all_goals go_wp2_with (go_at_call 156;refine(E _).mono ?_;rintro e w' ⟨rfl,rfl⟩)
 all_goals go_ret
 all_goals refine⟨ZH ?_,(Below.refl _ _).alloc (Nat.le_refl _) _⟩
 all_goals (try simp at *)
 all_goals unfold Vg
 all_goals rw[F.out]
 all_goals dsimp only
 all_goals simp
 all_goals (repeat' split)
 all_goals omega
theorem Vka (a b:Int)(A:Int)(w:World):Calls Tryz.prog 145 #[.agg #[.int .i64 a,.int .i64 b],.int .i64 A] w fun e w'=>e=.returned (.int .i64 (Vg ⟨a,b⟩ A))∧yw w w':=by
 go_enter Tryz.func145,Tryz.ntmps145
 have I:∃q,q=Xq A:=⟨_,rfl⟩;obtain⟨q,D⟩:=I;have F:=yh D
 have E:=fun W=>Qk A 1 7 W
 rw[show Qc A 1 7=Xq A from rfl,←D]at E;clear D
 cases q
 all_goals go_wp2_with (go_at_call 70;refine(E _).mono ?_;rintro e w' ⟨rfl,rfl⟩)
 all_goals go_ret
 all_goals refine⟨ZH ?_,(Below.refl _ _).alloc (Nat.le_refl _) _⟩
 all_goals (try simp at *)
 all_goals unfold Vg
 all_goals rw[F.out]
 all_goals dsimp only
 all_goals simp
 all_goals (repeat' split)
 all_goals omega
def seg (l:List Int) (a b:Int):List Int:=(l.drop a.toNat).take (b.toNat - a.toNat)
theorem Sl.segm {w:World}{A:Option Addr}{n cap f t:Nat}{l:List Int}(h:Sl QL 1 w All A n cap l)(E:f < t)(D:t≤n):Sl QL 1 w All (A.map fun x=>x.add f) (t - f) (cap - f) (seg l f t):=by
 have F:=h.cut (k:=f) (m:=t) (by omega) D;rw[if_neg (by have:=h.le;omega)]at F;unfold seg
 simpa using F
theorem Ukb {l:List Int}{a b x:Int}(h:x∈seg l a b):x∈l:=List.mem_of_mem_drop (List.mem_of_mem_take h)
theorem Zsa (w:World)(S:Nat→Prop)(x:Int)(t:TypeId)(D:InI x)(A:S w.heap.size):Sl QL 1 (w.alloc (.cells #[.int .i64 x] t)) S (some ⟨w.heap.size,0,none⟩) 1 1 [x]:=
 Sl.lit1 w S t x [.int .i64 x] ⟨rfl,D⟩ A
def SpanAt (w:World) (b:Nat) (x y:Int):Prop:=w.heap[b]? = some (.cells #[.int .i64 x,.int .i64 y] 51 (0,0))
theorem SpanAt.c0 {w:World}{b:Nat}{x y:Int}(h:SpanAt w b x y):yI w b 0 x:=ZE h rfl
theorem SpanAt.c1 {w:World}{b:Nat}{x y:Int}(h:SpanAt w b x y):yI w b 1 y:=ZE h rfl
theorem SpanAt.below {w w':World}{b:Nat}{x y:Int}(h:SpanAt w b x y)(A:yw w w'):SpanAt w' b x y:=(A.block _ (lt_of_block h)).trans h
theorem SpanAt.new (w:World)(x y:Int):SpanAt (w.alloc (.cells #[.int .i64 x,.int .i64 y] 51)) w.heap.size x y:=Za _ _
end Go.Proofs.YtjdcokpmgionjaaGreat
namespace Go.Proofs.YtjdcokpmgionjaaGreat
open Go.RowKit
section
variable {P:Program} {α:Type} {c:Cod α} {size bytes:Nat} {t e:TypeId} {w:World} {base:Nat} {v:Value} {l:List α} {xs:List Value}
theorem Yw {D:Array Oper}{o:Oper}{a:Act}{K:Act→World→Prop}{Q:Exit→Act→World→Prop}{E:Prop}(U:o.guard=none)(s x:Operand)
  (V:o.op=.call { callee:=.builtin .append,args:=#[s,x],argTypes:=#[t,t] })
  (O:ElemOf P t e size bytes) (hg:Good c) {A:Option Addr} {m cap:Nat} {S:Nat→Prop} {l2:List α} (X:a.eval s=v) (hx:a.eval x=.slice A m cap) (W:Own c size e w base v l xs) (Y:Sl c size w S A m cap l2)
  (hS:∀x cs,c w S x cs→c w (QO base v) x cs) (J:(l.length+m)*bytes≤140737488355328) (F:1≤bytes) (I:base≤w.heap.size)
  (h:∀v' w' aa,Own c size e w' base v' (l++l2) aa→w.grownBy w' v.ownBlock→(v'.ownBlock=v.ownBlock∨v'.ownBlock=some w.heap.size)→K (a.put o.dst v') w') :
  if Region.wanted o (yielded D a.tmps)=true then Oper.wp P o a w K Q else E:=by
 have Z:Region.wanted o (yielded D a.tmps)=true:=by simp[Region.wanted,U]
 rw[if_pos Z];exact Y1b s x V O hg X W hx Y hS J F I h
end
end Go.Proofs.YtjdcokpmgionjaaGreat
namespace Go.Proofs.YtjdcokpmgionjaaGreat
open Go.RowKit Go.Shelf
theorem XA (A B:Option Addr)(n cap m V:Nat)(l l2:List Int)(w:World)(h:Sl QL 1 w All A n cap l)(W:Sl QL 1 w All B m V l2) :
  Calls Tryz.prog 65 #[.slice A n cap,.slice B m V] w fun e w'=>e=.returned (.bool (decide (l=l2)))∧∃q,w'=w.drewN q:=by
 have ab:=h.bd;have X:=yh h.len;have Y:=yh W.len
 by_cases hnm:n=m
 ·subst hnm
  go_enter Tryz.func65,Tryz.ntmps65
  go_wp2_with fail
  go_loopg [5] n (fun gk i wr=>∃k q:Nat,k≤n∧n - k≤gk∧i=.int .i64 k∧Aside (∀j,j < k→l[j]? = l2[j]?)∧wr=w.drewN q)
  case atStart=>exact⟨0,0,Nat.zero_le _,by omega,rfl,fun j F=>absurd F (by omega),rfl⟩
  case round=>
   obtain⟨k,q,hk,ac,rfl,Q,rfl⟩:=hrel
   by_cases hlt:k < n
   ·obtain⟨b,af,x,c0,rfl,Z,D,g0⟩:=h.at1 hlt
    obtain⟨D,hw⟩:=D;simp only[List.cons.injEq,and_true]at D;obtain rfl:=D;obtain⟨b',ag,y,d0,rfl,hy,E,aa⟩:=W.at1 hlt;obtain⟨E,ae⟩:=E;simp only[List.cons.injEq,and_true]at E;obtain rfl:=E;have U:=yh Z;have O:=yh hy;clear Z hy
    skip
    by_cases hxy:x=y
    ·have he:(x != y)=false:=by subst hxy;simp
     have J:=yh hxy;clear hxy
     go_wp2_with fail
     go_quiet (fail)
     go_wp2_with fail
     go_roundg (n - (k+1))
     case measure=>omega
     case rel=>
      refine⟨k+1,_,by omega,by omega,by go_num,(show Aside _ from fun j F=>?_),rfl⟩
      by_cases e:j=k
      ·subst e;rw[U.out,O.out,J.out]
      ·exact Q.out j (by omega)
    ·have he:(x != y)=true:=by simpa using hxy
     have J:=yh hxy;clear hxy
     go_wp2_with fail
     go_quiet (fail)
     go_wp2_with fail
     go_ret
     refine⟨ZN ?_,_,World.drewN_drewN _ _ _⟩
     symm
     rw[decide_eq_false_iff_not];intro ah;subst ah;rw[U.out]at O;exact J.out (by have:=O.out;injection this)
   ·obtain rfl:k=n:=by omega
    have ah:l=l2:=by
     apply List.ext_getElem?
     intro j
     by_cases F:j < k
     ·exact Q.out j F
     ·rw[List.getElem?_eq_none (by rw[X.out];omega),List.getElem?_eq_none (by rw[Y.out];omega)]
    have I:=yh ah;clear ah
    go_wp2_with fail
    go_ret
    exact⟨ZN (by rw[decide_eq_true I.out]),_,rfl⟩
 ·have ad:((n:Int) != (m:Int))=true:=by simp;omega
  have ah:¬l=l2:=fun e=>hnm (by rw[←X.out,←Y.out,e])
  have I:=yh ah;clear ah hnm
  go_enter Tryz.func65,Tryz.ntmps65
  go_wp2_with fail
  go_ret
  exact⟨ZN (by rw[decide_eq_false I.out]),0,rfl⟩
end Go.Proofs.YtjdcokpmgionjaaGreat
