/-
  Laws and contracts.
-/
import Derived.Test.YtjdcokpmgionjaaGreatRows
import Derived.JoinedOf
import Derived.Lib.Hide
import Derived.WalkLawsBesides
import Derived.WalkSpells
import Derived.BigQuiet
import Derived.Shelf.Abstract
import Derived.Deep.DeepCutAuto
import Derived.Deep.RegionHeld
import Derived.Laws.CopyOwn
set_option linter.unusedSimpArgs false
set_option linter.unusedVariables false
set_option maxRecDepth 100000
set_option maxHeartbeats 20000000
namespace Go.Proofs.YtjdcokpmgionjaaGreat
open Go
theorem Xib:laidOutB Tryz.prog=true:=by kernel_rfl
theorem Xjb:mapsRowed Tryz.prog=true:=by kernel_rfl
theorem UWb:Tryz.prog.stopsHeard=true:=by kernel_rfl
theorem UVb:Tryz.prog.mayEnter=true:=by kernel_rfl
theorem UXb {P:Program}{f:FuncId}{A:Func}{s:ChangeSpec}{c:OpenClaim}
  (D:(c.wf (OpenSpec.ofChange s) && A.params.all (P.readableRec ·) && namedTie P c.named s.vars && (c.stops == []) && (P.stops == []) && (c.knobs == []) && (P.stopKnobs == []))=true)
  (l:laidOutB P=true) (m:mapsRowed P=true)
  (E:((c.inPlace==P.inPlace f) && (c.unfollowed==P.unfollowed f) && (c.recurses==P.recurses f) && (c.named==P.varsNamed f))=true)
  (F:((c.maps==(A.params.toList++s.plain.varTypes P).any (P.mapsRec ·)) && (c.ifaces==(A.params.toList++s.plain.varTypes P).any (P.ifacesRec ·)) && (c.mapsOut==P.mapsAmong A.resultTypes.toList) &&
   (c.loops==(A.params.toList++s.plain.varTypes P).any (P.loopsFrom ·)) && (c.wideKeys==(A.params.toList++s.plain.varTypes P++A.resultTypes.toList).any (P.wideKeysFrom ·)) &&
   s.vars.all (P.varReadable ·) && A.resultTypes.all (fun t=>P.readableRec t && decide (t<P.types.size)) && (c.ifacesOut==A.resultTypes.toList.any (P.ifacesRec ·)) && (c.loopsOut==A.resultTypes.toList.any (P.loopsFrom ·)) && (c.plainKeys==P.plainKeys) && c.shortTexts.isNone)=true)
  (sh:P.stopsHeard=true) (me:P.mayEnter=true) (I:((c.lifted==P.liftsFinal) && (P.make==some c.make))=true)
  (J:((c.kinds==(if c.domain.isEmpty then []else A.params.toList.map fun t=>match P.underlying t with|some (.int k)=>some k|_=>none)) && (c.pinned==c.pinnedBy) &&
   (c.veiled==(A.params.toList++s.plain.varTypes P++A.resultTypes.toList).any (P.veiledRec ·)) && c.veiledFits P A.params.toList (A.params.toList++s.plain.varTypes P++A.resultTypes.toList))=true) :
  joinedFacts P f A s c=true:=by
 rw[Bool.and_eq_true,Bool.and_eq_true,Bool.and_eq_true,Bool.and_eq_true,Bool.and_eq_true,Bool.and_eq_true]at D;rw[Bool.and_eq_true,Bool.and_eq_true,Bool.and_eq_true]at E;rw[Bool.and_eq_true,Bool.and_eq_true,Bool.and_eq_true,Bool.and_eq_true,Bool.and_eq_true,Bool.and_eq_true,Bool.and_eq_true,Bool.and_eq_true,Bool.and_eq_true,Bool.and_eq_true]at F;rw[Bool.and_eq_true]at I;rw[Bool.and_eq_true,Bool.and_eq_true,Bool.and_eq_true]at J;obtain⟨⟨⟨⟨⟨⟨O,Q⟩,U⟩,V⟩,W⟩,X⟩,Y⟩:=D;obtain⟨⟨⟨Z,b2⟩,b3⟩,b4⟩:=E;obtain⟨⟨⟨⟨⟨⟨⟨⟨⟨⟨d1,d2⟩,d3⟩,d4⟩,d5⟩,d6⟩,d7⟩,d8⟩,d9⟩,aa⟩,ab⟩:=F;obtain⟨e1,e2⟩:=I;obtain⟨⟨⟨g1,g2⟩,g3⟩,g4⟩:=J;unfold joinedFacts;refine Bool.and_eq_true_iff.2 ⟨Bool.and_eq_true_iff.2 ⟨Bool.and_eq_true_iff.2 ⟨Bool.and_eq_true_iff.2 ⟨?_,g1⟩,g2⟩,g3⟩,g4⟩;rw[O,l,m,Q,U,V,W,X,Y,Z,b2,b3,b4,d1,d2,d3,d4,d5,d6,d7,d8,d9,aa,ab,sh,me,e1,e2]
 rfl
end Go.Proofs.YtjdcokpmgionjaaGreat
namespace Go.Proofs.YtjdcokpmgionjaaGreat
open Go.RowKit
def Cod (α:Type):=World→(Nat→Prop)→α→List Value→Prop
def InI (n:Int):Prop:=-9223372036854775808≤n∧n≤9223372036854775807
theorem InI.of {n:Int}(h : -1000000000000000≤n)(A:n≤1000000000000000):InI n:=⟨by omega,by omega⟩
def QO:Cod Int:=fun _ _ n cs=>cs=[.int .i64 n]∧InI n
def ZQb:Cod Bool:=fun _ _ b cs=>cs=[.bool b]
def RdA {α:Type} (c:Cod α) (size:Nat) (w:World) (S:Nat→Prop) (A:Option Addr) (l:List α):Prop:=
 ∀i x,l[i]? = some x→∃b off cs,A=some ⟨b,off,none⟩∧S b∧c w S x cs∧cs.length=size∧∀j u,cs[j]? = some u→w.cell? ⟨b,off+i*size+j,none⟩=some u
structure Sl {α:Type} (c:Cod α) (size:Nat) (w:World) (S:Nat→Prop) (A:Option Addr) (n cap:Nat) (l:List α):Prop where
 len:l.length=n
 le:n≤cap
 max:cap≤maxLen
 rd:RdA c size w S A l
def slC {α:Type} (c:Cod α) (size:Nat):Cod (List α):=fun w S l cs=>∃A n cap,cs=[.slice A n cap]∧Sl c size w S A n cap l
structure Good {α:Type} (c:Cod α):Prop where
 keep:∀{w w':World} {S S':Nat→Prop} {x:α} {cs:List Value},c w S x cs→(∀b,S b→b<w.heap.size→w'.heap[b]? = w.heap[b]?∧S' b)→c w' S' x cs
 one:∀{w:World} {S:Nat→Prop} {x:α} {cs:List Value},c w S x cs→∀u∈cs,u.oneCell'=true
def XM {α:Type} (c:Cod α):Prop:=∀(w w':World) (S S':Nat→Prop) (x:α) (cs:List Value),c w S x cs→c w' S' x cs
def okL {α:Type} (r:Int) (l:List α):List α:=if r=0 then l else []
def okI (r v:Int):Int:=if r=0 then v else 0
theorem QR {α:Type}(l:List α):okL 0 l=l:=rfl
theorem Zv (v:Int):okI 0 v=v:=rfl
theorem Yu {α:Type}{r:Int}(h:¬r=0)(l:List α):okL r l=[]:=if_neg h
theorem X2a {r:Int}(h:¬r=0)(v:Int):okI r v=0:=if_neg h
def All:Nat→Prop:=fun _=>True
theorem ZB:XM QO:=fun _ _ _ _ _ _ h=>h
theorem QGb:XM ZQb:=fun _ _ _ _ _ _ h=>h
theorem Good.of_flat {α:Type}{c:Cod α}(D:XM c)(A:∀{w:World} {S:Nat→Prop} {x:α} {cs:List Value},c w S x cs→∀u∈cs,u.oneCell'=true):Good c:=
 ⟨fun h _=>D _ _ _ _ _ _ h,A⟩
theorem Qd:Good QO:=.of_flat ZB fun h u A=>by obtain⟨rfl,_⟩:=h;simp at A;subst A;rfl
theorem QHb:Good ZQb:=.of_flat QGb fun h u A=>by cases h;simp at A;subst A;rfl
section
variable {α:Type} {c:Cod α} {size:Nat} {w w':World} {S S':Nat→Prop} {A:Option Addr} {n cap:Nat} {l:List α}
theorem Sl.bd (h:Sl c size w S A n cap l):n≤9223372036854775807:=by have:=h.le;have:=h.max;unfold maxLen at this;omega
theorem Sl.nil (w:World)(S:Nat→Prop)(c:Cod α)(size:Nat):Sl c size w S none 0 0 []:=⟨rfl,Nat.le_refl _,by simp[maxLen],fun i x h=>by simp at h⟩
theorem ZT {b A:Nat}{u:Value}(h:w.cell? ⟨b,A,none⟩=some u):b<w.heap.size:=World.block_lt_of_cell? w ⟨b,A,none⟩ h
theorem Sl.keep (h:Sl c size w S A n cap l)(U:Good c)(Y:0<size)(D:∀b,S b→b<w.heap.size→w'.heap[b]? = w.heap[b]?∧S' b):Sl c size w' S' A n cap l:=by
 refine⟨h.len,h.le,h.max,fun i x W=>?_⟩;obtain⟨b,X,cs,O,F,Q,V,J⟩:=h.rd i x W
 have I:b<w.heap.size:=by
  obtain⟨u,E⟩:∃u,cs[0]? = some u:=⟨cs[0]'(by omega),List.getElem?_eq_getElem (by omega)⟩;exact ZT (J 0 u E)
 exact⟨b,X,cs,O,(D b F I).2,U.keep Q D,V,fun j u E=>(World.cell?_of_block (a:=⟨b,_,none⟩) (D b F I).1).trans (J j u E)⟩
theorem Sl.below (h:Sl c size w S A n cap l)(F:Good c)(J:0<size)(E:Below w.heap.size w w'):Sl c size w' S A n cap l:=
 h.keep F J fun b D I=>⟨E.block b I,D⟩
theorem Sl.all (h:Sl c size w S A n cap l)(D:Good c)(E:0<size):Sl c size w All A n cap l:=
 h.keep D E fun _ _ _=>⟨rfl,trivial⟩
theorem Sl.at1 (h:Sl c 1 w S A n cap l){k:Nat}(Q:k<n):∃b E x D,A=some ⟨b,E,none⟩∧l[k]? = some x∧c w S x [D]∧w.cell? ⟨b,E+k,none⟩=some D:=by
 have U:=h.len;obtain⟨b,E,cs,F,_,I,O,J⟩:=h.rd k (l[k]'(by omega)) (List.getElem?_eq_getElem (by omega))
 match cs,O with
 | [D],_=>exact⟨b,E,_,D,F,List.getElem?_eq_getElem (by omega),I,by simpa using J 0 D rfl⟩
theorem Sl.at2 (h:Sl c 2 w S A n cap l){k:Nat}(U:k<n):∃b F x D E,A=some ⟨b,F,none⟩∧l[k]? = some x∧c w S x [D,E]∧
  w.cell? ⟨b,F+k*2,none⟩=some D∧w.cell? ⟨b,F+k*2+1,none⟩=some E:=by
 have V:=h.len;obtain⟨b,F,cs,J,_,O,Q,I⟩:=h.rd k (l[k]'(by omega)) (List.getElem?_eq_getElem (by omega))
 match cs,Q with
 | [D,E],_=>exact⟨b,F,_,D,E,J,List.getElem?_eq_getElem (by omega),O,by simpa using I 0 D rfl,I 1 E rfl⟩
theorem Sl.at3 (h:Sl c 3 w S A n cap l){k:Nat}(V:k<n):∃b D x E F I,A=some ⟨b,D,none⟩∧l[k]? = some x∧c w S x [E,F,I]∧
  w.cell? ⟨b,D+k*3,none⟩=some E∧w.cell? ⟨b,D+k*3+1,none⟩=some F∧w.cell? ⟨b,D+k*3+2,none⟩=some I:=by
 have W:=h.len;obtain⟨b,D,cs,O,_,Q,U,J⟩:=h.rd k (l[k]'(by omega)) (List.getElem?_eq_getElem (by omega))
 match cs,U with
 | [E,F,I],_=>exact⟨b,D,_,E,F,I,O,List.getElem?_eq_getElem (by omega),Q,by simpa using J 0 E rfl,J 1 F rfl,J 2 I rfl⟩
theorem Sl.at4 (h:Sl c 4 w S A n cap l){k:Nat}(W:k<n):∃b D x E F I J,A=some ⟨b,D,none⟩∧l[k]? = some x∧c w S x [E,F,I,J]∧
  w.cell? ⟨b,D+k*4,none⟩=some E∧w.cell? ⟨b,D+k*4+1,none⟩=some F∧w.cell? ⟨b,D+k*4+2,none⟩=some I∧w.cell? ⟨b,D+k*4+3,none⟩=some J:=by
 have X:=h.len;obtain⟨b,D,cs,Q,_,U,V,O⟩:=h.rd k (l[k]'(by omega)) (List.getElem?_eq_getElem (by omega))
 match cs,V with
 | [E,F,I,J],_=>exact⟨b,D,_,E,F,I,J,Q,List.getElem?_eq_getElem (by omega),U,by simpa using O 0 E rfl,O 1 F rfl,O 2 I rfl,O 3 J rfl⟩
theorem Sl.cut (h:Sl c size w S A n cap l){k m:Nat}(X:k≤m)(Z:m≤n) :
  Sl c size w S (if cap=k then A else A.map (·.add (k*size))) (m-k) (cap-k) ((l.drop k).take (m-k)):=by
 have Y:=h.le;refine⟨by rw[List.length_take,List.length_drop,h.len];omega,by omega,Nat.le_trans (Nat.sub_le _ _) h.max,fun i x D=>?_⟩
 have U:i<m-k:=by
  rcases Nat.lt_or_ge i (m-k)with F|F
  ·exact F
  ·rw[List.getElem?_eq_none (by rw[List.length_take];omega)]at D;cases D
 rw[List.getElem?_take,if_pos U,List.getElem?_drop]at D;obtain⟨b,E,cs,I,J,O,V,Q⟩:=h.rd _ x D;refine⟨b,E+k*size,cs,?_,J,O,V,fun j u W=>?_⟩
 ·rw[if_neg (by omega),I];simp only[Option.map_some,Option.some.injEq,Addr.add]
  split
  ·next h0=>rw[h0];rfl
  ·rfl
 ·have:=Q j u W;rw[show E+k*size+i*size+j=E+(k+i)*size+j by rw[Nat.add_mul];omega];exact this
theorem Sl.mono_cod {D:Cod α}(h:Sl c size w S A n cap l)(I:∀x cs,c w S x cs→D w S x cs):Sl D size w S A n cap l:=
 ⟨h.len,h.le,h.max,fun i x O=>by
  obtain⟨b,Q,cs,E,F,J,r⟩:=h.rd i x O
  exact⟨b,Q,cs,E,F,I _ _ J,r⟩⟩
end
theorem Sl.lit1 {α:Type}{c:Cod α}(w:World)(S:Nat→Prop)(t:TypeId)(x:α)(cs:List Value)(E:c (w.alloc (.cells cs.toArray t)) S x cs)(D:S w.heap.size) :
  Sl c cs.length (w.alloc (.cells cs.toArray t)) S (some ⟨w.heap.size,0,none⟩) 1 1 [x]:=by
 refine⟨rfl,Nat.le_refl _,by simp[maxLen],fun i y A=>?_⟩
 have F:i=0:=by have:=(List.getElem?_eq_some_iff.1 A).1;simp at this;omega
 subst F;simp at A;subst A;exact⟨w.heap.size,0,cs,rfl,D,E,rfl,fun j u I=>by simpa using I⟩
def QL (base:Nat) (v:Value):Nat→Prop:=fun b=>base≤b∧some b≠v.ownBlock
structure Own {α:Type} (c:Cod α) (size:Nat) (e:TypeId) (w:World) (base:Nat) (v:Value) (l:List α) (xs:List Value):Prop where
 row:w.ownsRow base e size v l.length xs
 el:∀i x,l[i]? = some x→∃cs,c w (QL base v) x cs∧cs.length=size∧∀j u,cs[j]? = some u→xs[i*size+j]? = some u
section
variable {α:Type} {c:Cod α} {size:Nat} {w w':World} {e:TypeId} {base:Nat} {v:Value} {l:List α} {xs:List Value}
theorem Own.sl (h:Own c size e w base v l xs)(U:Good c):∃A n cap,v=.slice A n cap∧Sl c size w (fun b=>base≤b) A n cap l:=by
 rcases h.row.2 with⟨rfl,E⟩|⟨g,cap,Z,rfl,I,ab,Y,Q,aa,ac⟩
 ·have:l=[]:=List.eq_nil_of_length_eq_zero E;subst this;exact⟨none,0,0,rfl,Sl.nil _ _ _ _⟩
 ·refine⟨_,l.length,cap,rfl,rfl,Y,Q,fun i x D=>?_⟩;obtain⟨cs,J,W,O⟩:=h.el i x D;refine⟨g,0,cs,rfl,I,U.keep J (fun b F _=>⟨rfl,F.1⟩),W,fun j u hu=>?_⟩;have V:i<l.length:=(List.getElem?_eq_some_iff.1 D).1
  have hj:j<size:=by have:=(List.getElem?_eq_some_iff.1 hu).1;omega
  have X:i*size+j<l.length*size:=by
   have:(i+1)*size≤l.length*size:=Nat.mul_le_mul_right _ V;rw[Nat.add_mul]at this;omega
  have:=h.row.cellAt (g:=g) (i*size+j) X;rw[Nat.zero_add,this];exact O j u hu
theorem Own.nil (w:World)(c:Cod α)(size:Nat)(e:TypeId)(base:Nat):Own c size e w base (.slice none 0 0) [] []:=
 ⟨w.ownsRow_nil base e size,fun i x h=>by simp at h⟩
theorem Own.made (w:World)(c:Cod α)(size:Nat)(e:TypeId)(base:Nat)(A:Array Value)(cap:Nat)(D:base≤w.heap.size)(E:cap≤maxLen)(F:A.size=cap*size) :
  Own c size e (w.alloc (.cells A e)) base (.slice (some ⟨w.heap.size,0,none⟩) 0 cap) [] []:=
 ⟨World.ownsRow_made w A cap D E F,fun i x h=>by simp at h⟩
theorem Own.keep (h:Own c size e w base v l xs)(Q:Good c)(F:∀b,base≤b→b<w.heap.size→w'.heap[b]? = w.heap[b]?):Own c size e w' base v l xs:=by
 refine⟨⟨h.row.1,?_⟩,fun i x W=>?_⟩
 ·rcases h.row.2 with J|⟨g,cap,I,V,D,E,r⟩
  ·exact .inl J
  ·exact .inr ⟨g,cap,I,V,D,(F g D (Array.getElem?_eq_some_iff.1 E).1).trans E,r⟩
 ·obtain⟨cs,O,r⟩:=h.el i x W;exact⟨cs,Q.keep O (fun b A U=>⟨F b A.1 U,A⟩),r⟩
theorem Own.below (h:Own c size e w base v l xs)(D:Good c)(A:Below w.heap.size w w'):Own c size e w' base v l xs:=
 h.keep D fun b _ E=>A.block b E
theorem Own.mono {A:Nat}(h:Own c size e w base v l xs)(Q:Good c)(E:A≤base):Own c size e w A v l xs:=by
 refine⟨⟨h.row.1,?_⟩,fun i x V=>?_⟩
 ·rcases h.row.2 with I|⟨g,cap,F,U,J,r⟩
  ·exact .inl I
  ·exact .inr ⟨g,cap,F,U,Nat.le_trans E J,r⟩
 ·obtain⟨cs,O,r⟩:=h.el i x V;exact⟨cs,Q.keep O (fun b D _=>⟨rfl,Nat.le_trans E D.1,D.2⟩),r⟩
theorem Own.lt (h:Own c size e w base v l xs):∀k,v.ownBlock=some k→base≤k∧k<w.heap.size:=h.row.lt
theorem Own.joined {l2:List α}{A:Option Addr}{m cap:Nat}{S:Nat→Prop}{v':Value}{news:List Value}(h:Own c size e w base v l xs)(hg:Good c)(W:Sl c size w S A m cap l2)
  (hS:∀x cs,c w S x cs→c w (QL base v) x cs) (ab:w.grownBy w' v.ownBlock) (aa:v'.ownBlock=v.ownBlock∨v'.ownBlock=some w.heap.size)
  (af:news.length=m*size) (ae:∀b J,A=some ⟨b,J,none⟩→∀j u,news[j]? = some u→w.cell? ⟨b,J+j,none⟩=some u)
  (ag:w'.ownsRow base e size v' (l++l2).length (xs++news)):Own c size e w' base v' (l++l2) (xs++news):=by
 refine⟨ag,fun i x F=>?_⟩;have ah:xs.length=l.length*size:=h.row.1
 have X:∀{x:α} {cs:List Value},c w (QL base v) x cs→c w' (QL base v') x cs:=fun D=>
  hg.keep D fun b hS I=>⟨ab.block b I hS.2,hS.1,by
   rcases aa with e|e<;>rw[e]
   ·exact hS.2
   ·intro V;injection V with V;omega⟩
 by_cases hi:i<l.length
 ·rw[List.getElem?_append_left hi]at F;obtain⟨cs,D,Q,O⟩:=h.el i x F;refine⟨cs,X D,Q,fun j u E=>?_⟩
  have hj:j<size:=by have:=(List.getElem?_eq_some_iff.1 E).1;omega
  rw[List.getElem?_append_left (by
   have:(i+1)*size≤l.length*size:=Nat.mul_le_mul_right _ hi
   rw[Nat.add_mul]at this;omega)]
  exact O j u E
 ·rw[List.getElem?_append_right (by omega)]at F;obtain⟨b,J,cs,Z,_,D,Q,O⟩:=W.rd _ x F;refine⟨cs,X (hS _ _ D),Q,fun j u E=>?_⟩
  have hj:j<size:=by have:=(List.getElem?_eq_some_iff.1 E).1;omega
  have ai:l.length*size≤i*size:=Nat.mul_le_mul_right _ (by omega);rw[List.getElem?_append_right (by omega),ah]
  have ac:i-l.length<m:=by
   have:=(List.getElem?_eq_some_iff.1 F).1;have:=W.len;omega
  have ad:i*size+j-l.length*size=(i-l.length)*size+j:=by rw[Nat.sub_mul];omega
  have I:(i-l.length)*size+j<news.length:=by
   rw[af];have:(i-l.length+1)*size≤m*size:=Nat.mul_le_mul_right _ ac;rw[Nat.add_mul]at this;omega
  rw[ad];have Y:=ae b J Z ((i-l.length)*size+j) news[(i-l.length)*size+j] (List.getElem?_eq_getElem I);have U:=O j u E;rw[Nat.add_assoc,Y]at U;rw[List.getElem?_eq_getElem I];exact U
end
theorem Sl.news {α:Type}{c:Cod α}{size:Nat}{w:World}{S:Nat→Prop}{A:Option Addr}{m cap:Nat}{l:List α}(h:Sl c size w S A m cap l)(V:Good c) :
  ∃news:List Value,news.length=m*size∧(∀u∈news,u.oneCell'=true)∧∀b D,A=some ⟨b,D,none⟩→∀j u,news[j]? = some u→w.cell? ⟨b,D+j,none⟩=some u:=by
 obtain⟨X,_,_,Y⟩:=h;subst X
 have Z:∀k,k≤l.length→∃news:List Value,news.length=k*size∧(∀u∈news,u.oneCell'=true)∧∀b D,A=some ⟨b,D,none⟩→∀j u,news[j]? = some u→w.cell? ⟨b,D+j,none⟩=some u:=by
  intro k
  induction k with
  | zero=>exact fun _=>⟨[],by simp,by simp,by simp⟩
  | succ k ih=>
   intro hk;obtain⟨news,W,I,J⟩:=ih (by omega);obtain⟨b,D,cs,F,_,O,U,Q⟩:=Y k l[k] (List.getElem?_eq_getElem (by omega));refine⟨news++cs,by rw[List.length_append,W,U,Nat.add_mul];omega,?_,?_⟩
   ·intro u hu;rcases List.mem_append.1 hu with hu|hu
    ·exact I u hu
    ·exact V.one O u hu
   ·intro b' aa E j u hu;rw[F]at E;injection E with E;injection E with hb ho _;subst hb ho;by_cases hj:j<news.length
    ·rw[List.getElem?_append_left hj]at hu;exact J b D F j u hu
    ·rw[List.getElem?_append_right (by omega)]at hu;have:=Q _ u hu;rw[show D+j=D+k*size+(j-news.length)by omega];exact this
 exact Z l.length (Nat.le_refl _)
structure ElemOf (P:Program) (t e:TypeId) (size bytes:Nat):Prop where
 ht:P.underlying t=some (.slice e)
 hi:∃i z,P.info? e=some i∧i.zero=some z∧i.size=size∧i.bytes=bytes∧z.cells.size=size
 pos:0<size
theorem ElemOf.mk' {P:Program}{t e:TypeId}{size bytes:Nat}{z:Value}(E:P.underlying t=some (.slice e))(A:(P.info? e).map (fun i=>(i.zero,i.size,i.bytes))=some (some z,size,bytes))
  (F:z.cells.size=size) (D:0<size):ElemOf P t e size bytes:=by
 obtain⟨i,A,I,J,O⟩:=info_parts A;exact⟨E,⟨i,z,A,I,J,O,F⟩,D⟩
section
variable {P:Program} {α:Type} {c:Cod α} {size bytes:Nat} {t e:TypeId} {w:World} {base:Nat} {v:Value} {l:List α} {xs:List Value}
theorem Uma (h:ElemOf P t e size bytes)(ty:TypeId)(E:w.ownsRow base e size v l.length xs)(k:Nat):(Builtin.append_ #[t,t] ty #[v,.slice none 0 k]).run P w=.ok v w:=by
 obtain⟨i,z,A,_⟩:=h.hi;rcases E.2 with⟨rfl,_⟩|⟨g,cap,F,rfl,_,_,D,_⟩
 ·simp[Builtin.append_,run_underlying h.ht,sizeOf,typeInfo,A,Builtin.lenOf,Builtin.firstCells]
 ·simp[Builtin.append_,run_underlying h.ht,sizeOf,typeInfo,A,Builtin.lenOf,Builtin.firstCells,D,storeCells]
theorem Qtc (D:ElemOf P t e size bytes)(V:Good c)(ty:TypeId)(E:Own c size e w base v l xs){A:Option Addr}{m cap:Nat}{S:Nat→Prop}{l2:List α}(ah:Sl c size w S A m cap l2)
  (hS:∀x cs,c w S x cs→c w (QL base v) x cs) (U:(l.length+m)*bytes≤140737488355328) (ab:1≤bytes) (ac:base≤w.heap.size) :
  ∃v' w' ag,(Builtin.append_ #[t,t] ty #[v,.slice A m cap]).run P w=.ok v' w'∧Own c size e w' base v' (l++l2) ag∧w.grownBy w' v.ownBlock∧(v'.ownBlock=v.ownBlock∨v'.ownBlock=some w.heap.size):=by
 obtain⟨news,X,h1,ad⟩:=ah.news V;rcases Nat.eq_zero_or_pos m with rfl|hm
 ·have:l2=[]:=List.eq_nil_of_length_eq_zero ah.len;subst this;rcases A with _|a
  ·refine⟨v,w,xs,Uma D ty E.row cap,by simpa using E,⟨rfl,rfl,rfl,Nat.le_refl _,fun _ _ _=>rfl⟩,.inl rfl⟩
  ·obtain⟨i,z,W,hz,Z,Q,aa⟩:=D.hi;have hn:news=[]:=List.eq_nil_of_length_eq_zero (by simpa using X);subst hn
   obtain⟨v',w',Y,O,F,_,I⟩:=run_append_own_at w base t ty e i z size bytes D.ht W hz Z Q aa D.pos v l.length xs E.row a 0 cap [] (by simp) (by simp) (by simp)
    (by have hx:l.length*1≤l.length*bytes:=Nat.mul_le_mul_left _ ab;simp only[maxLen];simp at U;omega) U ac
   have ae:=E.joined (v':=v') V ah hS F I (news:=[]) (by simp) (by simp) (by simpa using O);exact⟨v',w',_,Y,ae,F,I⟩
 ·obtain⟨b,J,cs,hA,_⟩:=ah.rd 0 (l2[0]'(by have:=ah.len;omega)) (List.getElem?_eq_getElem (by have:=ah.len;omega));subst hA;obtain⟨i,z,W,hz,Z,Q,aa⟩:=D.hi
  have af:∀j,(⟨b,J,none⟩:Addr).add j=⟨b,J+j,none⟩:=fun j=>by
   unfold Addr.add;split
   ·next h0=>rw[h0];rfl
   ·rfl
  obtain⟨v',w',Y,O,F,_,I⟩:=run_append_own_at w base t ty e i z size bytes D.ht W hz Z Q aa D.pos v l.length xs E.row ⟨b,J,none⟩ m cap news X
   (fun j u hu=>by rw[af];exact ad b J rfl j u hu) h1
   (by have hx:(l.length+m)*1≤(l.length+m)*bytes:=Nat.mul_le_mul_left _ ab;simp only[maxLen];omega) U ac
  exact⟨v',w',_,Y,E.joined V ah hS F I X ad (by rw[List.length_append,ah.len];exact O),F,I⟩
theorem YDb {o:Oper}{a:Act}{K:Act→World→Prop}{Q:Exit→Act→World→Prop}(s x:Operand)
  (W:o.op=.call { callee:=.builtin .append,args:=#[s,x],argTypes:=#[t,t] })
  (U:ElemOf P t e size bytes) (V:Good c) {A:Option Addr} {m cap:Nat} {S:Nat→Prop} {l2:List α} (Z:a.eval s=v) (X:Own c size e w base v l xs) (hx:a.eval x=.slice A m cap) (aa:Sl c size w S A m cap l2)
  (I:∀x cs,c w S x cs→c w (QL base v) x cs) (ac:(l.length+m)*bytes≤140737488355328) (J:1≤bytes) (O:base≤w.heap.size)
  (h:∀v' w' ab,Own c size e w' base v' (l++l2) ab→w.grownBy w' v.ownBlock→(v'.ownBlock=v.ownBlock∨v'.ownBlock=some w.heap.size)→K (a.put o.dst v') w'):o.wp P a w K Q:=by
 obtain⟨v',w',ab,Y,D,E,F⟩:=Qtc (P:=P) U V o.type X aa I ac J O;unfold Oper.wp execOp;simp only[W,resolve,invoke,builtin,Sem.run_bind,Sem.run_pure,Result.andThen_ok,List.map_toArray,List.map_cons,List.map_nil,Z,hx,Y];exact h v' w' ab D E F
theorem QC {D:Array Oper}{E:List Oper}{o:Oper}{a:Act}{Q:Exit→Act→World→Prop}(Y:o.guard=none)(s x:Operand)
  (Z:o.op=.call { callee:=.builtin .append,args:=#[s,x],argTypes:=#[t,t] })
  (W:ElemOf P t e size bytes) (X:Good c) {A:Option Addr} {m cap:Nat} {S:Nat→Prop} {l2:List α} (hs:a.eval s=v) (aa:Own c size e w base v l xs) (hx:a.eval x=.slice A m cap) (ab:Sl c size w S A m cap l2)
  (O:∀x cs,c w S x cs→c w (QL base v) x cs) (V:(l.length+m)*bytes≤140737488355328) (ad:1≤bytes) (U:base≤w.heap.size)
  (h:∀v' w' ac,Own c size e w' base v' (l++l2) ac→w.grownBy w' v.ownBlock→(v'.ownBlock=v.ownBlock∨v'.ownBlock=some w.heap.size)→wpList P D Q E (a.put o.dst v') w'):wpList P D Q (o::E) a w:=
 wpList_plain Y fun _ hK=>YDb s x Z W X hs aa hx ab O V ad U fun v' w' ac F I J=>hK _ _ (h v' w' ac F I J)
end
theorem QA {α:Type}{c:Cod α}{size:Nat}{e:TypeId}{a w w':World}{base:Nat}{v:Value}{l:List α}{xs:List Value}(h:Below base a w)(F:Own c size e w base v l xs)(D:w.grownBy w' v.ownBlock)(A:base≤w.heap.size):Below base a w':=
 h.grown D A fun k E=>(F.lt k E).1
end Go.Proofs.YtjdcokpmgionjaaGreat
namespace Go.Proofs.YtjdcokpmgionjaaGreat
open Go.RowKit Go.Shelf
theorem gA {α:Type}{l:List α}{i:Nat}{x:α}(h:l[i]? = some x):l.toArray[i]? = some x:=by simpa using h
theorem ZN {k:IntKind}{a b:Int}(h:a=b):Ending.returned (.int k a)=.returned (.int k b):=by rw[h]
theorem Ux {a b:Bool}(h:a=b):Ending.returned (.bool a)=.returned (.bool b):=by rw[h]
def Qq (f:Nat→Int):Nat→Int
 | 0=>0
 | n+1=>if Qq f n=0 then f n else Qq f n
theorem Za {f:Nat→Int}{n:Nat}(h:Qq f n=0):Qq f (n+1)=f n:=by simp[Qq,h]
theorem U5 {f:Nat→Int}{k n:Nat}(h:Qq f k=0)(A:f k≠0)(D:k<n):Qq f n=f k:=by
 induction n with
 | zero=>omega
 | succ n ih=>
  by_cases e:n=k
  ·subst e;exact Za h
  ·have:=ih (by omega);simp only[Qq,this,if_neg A]
def Qc (n a b:Int):Bool:=decide (a≤n) && decide (n≤b)
theorem Zg {n a b:Int}(h:a≤n)(A:n≤b):Qc n a b=true:=by simp[Qc,h,A]
theorem QM {n a b:Int}(h:n<a∨b<n):Qc n a b=false:=by simp[Qc];omega
theorem Ql {n a b:Int} : Qc n a b=true↔a≤n∧n≤b:=by simp[Qc]
theorem Qj (n a b:Int)(w:World):Calls Tryz.prog 70 #[.int .i64 n,.int .i64 a,.int .i64 b] w fun e w'=>e=.returned (.bool (Qc n a b))∧w=w':=by
 go_enter Tryz.func70,Tryz.ntmps70;go_wp2
 all_goals go_ret
 all_goals exact⟨Ux (by unfold Qc;simp;try omega),rfl⟩
theorem Qo {α:Type}{l:List α}{k:Nat}{x:α}(h:l[k]? = some x):l.take (k+1)=l.take k++[x]:=by
 rw[List.take_add_one,h];rfl
def UD {α:Type} (p:α→Bool) (l:List α):Int:=if l.any p then (l.findIdx p:Int)else -1
section
variable {α:Type} {p:α→Bool} {l:List α} {k:Nat} {x:α}
theorem Qu (A:l[k]? = some x):(l.take (k+1)).any p=((l.take k).any p || p x):=by rw[Qo A];simp
theorem Zwa (D:l[k]? = some x)(A:p x=true):l.any p=true:=List.any_eq_true.2 ⟨x,List.mem_of_getElem? D,A⟩
theorem VA (h:(l.take k).any p=false)(A:l[k]? = some x)(E:p x=true):UD p l=(k:Int):=by
 have D:k<l.length:=(List.getElem?_eq_some_iff.1 A).1
 have F:l.findIdx p=k:=by
  rw[List.findIdx_eq D];refine⟨?_,fun j I=>?_⟩
  ·rw[List.getElem?_eq_getElem D]at A;injection A with A;rw[A];exact E
  ·have:=List.any_eq_false.1 h (l[j]'(by omega)) (List.mem_take_iff_getElem.2 ⟨j,by omega,rfl⟩)
   simpa using this
 unfold UD;rw[Zwa A E,F];rfl
theorem ZK (h:l.any p=false):UD p l=-1:=by unfold UD;rw[h];rfl
theorem VH:decide (0≤UD p l)=l.any p:=by
 unfold UD;cases l.any p<;>simp
theorem Yp (h:l.length≤9223372036854775807) : -1≤UD p l∧UD p l<9223372036854775807:=by
 unfold UD;cases e:l.any p
 ·simp
 ·have:l.findIdx p<l.length:=List.findIdx_lt_length.2 (by simpa using e);simp;omega
theorem YZb (h:l.any p=true):0≤UD p l∧UD p l<l.length:=by
 unfold UD;have:l.findIdx p<l.length:=List.findIdx_lt_length.2 (by simpa using h);rw[h,if_pos rfl];constructor<;>omega
end
theorem Z6 {w:World}{b j:Nat}{cs:Array Value}{t:TypeId}{A:Nat×Nat}{v:Value}(h:w.heap[b]? = some (.cells cs t A))(D:cs[j]? = some v):w.cell? ⟨b,j,none⟩=some v:=by simp[World.cell?,h,D]
theorem Zk (w:World)(A:Obj):(w.alloc A).heap[w.heap.size]? = some A:=heap_alloc_new _ _
theorem QE (w:World)(A B:Obj):((w.alloc A).alloc B).heap[w.heap.size]? = some A:=(Below.heap_alloc _ _ _ (by simp)).trans (Zk _ _)
theorem QF (w:World)(A B:Obj):((w.alloc A).alloc B).heap[w.heap.size+1]? = some B:=by
 have:=Zk (w.alloc A) B
 rwa [show(w.alloc A).heap.size=w.heap.size+1 by simp]at this
theorem Vc (w:World)(A B C:Obj):(((w.alloc A).alloc B).alloc C).heap[w.heap.size]? = some A:=(Below.heap_alloc _ _ _ (by simp;omega)).trans (QE _ _ _)
theorem Vd (w:World)(A B C:Obj):(((w.alloc A).alloc B).alloc C).heap[w.heap.size+1]? = some B:=(Below.heap_alloc _ _ _ (by simp)).trans (QF _ _ _)
theorem Ve (w:World)(A B C:Obj):(((w.alloc A).alloc B).alloc C).heap[w.heap.size+1+1]? = some C:=by
 have:=QF (w.alloc A) B C
 rwa [show(w.alloc A).heap.size=w.heap.size+1 by simp]at this
theorem Own.form {α:Type}{c:Cod α}{size:Nat}{e:TypeId}{w:World}{base:Nat}{v:Value}{l:List α}{xs:List Value}(h:Own c size e w base v l xs)(J:0<l.length) :
  ∃g cap,v=.slice (some ⟨g,0,none⟩) l.length cap∧base≤g∧g<w.heap.size:=by
 rcases h.row.2 with⟨_,I⟩|⟨g,cap,F,E,A,D,_⟩
 ·omega
 ·exact⟨g,cap,E,A,(Array.getElem?_eq_some_iff.1 D).1⟩
section
variable {α:Type} {c:Cod α} {size:Nat} {e:TypeId} {w:World} {base g n cap:Nat} {l:List α} {xs:List Value}
theorem Own.cells (h:Own c size e w base (.slice (some ⟨g,0,none⟩) n cap) l xs){i:Nat}{x:α}(F:l[i]? = some x) :
  ∃cs,c w (QL base (.slice (some ⟨g,0,none⟩) n cap)) x cs∧cs.length=size∧(∀j u,cs[j]? = some u→w.cell? ⟨g,i*size+j,none⟩=some u)∧∀j,w.frozen? ⟨g,j,none⟩=false:=by
 obtain⟨cs,I,Q,J⟩:=h.el i x F;have O:i<l.length:=(List.getElem?_eq_some_iff.1 F).1;have A:=h.row
 have U:n=l.length:=by
  rcases A.2 with⟨D,_⟩|⟨X,V,W,D,_⟩
  ·cases D
  ·injection D
 subst U;refine⟨cs,I,Q,fun j u E=>?_,fun j=>A.frozenAt j⟩
 have Y:j<size:=by have:=(List.getElem?_eq_some_iff.1 E).1;omega
 rw[A.cellAt _ (by
  have:(i+1)*size≤l.length*size:=Nat.mul_le_mul_right _ O
  rw[Nat.add_mul]at this;omega)]
 exact J j u E
end
class CodK {α:Type} (c:Cod α) (size:Nat):Prop where
 good:Good c
 pos:0<size
instance intK:CodK QO 1:=⟨Qd,by omega⟩
instance boolK:CodK ZQb 1:=⟨QHb,by omega⟩
theorem Sl.bel {α:Type}{c:Cod α}{size:Nat}[k:CodK c size]{w w':World}{S:Nat→Prop}{A:Option Addr}{n cap:Nat}{l:List α}(h:Sl c size w S A n cap l)(D:Below w.heap.size w w'):Sl c size w' S A n cap l:=
 h.below k.good k.pos D
theorem Own.bel {α:Type}{c:Cod α}{size:Nat}[k:CodK c size]{w w':World}{e:TypeId}{base:Nat}{v:Value}{l:List α}{xs:List Value}(h:Own c size e w base v l xs)(A:Below w.heap.size w w'):Own c size e w' base v l xs:=
 h.below k.good A
def Blk (w:World) (b:Nat) (cs:Array Value) (t:TypeId):Prop:=w.heap[b]? = some (.cells cs t (0,0))
theorem Blk.lt {w:World}{b:Nat}{cs:Array Value}{t:TypeId}(h:Blk w b cs t):b<w.heap.size:=lt_of_block h
theorem Blk.bel {w w':World}{b:Nat}{cs:Array Value}{t:TypeId}(h:Blk w b cs t)(A:Below w.heap.size w w'):Blk w' b cs t:=(A.block _ (lt_of_block h)).trans h
theorem Blk.new (w:World)(cs:Array Value)(t:TypeId):Blk (w.alloc (.cells cs t)) w.heap.size cs t:=Zk _ _
theorem Blk.old {w:World}{b:Nat}{cs:Array Value}{t:TypeId}(h:Blk w b cs t)(o:Obj):Blk (w.alloc o) b cs t:=(Below.heap_alloc _ _ _ h.lt).trans h
theorem Blk.cell {w:World}{b j:Nat}{cs:Array Value}{t:TypeId}{v:Value}(h:Blk w b cs t)(A:cs[j]? = some v):w.cell? ⟨b,j,none⟩=some v:=Z6 h A
theorem Qi (w:World)(o:Obj):Below w.heap.size w (w.alloc o):=(Below.refl _ _).alloc (Nat.le_refl _) _
theorem Zo (w:World)(o p:Obj):Below w.heap.size w ((w.alloc o).alloc p):=(Qi w o).alloc (by simp) _
theorem X0 (w:World)(o p q:Obj):Below w.heap.size w (((w.alloc o).alloc p).alloc q):=(Zo w o p).alloc (by simp;omega) _
theorem Sl.ofBlk {α:Type}{c:Cod α}{size:Nat}{w:World}{S:Nat→Prop}{b:Nat}{cs:Array Value}{t:TypeId}(h:Blk w b cs t)(l:List α)(U:l.length≤1000000)(D:S b)
  (I:∀i x,l[i]? = some x→∃A,c w S x A∧A.length=size∧∀j u,A[j]? = some u→cs[i*size+j]? = some u):Sl c size w S (some ⟨b,0,none⟩) l.length l.length l:=by
 refine⟨rfl,Nat.le_refl _,by simp only[maxLen];omega,fun i x Q=>?_⟩;obtain⟨A,E,J,F⟩:=I i x Q;exact⟨b,0,A,rfl,D,E,J,fun j u O=>by rw[Nat.zero_add];exact h.cell (F j u O)⟩
theorem Sl.ofInts {w:World}{S:Nat→Prop}{b:Nat}{t:TypeId}(l:List Int)(h:Blk w b (l.map (Value.int .i64)).toArray t)(I:l.length≤1000000)(F:S b)(E:∀x∈l,-1000000000000000≤x∧x≤1000000000000000) :
  Sl QO 1 w S (some ⟨b,0,none⟩) l.length l.length l:=
 Sl.ofBlk h l I F fun i x D=>⟨[.int .i64 x],⟨rfl,.of (E x (List.mem_of_getElem? D)).1 (E x (List.mem_of_getElem? D)).2⟩,rfl,fun j u A=>by
  rcases j with _|j
  ·simp at A;subst A;simp[D]
  ·simp at A⟩
theorem Blk.new1 (w:World)(o:Obj)(cs:Array Value)(t:TypeId):Blk ((w.alloc o).alloc (.cells cs t)) (w.heap.size+1) cs t:=by
 have:=Blk.new (w.alloc o) cs t
 rwa [show(w.alloc o).heap.size=w.heap.size+1 by simp]at this
theorem Blk.new2 (w:World)(o p:Obj)(cs:Array Value)(t:TypeId):Blk (((w.alloc o).alloc p).alloc (.cells cs t)) (w.heap.size+1+1) cs t:=by
 have:=Blk.new ((w.alloc o).alloc p) cs t
 rwa [show((w.alloc o).alloc p).heap.size=w.heap.size+1+1 by simp]at this
theorem Blk.new3 (w:World)(o p q:Obj)(cs:Array Value)(t:TypeId):Blk ((((w.alloc o).alloc p).alloc q).alloc (.cells cs t)) (w.heap.size+1+1+1) cs t:=by
 have:=Blk.new (((w.alloc o).alloc p).alloc q) cs t
 rwa [show(((w.alloc o).alloc p).alloc q).heap.size=w.heap.size+1+1+1 by simp]at this
theorem Blk.new4 (w:World)(o p q r:Obj)(cs:Array Value)(t:TypeId):Blk (((((w.alloc o).alloc p).alloc q).alloc r).alloc (.cells cs t)) (w.heap.size+1+1+1+1) cs t:=by
 have:=Blk.new ((((w.alloc o).alloc p).alloc q).alloc r) cs t
 rwa [show((((w.alloc o).alloc p).alloc q).alloc r).heap.size=w.heap.size+1+1+1+1 by simp]at this
theorem Blk.new5 (w:World)(o p q r s:Obj)(cs:Array Value)(t:TypeId):Blk ((((((w.alloc o).alloc p).alloc q).alloc r).alloc s).alloc (.cells cs t)) (w.heap.size+1+1+1+1+1) cs t:=by
 have:=Blk.new (((((w.alloc o).alloc p).alloc q).alloc r).alloc s) cs t
 rwa [show(((((w.alloc o).alloc p).alloc q).alloc r).alloc s).heap.size=w.heap.size+1+1+1+1+1 by simp]at this
theorem ZU {α:Type}{c:Cod α}{size:Nat}(D:Good c)(E:0<size):Good (slC c size):=
 ⟨fun⟨A,n,cap,e,h⟩ hk=>⟨A,n,cap,e,h.keep D E hk⟩,fun⟨A,n,cap,e,_⟩ u hu=>by subst e;simp at hu;subst hu;rfl⟩
theorem Qja {P:Program}{t t2:TypeId}{A:Array Oper}{D:List Oper}{o:Oper}{a:Act}{w w':World}{v u v':Value}{Q:Exit→Act→World→Prop}(E:o.guard=none)(s x:Operand)
  (F:o.op=.call { callee:=.builtin .append,args:=#[s,x],argTypes:=#[t,t2] }) (J:a.eval s=v) (O:a.eval x=u)
  (I:(Builtin.append_ #[t,t2] o.type #[v,u]).run P w=.ok v' w') (h:wpList P A Q D (a.put o.dst v') w'):wpList P A Q (o::D) a w:=
 wpList_plain E fun _ hK=>by
  unfold Oper.wp execOp;simp only[F,resolve,invoke,builtin,Sem.run_bind,Sem.run_pure,Result.andThen_ok,List.map_toArray,List.map_cons,List.map_nil,J,O,I];exact hK _ _ h
theorem ZM {α:Type}{c:Cod α}(E:XM c){size:Nat}{e:TypeId}{w:World}{base:Nat}{v:Value}{l:List α}{xs:List Value}(h:Own c size e w base v l xs){a:Addr}(A:v.ownBlock≠some a.block)(u:Value):Own c size e (w.setCell a u) base v l xs:=
 ⟨ownsRow_setCell_other h.row A u,fun i x F=>by
  obtain⟨cs,D,r⟩:=h.el i x F
  exact⟨cs,E _ _ _ _ _ _ D,r⟩⟩
structure Kept (S:Nat→Prop) (w w':World):Prop where
 os:w'.os=w.os
 tape:w'.tape=w.tape
 output:w'.output=w.output
 size:w.heap.size≤w'.heap.size
 block:∀k,k<w.heap.size→¬S k→w'.heap[k]? = w.heap[k]?
theorem Kept.refl (S:Nat→Prop)(w:World):Kept S w w:=⟨rfl,rfl,rfl,Nat.le_refl _,fun _ _ _=>rfl⟩
theorem Kept.trans {S:Nat→Prop}{a b c:World}(h:Kept S a b)(k:Kept S b c):Kept S a c:=
 ⟨k.os.trans h.os,k.tape.trans h.tape,k.output.trans h.output,Nat.le_trans h.size k.size,fun i D A=>(k.block i (Nat.lt_of_lt_of_le D h.size) A).trans (h.block i D A)⟩
theorem Kept.mono {S T:Nat→Prop}{a b:World}(h:Kept S a b)(D:∀k,k<a.heap.size→S k→T k):Kept T a b:=
 ⟨h.os,h.tape,h.output,h.size,fun i A E=>h.block i A fun F=>E (D i A F)⟩
theorem Kept.of_below {S:Nat→Prop}{a b:World}{B:Nat}(h:Below B a b)(D:∀k,k<a.heap.size→B≤k→S k):Kept S a b:=
 ⟨h.os,h.tape,h.output,h.size,fun i F E=>h.block i (by rcases Nat.lt_or_ge i B with A|A;exact A;exact absurd (D i F A) E)⟩
theorem Kept.below {S:Nat→Prop}{a b:World}{B:Nat}(h:Kept S a b)(E:B≤a.heap.size)(A:∀k,k<B→¬S k):Below B a b:=
 ⟨h.os,h.tape,h.output,h.size,fun i D=>h.block i (by omega) (A i D)⟩
theorem Kept.alloc {S:Nat→Prop}{a w:World}(h:Kept S a w)(o:Obj):Kept S a (w.alloc o):=
 h.trans ⟨rfl,rfl,rfl,by simp,fun k A _=>Below.heap_alloc _ _ _ A⟩
theorem Kept.drew {S:Nat→Prop}{a w:World}(h:Kept S a w):Kept S a w.drew:=⟨h.os,h.tape,h.output,h.size,h.block⟩
theorem Kept.setCell {S:Nat→Prop}{a w:World}(h:Kept S a w){p:Addr}(A:S p.block∨a.heap.size≤p.block)(u:Value):Kept S a (w.setCell p u):=
 ⟨h.os,h.tape,h.output,by simpa [World.setCell] using h.size,fun k E D=>(Below.heap_setCell _ _ _ _ (by rintro rfl;rcases A with A|A;exact D A;omega)).trans (h.block k E D)⟩
theorem Blk.kept {S:Nat→Prop}{w w':World}{b:Nat}{cs:Array Value}{t:TypeId}(h:Blk w b cs t)(D:Kept S w w')(A:¬S b):Blk w' b cs t:=(D.block b h.lt A).trans h
theorem Sl.kept {α:Type}{c:Cod α}{size:Nat}[k:CodK c size]{w w':World}{S T:Nat→Prop}{A:Option Addr}{n cap:Nat}{l:List α}(h:Sl c size w T A n cap l)(F:Kept S w w')(E:∀b,b<w.heap.size→T b→¬S b):Sl c size w' T A n cap l:=
 h.keep k.good k.pos fun b I D=>⟨F.block b D (E b D I),I⟩
end Go.Proofs.YtjdcokpmgionjaaGreat
namespace Go.Proofs.YtjdcokpmgionjaaGreat
open Proofs.Tryz Go.RowKit Go.Shelf
theorem yh {p:Prop}(h:p):Hid p:=h
abbrev yw (w:World):World→Prop:=Below w.heap.size w
abbrev yI (w:World) (g i:Nat) (v:Int):Prop:=w.cell? ⟨g,i,none⟩=some (.int .i64 v)
abbrev yJ (w:World) (g i:Nat) (A:Option Addr) (n c:Nat):Prop:=w.cell? ⟨g,i,none⟩=some (.slice A n c)
theorem yP (a:Act)(d:Tmp)(v:Value):a.put (some d) v={ a with tmps:=a.tmps.setIfInBounds d v }:=rfl
theorem yQ (a:Act)(v:Value):a.put none v=a:=rfl
abbrev M9:Array Value:=#[.int .i64 0,.int .i64 0,.slice none 0 0,.slice none 0 0,.slice none 0 0,.int .i64 0,.int .i64 0,.slice none 0 0,.int .i64 0,.int .i64 0,.int .i64 0,.slice none 0 0,.bool false]
theorem J0 {α:Type _}{i:Nat}{a:α}{l:List α} : l[i]? = some a↔∃h,l[i]'h=a:=List.getElem?_eq_some_iff
theorem J1 {α:Type _}{l:List α}{i:Nat}(h:i<l.length):l[i]? = some (l[i]'h):=List.getElem?_eq_getElem h
theorem J2 {p:Prop}[Decidable p](h:p):decide p=true:=decide_eq_true h
theorem J3 {p:Prop}[Decidable p](h:¬p):decide p=false:=decide_eq_false h
theorem J4 (B:Nat)(w:World):Below B w w:=Below.refl B w
theorem J5 (n:Nat):n≤n:=Nat.le_refl n
theorem J6 {α:Type _}{l:List α}{i:Nat}{a:α}(h:l[i]? = some a):a∈l:=List.mem_of_getElem? h
theorem J7 {α:Type _}{l:List α}{i:Nat}{a:α} : l.getD i a=l[i]?.getD a:=List.getD_eq_getElem?_getD
theorem J8 {α:Type _}{i:Nat}{l:List α} : (List.take i l).length=min i l.length:=List.length_take
theorem J9 {α:Type _}{l m:List α} : (l++m).length=l.length+m.length:=List.length_append
theorem M0 (n:Nat):0≤n:=Nat.zero_le n
theorem M1 {α:Type _}{i:Nat}{l:List α}(h:l.length≤i):List.take i l=l:=List.take_of_length_le h
theorem M2 {c:Prop}{h:Decidable c}(hnc:¬c){α:Sort _}{t e:α} : ite c t e=e:=if_neg hnc
theorem M3 {c:Prop}{h:Decidable c}(hc:c){α:Sort _}{t e:α} : ite c t e=t:=if_pos hc
theorem M4 {P:Program}{fn:Func}{R:Ending→World→Prop}{a:Act}{w:World}{v:Value}(h:(results fn a.tmps).run P w=.ok v w)(hd:a.defers=[])(hR:R (.returned v) w):bodyPost P fn R .ret a w:=bodyPost_ret h hd hR
theorem M5 {B g:Nat}{w0 w:World}(h:Below B w0 w)(hg:B≤g)(cs:Array Value):Below B w0 (w.setRow g cs):=below_setRow h hg cs
section
variable {P:Program} {ops:Array Oper} {Q:Exit→Act→World→Prop} {md:Region.Mode} {S:World→Prop}
def yb (md:Region.Mode) (ops:Array Oper):List Nat→Nat→Array Bool→Bool
 | [],_,_=>true
 | _::_,0,_=>false
 | i::l,f+1,b=>Region.free md ops b i && ((Region.ready md ops b).contains i && yb md ops l f (b.setIfInBounds i true))
def yL (P:Program) (ops:Array Oper) (Q:Exit→Act→World→Prop) (md:Region.Mode) (S:World→Prop):List Nat→Nat→Array Bool→Act→World→Prop
 | [],f,b,a,w=>wpAnyH P md ops Q S f b a w
 | _::_,0,_,_,_=>True
 | i::l,f+1,b,a,w=>∃oi v,ops[i]? = some oi∧(∀c a w,Q (.panic c) (a.put oi.dst v) w→Q (.panic c) a w)∧YieldsIf P ops S oi v a∧yL P ops Q md S l f (b.setIfInBounds i true) (a.put oi.dst v) w
theorem yG (hs:Region.noSelect ops=true){w:World}(hS:S w):∀(l:List Nat) (f:Nat) (b:Array Bool) (a:Act),yb md ops l f b=true→yL P ops Q md S l f b a w→wpAnyH P md ops Q S f b a w
 | [],_,_,_,_,h=>h
 | _::_,0,_,_,h0,_=>by cases h0
 | i::l,f+1,b,a,h0,h=>by
  obtain⟨oi,v,ho,hq,hy,h⟩:=h;unfold yb at h0;rw[Bool.and_eq_true,Bool.and_eq_true]at h0;exact wpAnyH_take ho hs h0.1 h0.2.1 hq hy hS (yG hs hS l f _ _ h0.2.2 h)
theorem yT (l:List Nat){f:Nat}{b:Array Bool}{a:Act}{w:World}(h:yL P ops Q md S l f b a w)(h0:(Region.noSelect ops && yb md ops l f b)=true:=by kernel_rfl)(hS:S w:=by assumption):wpAnyH P md ops Q S f b a w:=by
 rw[Bool.and_eq_true]at h0;exact yG h0.1 hS l f b a h0.2 h
theorem yS {i:Nat}{l:List Nat}{f:Nat}{b:Array Bool}{a:Act}{w:World}{oi:Oper}{v:Value}
  (h:yL P ops Q md S l f (b.setIfInBounds i true) (a.put oi.dst v) w) (ho:ops[i]? = some oi:=by exact gA rfl) (hq:∀c a w,Q (.panic c) (a.put oi.dst v) w→Q (.panic c) a w:=by exact fun _ _ _ h=>h) (hw:Region.wanted oi (yielded ops a.tmps)=true:=by exact rfl)
  (hy:∀w,S w→(execOp a.eval oi).run P w=.ok (.value v) w:=by(intro w hSw;(try dsimp only at hSw);go_simp<;>with_reducible rfl)):yL P ops Q md S (i::l) (f+1) b a w:=⟨oi,v,ho,hq,.inl ⟨hw,hy⟩,h⟩
theorem yV {rest:List Oper}{o:Oper}{a:Act}{w:World}{t ty:TypeId}{cs:Array Value}{fr:Nat×Nat}{d:TypeDesc}{g:Nat}(x:Operand)(hg:w.heap[g]? = some (.cells cs t fr))(hu:P.underlying ty=some d)(h:wpList P ops Q rest (a.put o.dst (.agg cs)) w)
  (hgd:o.guard=none:=by exact rfl) (ho:o.op=.load ty x:=by exact rfl) (hx:a.eval x=.pointer (some ⟨g,0,none⟩):=by exact rfl) (hd:(match d with | .struct _ | .array _ _=>true|_=>false)=true:=by exact rfl) (hi:(P.info? ty).map (·.size)=some cs.size:=by kernel_rfl):wpList P ops Q (o::rest) a w:=
 wpList_load_row hgd ty x ho g hx t cs fr d hg hu hd hi h
theorem yX {rest:List Oper}{o:Oper}{a:Act}{w:World}{t:TypeId}{old:Array Value}(ty:TypeId)(x y:Operand)(g:Nat)(cells:Array Value)(hg:w.heap[g]? = some (.cells old t (0,0)))(h:wpList P ops Q rest (a.put o.dst undef) (w.setRow g cells))
  (hgd:o.guard=none:=by exact rfl) (ho:o.op=.store ty x y:=by exact rfl) (hx:a.eval x=.pointer (some ⟨g,0,none⟩):=by exact rfl) (hy:a.eval y=.agg cells:=by exact rfl) (hi:(P.info? ty).map (·.size)=some cells.size:=by kernel_rfl) (hold:old.size=cells.size:=by exact rfl) (h1:cells.all (·.oneCell')=true:=by simp[Value.oneCell']):wpList P ops Q (o::rest) a w:=
 wpList_store_row hgd ty x y ho g cells hx hy t old hg hi hold h1 h
theorem yY {o:Oper}{a:Act}{w:World}{K:Act→World→Prop}{t:TypeId}{old:Array Value}(ty:TypeId)(x y:Operand)(g:Nat)(cells:Array Value)(hg:w.heap[g]? = some (.cells old t (0,0)))(h:K (a.put o.dst undef) (w.setRow g cells))
  (ho:o.op=.store ty x y:=by exact rfl) (hx:a.eval x=.pointer (some ⟨g,0,none⟩):=by exact rfl) (hy:a.eval y=.agg cells:=by exact rfl) (hi:(P.info? ty).map (·.size)=some cells.size:=by kernel_rfl) (hold:old.size=cells.size:=by exact rfl) (h1:cells.all (·.oneCell')=true:=by simp[Value.oneCell']):o.wp P a w K Q:=
 wp_store_row ty x y ho g cells hx hy t old hg hi hold h1 h
theorem yR (i:Nat){o:Oper}{fuel:Nat}{listed:Array Bool}{a:Act}{w:World}
  (h:∀K':Act→World→Prop,Shut (∀a w,S w→(S w→wpAnyH P md ops Q S fuel (listed.setIfInBounds i true) a w)→K' a w)→if Region.wanted o (yielded ops a.tmps)=true then Oper.wp P o a w K' Q else K' (a.put o.dst undef) w)
  (hr:Region.ready md ops listed=[i]:=by kernel_rfl) (ho:ops[i]? = some o:=by exact gA rfl):wpAnyH P md ops Q S (fuel+1) listed a w:=
 wpAnyH_ready hr (by simp) (AllReadyH.cons ho h AllReadyH.nil)
theorem yr1 (i:Nat){o:Oper}{fuel:Nat}{listed:Array Bool}{a:Act}{w:World}
  (h:∀K':Act→World→Prop,Shut (∀a w,S w→(S w→wpAnyH P md ops Q S fuel (listed.setIfInBounds i true) a w)→K' a w)→if Region.wanted o (yielded ops a.tmps)=true then Oper.wp P o a w K' Q else K' (a.put o.dst undef) w)
  (hr:Region.ready md ops listed=[i]:=by kernel_rfl) (ho:ops[i]? = some o:=by exact gA rfl):wpAnyH P md ops Q S (fuel+1) listed a w:=
 yR i h hr ho
theorem yr2 (i j:Nat){o p:Oper}{fuel:Nat}{listed:Array Bool}{a:Act}{w:World}
  (h:∀K':Act→World→Prop,Shut (∀a w,S w→(S w→wpAnyH P md ops Q S fuel (listed.setIfInBounds i true) a w)→K' a w)→if Region.wanted o (yielded ops a.tmps)=true then Oper.wp P o a w K' Q else K' (a.put o.dst undef) w)
  (h2:∀K':Act→World→Prop,Shut (∀a w,S w→(S w→wpAnyH P md ops Q S fuel (listed.setIfInBounds j true) a w)→K' a w)→if Region.wanted p (yielded ops a.tmps)=true then Oper.wp P p a w K' Q else K' (a.put p.dst undef) w)
  (hr:Region.ready md ops listed=[i,j]:=by kernel_rfl) (ho:ops[i]? = some o:=by exact gA rfl) (hp:ops[j]? = some p:=by exact gA rfl):wpAnyH P md ops Q S (fuel+1) listed a w:=
 wpAnyH_ready hr (by simp) (AllReadyH.cons ho h (AllReadyH.cons hp h2 AllReadyH.nil))
theorem yr3 (i j k:Nat){o p q:Oper}{fuel:Nat}{listed:Array Bool}{a:Act}{w:World}
  (h:∀K':Act→World→Prop,Shut (∀a w,S w→(S w→wpAnyH P md ops Q S fuel (listed.setIfInBounds i true) a w)→K' a w)→if Region.wanted o (yielded ops a.tmps)=true then Oper.wp P o a w K' Q else K' (a.put o.dst undef) w)
  (h2:∀K':Act→World→Prop,Shut (∀a w,S w→(S w→wpAnyH P md ops Q S fuel (listed.setIfInBounds j true) a w)→K' a w)→if Region.wanted p (yielded ops a.tmps)=true then Oper.wp P p a w K' Q else K' (a.put p.dst undef) w)
  (h3:∀K':Act→World→Prop,Shut (∀a w,S w→(S w→wpAnyH P md ops Q S fuel (listed.setIfInBounds k true) a w)→K' a w)→if Region.wanted q (yielded ops a.tmps)=true then Oper.wp P q a w K' Q else K' (a.put q.dst undef) w)
  (hr:Region.ready md ops listed=[i,j,k]:=by kernel_rfl) (ho:ops[i]? = some o:=by exact gA rfl) (hp:ops[j]? = some p:=by exact gA rfl) (hq:ops[k]? = some q:=by exact gA rfl):wpAnyH P md ops Q S (fuel+1) listed a w:=
 wpAnyH_ready hr (by simp) (AllReadyH.cons ho h (AllReadyH.cons hp h2 (AllReadyH.cons hq h3 AllReadyH.nil)))
theorem yt1 (i:Nat){o:Oper}{fuel:Nat}{listed:Array Bool}{a:Act}{w:World}
  (h:∀K':Act→World→Prop,Shut (∀a w,S w→(S w→wpAnyH P md ops Q S fuel (listed.setIfInBounds i true) a w)→K' a w)→if Region.wanted o (yielded ops a.tmps)=true then Oper.wp P o a w K' Q else K' (a.put o.dst undef) w)
  (hr:Region.ready md ops listed=[i]:=by(fail_if_success (fail_if_success decide +kernel));kernel_rfl) (ho:ops[i]? = some o:=by exact gA rfl):wpAnyH P md ops Q S (fuel+1) listed a w:=
 yR i h hr ho
theorem yt2 (i j:Nat){o p:Oper}{fuel:Nat}{listed:Array Bool}{a:Act}{w:World}
  (h:∀K':Act→World→Prop,Shut (∀a w,S w→(S w→wpAnyH P md ops Q S fuel (listed.setIfInBounds i true) a w)→K' a w)→if Region.wanted o (yielded ops a.tmps)=true then Oper.wp P o a w K' Q else K' (a.put o.dst undef) w)
  (h2:∀K':Act→World→Prop,Shut (∀a w,S w→(S w→wpAnyH P md ops Q S fuel (listed.setIfInBounds j true) a w)→K' a w)→if Region.wanted p (yielded ops a.tmps)=true then Oper.wp P p a w K' Q else K' (a.put p.dst undef) w)
  (hr:Region.ready md ops listed=[i,j]:=by(fail_if_success (fail_if_success decide +kernel));kernel_rfl) (ho:ops[i]? = some o:=by exact gA rfl) (hp:ops[j]? = some p:=by exact gA rfl):wpAnyH P md ops Q S (fuel+1) listed a w:=
 wpAnyH_ready hr (by simp) (AllReadyH.cons ho h (AllReadyH.cons hp h2 AllReadyH.nil))
theorem yt3 (i j k:Nat){o p q:Oper}{fuel:Nat}{listed:Array Bool}{a:Act}{w:World}
  (h:∀K':Act→World→Prop,Shut (∀a w,S w→(S w→wpAnyH P md ops Q S fuel (listed.setIfInBounds i true) a w)→K' a w)→if Region.wanted o (yielded ops a.tmps)=true then Oper.wp P o a w K' Q else K' (a.put o.dst undef) w)
  (h2:∀K':Act→World→Prop,Shut (∀a w,S w→(S w→wpAnyH P md ops Q S fuel (listed.setIfInBounds j true) a w)→K' a w)→if Region.wanted p (yielded ops a.tmps)=true then Oper.wp P p a w K' Q else K' (a.put p.dst undef) w)
  (h3:∀K':Act→World→Prop,Shut (∀a w,S w→(S w→wpAnyH P md ops Q S fuel (listed.setIfInBounds k true) a w)→K' a w)→if Region.wanted q (yielded ops a.tmps)=true then Oper.wp P q a w K' Q else K' (a.put q.dst undef) w)
  (hr:Region.ready md ops listed=[i,j,k]:=by(fail_if_success (fail_if_success decide +kernel));kernel_rfl) (ho:ops[i]? = some o:=by exact gA rfl) (hp:ops[j]? = some p:=by exact gA rfl) (hq:ops[k]? = some q:=by exact gA rfl):wpAnyH P md ops Q S (fuel+1) listed a w:=
 wpAnyH_ready hr (by simp) (AllReadyH.cons ho h (AllReadyH.cons hp h2 (AllReadyH.cons hq h3 AllReadyH.nil)))
theorem yZ {id:Nat}{a:Act}{w:World}(hS:S w.drew)(h:S w.drew→wpAnyH P .any ops Q S ops.size (Array.replicate ops.size false) a w.drew)(hm:P.follows .mixedOrders=true:=by kernel_rfl):(Code.region id ops true).wp P Q a w:=wp_region_held_drew hm hS h
theorem yD {fuel:Nat}{listed:Array Bool}{a:Act}{w:World}(h:Q .normal a w)(hr:Region.ready md ops listed=[]:=by kernel_rfl):wpAnyH P md ops Q S fuel listed a w:=wpAnyH_done hr h _
end
section
theorem yl {ty:TypeId}{w:World}{g:Nat}{cs:Array Value}{t:TypeId}{d:TypeDesc}(hg:w.heap[g]? = some (.cells cs t (0,0)))(hu:Tryz.prog.underlying ty=some d)(hd:(match d with | .struct _ | .array _ _=>true|_=>false)=true)(hi:(Tryz.prog.info? ty).map (·.size)=some cs.size):(loadVar ty ⟨g,0,none⟩).run prog w=.ok (.agg cs) w:=by
 cases d<;>first|exact run_loadVar_row w g t ty cs (0,0) _ hg hu rfl hi|simp at hd
variable {fn:Func} {R:Ending→World→Prop} {a:Act} {w:World} {k l u v:Tmp} {ty ty2 t t2:TypeId} {g g2:Nat} {cs ds:Array Value} {d d2:TypeDesc} {e f:Value}
theorem yq (x:Value)(hg:w.heap[g]? = some (.cells cs t (0,0)))(hu:Tryz.prog.underlying ty=some d)(hR:R (.returned x) w)(hx:x=.agg cs:=by exact rfl)(hf:fn.results=#[.cell k ty]:=by kernel_rfl)(hp:a.tmps.getD k undef=.pointer (some ⟨g,0,none⟩):=by exact rfl)(hd:(match d with | .struct _ | .array _ _=>true|_=>false)=true:=by kernel_rfl)(hi:(Tryz.prog.info? ty).map (·.size)=some cs.size:=by kernel_rfl)(hs:a.defers=[]:=by exact rfl):bodyPost prog fn R .ret a w:=by
 subst hx;have h:=yl hg hu hd hi;refine bodyPost_ret (v:=.agg cs) ?_ hs hR
 cases d<;>first|exact results_cell_row hf a.tmps w g t cs (0,0) _ hp hg hu rfl hi|simp at hd
theorem yq2 (x:Value)(hg:w.heap[g]? = some (.cells cs t (0,0)))(hu:Tryz.prog.underlying ty=some d)(hR:R (.returned x) w)(hx:x=.tuple #[.agg cs,e]:=by exact rfl)(hf:fn.results=#[.cell k ty,.tmp u]:=by kernel_rfl)(hp:a.tmps.getD k undef=.pointer (some ⟨g,0,none⟩):=by exact rfl)(he:a.tmps.getD u undef=e:=by exact rfl)(hd:(match d with | .struct _ | .array _ _=>true|_=>false)=true:=by kernel_rfl)(hi:(Tryz.prog.info? ty).map (·.size)=some cs.size:=by kernel_rfl)(hs:a.defers=[]:=by exact rfl):bodyPost prog fn R .ret a w:=by
 subst hx;have h:=yl hg hu hd hi;refine bodyPost_ret (v:=.tuple #[.agg cs,e]) ?_ hs hR
 have h0:(results fn a.tmps).run prog w=((asAddr (a.tmps.getD k undef)).run prog w).andThen fun b w₁=>((loadVar ty b).run prog w₁).andThen fun x w₂=>.ok (.tuple #[x,a.tmps.getD u undef]) w₂:=by
  simp only[results,hf];simp[Sem.run_bind,Result.andThen]
 rw[h0,hp,he];simp only[asAddr,Sem.run_pure,Result.andThen,h]
theorem yq3 (x:Value)(hg:w.heap[g]? = some (.cells cs t (0,0)))(hu:Tryz.prog.underlying ty=some d)(hR:R (.returned x) w)(hx:x=.tuple #[.agg cs,e,f]:=by exact rfl)(hf:fn.results=#[.cell k ty,.tmp u,.tmp v]:=by kernel_rfl)(hp:a.tmps.getD k undef=.pointer (some ⟨g,0,none⟩):=by exact rfl)(he:a.tmps.getD u undef=e:=by exact rfl)(he2:a.tmps.getD v undef=f:=by exact rfl)(hd:(match d with | .struct _ | .array _ _=>true|_=>false)=true:=by kernel_rfl)(hi:(Tryz.prog.info? ty).map (·.size)=some cs.size:=by kernel_rfl)(hs:a.defers=[]:=by exact rfl):bodyPost prog fn R .ret a w:=by
 subst hx;have h:=yl hg hu hd hi;refine bodyPost_ret (v:=.tuple #[.agg cs,e,f]) ?_ hs hR
 have h0:(results fn a.tmps).run prog w=((asAddr (a.tmps.getD k undef)).run prog w).andThen fun b w₁=>((loadVar ty b).run prog w₁).andThen fun x w₂=>.ok (.tuple #[x,a.tmps.getD u undef,a.tmps.getD v undef]) w₂:=by
  simp only[results,hf];simp[Sem.run_bind,Result.andThen]
 rw[h0,hp,he,he2];simp only[asAddr,Sem.run_pure,Result.andThen,h]
theorem yq4 (x:Value)(hg:w.heap[g]? = some (.cells cs t (0,0)))(hh:w.heap[g2]? = some (.cells ds t2 (0,0)))(hu:Tryz.prog.underlying ty=some d)(hu2:Tryz.prog.underlying ty2=some d2)(hR:R (.returned x) w)(hx:x=.tuple #[.agg cs,.agg ds,e]:=by exact rfl)(hf:fn.results=#[.cell k ty,.cell l ty2,.tmp u]:=by kernel_rfl)(hp:a.tmps.getD k undef=.pointer (some ⟨g,0,none⟩):=by exact rfl)(hp2:a.tmps.getD l undef=.pointer (some ⟨g2,0,none⟩):=by exact rfl)(he:a.tmps.getD u undef=e:=by exact rfl)(hd:(match d with | .struct _ | .array _ _=>true|_=>false)=true:=by kernel_rfl)(hi:(Tryz.prog.info? ty).map (·.size)=some cs.size:=by kernel_rfl)(hd2:(match d2 with | .struct _ | .array _ _=>true|_=>false)=true:=by kernel_rfl)(hi2:(Tryz.prog.info? ty2).map (·.size)=some ds.size:=by kernel_rfl)(hs:a.defers=[]:=by exact rfl):bodyPost prog fn R .ret a w:=by
 subst hx;have h:=yl hg hu hd hi;have h2:=yl hh hu2 hd2 hi2;refine bodyPost_ret (v:=.tuple #[.agg cs,.agg ds,e]) ?_ hs hR
 have h0:(results fn a.tmps).run prog w=((asAddr (a.tmps.getD k undef)).run prog w).andThen fun b w₁=>((loadVar ty b).run prog w₁).andThen fun x w₂=>((asAddr (a.tmps.getD l undef)).run prog w₂).andThen fun b w₃=>((loadVar ty2 b).run prog w₃).andThen fun y w₄=>.ok (.tuple #[x,y,a.tmps.getD u undef]) w₄:=by
  simp only[results,hf];simp[Sem.run_bind,Result.andThen]
 rw[h0,hp,hp2,he];simp only[asAddr,Sem.run_pure,Result.andThen,h,h2]
theorem yq5 (x:Value)(hg:w.heap[g]? = some (.cells cs t (0,0)))(hh:w.heap[g2]? = some (.cells ds t2 (0,0)))(hu:Tryz.prog.underlying ty=some d)(hu2:Tryz.prog.underlying ty2=some d2)(hR:R (.returned x) w)(hx:x=.tuple #[.agg cs,.agg ds]:=by exact rfl)(hf:fn.results=#[.cell k ty,.cell l ty2]:=by kernel_rfl)(hp:a.tmps.getD k undef=.pointer (some ⟨g,0,none⟩):=by exact rfl)(hp2:a.tmps.getD l undef=.pointer (some ⟨g2,0,none⟩):=by exact rfl)(hd:(match d with | .struct _ | .array _ _=>true|_=>false)=true:=by kernel_rfl)(hi:(Tryz.prog.info? ty).map (·.size)=some cs.size:=by kernel_rfl)(hd2:(match d2 with | .struct _ | .array _ _=>true|_=>false)=true:=by kernel_rfl)(hi2:(Tryz.prog.info? ty2).map (·.size)=some ds.size:=by kernel_rfl)(hs:a.defers=[]:=by exact rfl):bodyPost prog fn R .ret a w:=by
 subst hx;have h:=yl hg hu hd hi;have h2:=yl hh hu2 hd2 hi2;refine bodyPost_ret (v:=.tuple #[.agg cs,.agg ds]) ?_ hs hR
 have h0:(results fn a.tmps).run prog w=((asAddr (a.tmps.getD k undef)).run prog w).andThen fun b w₁=>((loadVar ty b).run prog w₁).andThen fun x w₂=>((asAddr (a.tmps.getD l undef)).run prog w₂).andThen fun b w₃=>((loadVar ty2 b).run prog w₃).andThen fun y w₄=>.ok (.tuple #[x,y]) w₄:=by
  simp only[results,hf];simp[Sem.run_bind,Result.andThen]
 rw[h0,hp,hp2];simp only[asAddr,Sem.run_pure,Result.andThen,h,h2]
end
theorem yE {α:Sort _}(a:α):∃b,b=a:=⟨a,rfl⟩
theorem yM {P:Program}{f:Nat}{xs:Array Value}{w:World}{v:Ending}{R:World→Prop}{K:Ending→World→Prop}(h:Calls P f xs w (fun e w'=>e=v∧R w'))(k:∀w',R w'→K v w'):Calls P f xs w K:=h.mono (by rintro e w' ⟨rfl,h2⟩;exact k w' h2)
theorem yN {P:Program}{f:Nat}{xs:Array Value}{w:World}{v:Ending}{R:World→Prop}{K:Ending→World→Prop}(h:Calls P f xs w (fun e w'=>e=v∧R w'))(k:K v w)(hr:∀w',R w'→w'=w:=by(intro w' h;first|exact h|exact Eq.symm h)):Calls P f xs w K:=h.mono (by rintro e w' ⟨rfl,h2⟩;rw[hr w' h2];exact k)
theorem yA {α:Type}(l:List α)(i:Nat)(a:α):l.toArray.setIfInBounds i a=(l.set i a).toArray:=List.setIfInBounds_toArray ..
theorem yB {α:Type}(a x:α)(l:List α):(a::l).set 0 x=x::l:=rfl
theorem yC {α:Type}(a x:α)(l:List α)(n:Nat):(a::l).set (n+1) x=a::l.set n x:=rfl
theorem yU:(∀(a:Act) (d:Tmp) (v:Value),a.put (some d) v={ a with tmps:=a.tmps.setIfInBounds d v })∧(∀(a:Act) (v:Value),a.put none v=a)∧(∀(α:Type) (l:List α) (i:Nat) (a:α),l.toArray.setIfInBounds i a=(l.set i a).toArray)∧(∀(α:Type) (a x:α) (l:List α),(a::l).set 0 x=x::l)∧∀(α:Type) (a x:α) (l:List α) (n:Nat),(a::l).set (n+1) x=a::l.set n x:=⟨yP,yQ,fun _=>yA,fun _=>yB,fun _=>yC⟩
abbrev yp (v:Value) (g:Nat):Prop:=v=.pointer (some ⟨g,0,none⟩)
abbrev M8:Array Value:=#[.int .i64 0,.int .i64 0,.int .i64 0,.int .i64 0,.bool false,.int .i64 0,.int .i64 0,.int .i64 0,.int .i64 0,.int .i64 0,.slice none 0 0]
abbrev M7:Array Value:=#[.int .i64 0,.int .i64 0,.int .i64 0,.int .i64 0,.bool false,.int .i64 0,.int .i64 0,.int .i64 0,.int .i64 0,.int .i64 0,.int .i64 0]
theorem yk (z:Nat)(w:World):Kept (fun j=>j=z) w w:=Kept.refl _ w
theorem yj (z y:Nat)(w:World):Kept (fun j=>j=z∨j=y) w w:=Kept.refl _ w
theorem yO {K:Act→World→Prop}{a:Act}{w:World}(h:∀V,V=w→K a V):K a w:=h w rfl
theorem Uv:ElemOf prog 70 3 1 8:=.mk' underlying70 (z:=.int .i64 0) (by kernel_rfl) rfl (by omega)
theorem VHa (A:Option Addr)(n cap:Nat)(l:List Int)(g:Nat)(lb:Array Value)(p:Int→Bool)(w:World)(h:Sl QO 1 w All A n cap l)
  (eg:∀U w,(callFunc g U).run prog w=.ok (.enter g U) w)
  (V:∀(x:Int) (w1:World),x∈l→yw w w1→Calls prog g (#[.int .i64 x]++lb) w1 fun e w'=>e=.returned (.bool (p x))∧yw w1 w') :
  Calls prog 198 #[.slice A n cap,.func (.func g) #[] lb] w fun e w'=>e=.returned (.int .i64 (UD p l))∧yw w w':=by
 have Y:=yh V;clear V;have aa:=h.bd;go_enter func198,ntmps198;go_wp2_with fail
 go_loopg [8] n (fun gk i wr=>∃k:Nat,k≤n∧n-k≤gk∧i=.int .i64 k∧Aside ((l.take k).any p=false)∧yw w wr)
 case atStart=>exact⟨0,M0 _,by omega,rfl,rfl,J4 _ _⟩
 case round=>
  obtain⟨k,hk,ab,rfl,I,D⟩:=hrel;by_cases hlt:k<n
  ·obtain⟨b,ac,x,Z,rfl,O,F,g0⟩:=(h.below Qd (by omega) D).at1 hlt;obtain⟨F,hw⟩:=F;simp only[List.cons.injEq,and_true]at F;obtain rfl:=F;have Q:=yh O;have W:=yh (J6 O);clear O;have E:=fun w1 (ae:yw w w1)=>Y x w1 W ae
   cases hq:p x with
   | true=>
    rw[hq]at E;have J:=yh hq;clear hq;go_wp2_with (go_at_fn g;refine yM (E _ D) fun w1 ae=>?_;replace ae:=D.trans (ae.mono D.size);clear E);go_ret;exact⟨ZN (VA I Q J).symm,ae⟩
   | false=>
    rw[hq]at E;have J:=yh hq;clear hq;go_wp2_with (go_at_fn g;refine yM (E _ D) fun w1 ae=>?_;replace ae:=D.trans (ae.mono D.size);clear E);go_roundg (n-(k+1))
    case measure=>omega
    case rel=>exact⟨k+1,by omega,by omega,by go_num,by show _=_;rw[Qu Q.out,I,J.out];rfl,ae⟩
  ·have:k=n:=by omega
   subst this;have X:=yh (M1 (Nat.le_of_eq h.len));go_wp2_with fail;go_ret;exact⟨ZN (by rw[ZK (by rw[←X.out];exact I)]),D⟩
theorem Zsa (A:Option Addr)(n cap:Nat)(l:List Int)(g:Nat)(lb:Array Value)(p:Int→Bool)(w:World)(h:Sl QO 1 w All A n cap l)
  (I:∀U w,(callFunc g U).run prog w=.ok (.enter g U) w)
  (D:∀(x:Int) (w1:World),x∈l→yw w w1→Calls prog g (#[.int .i64 x]++lb) w1 fun e w'=>e=.returned (.bool (p x))∧yw w1 w') :
  Calls prog 116 #[.slice A n cap,.func (.func g) #[] lb] w fun e w'=>e=.returned (.bool (l.any p))∧yw w w':=by
 have E:=VHa A n cap l g lb p w h I D;clear D;go_enter func116,ntmps116;go_wp2_with fail;refine yM E fun w1 J=>?_;have F:=yh (VH (p:=p) (l:=l));have O:=Yp (p:=p) (l:=l) (by have:=h.bd;have:=h.len;omega);go_wp2_with fail;go_ret;exact⟨Ux F,J⟩
theorem V1a (A:Option Addr)(n cap:Nat)(l:List Int)(w:World)(h:Sl QO 1 w All A n cap l)(J:n*8≤140737488355328) :
  Calls prog 220 #[.slice A n cap] w fun e w'=>∃v xs,e=.returned v∧Own QO 1 3 w' w.heap.size v l xs∧yw w w':=by
 have O:=fun(W:World) (a:Option Addr)=>Lib.run_eql_slice_nil (P:=prog) W 70 3 a n cap 0 0 underlying70;rcases A with _|a
 ·have F:l=[]:=by
   rcases l with _|⟨x,l⟩
   ·rfl
   ·obtain⟨b,Q,cs,X,_⟩:=h.rd 0 x rfl;cases X
  subst F;go_enter func220,ntmps220;go_wp2;go_ret;exact⟨_,_,rfl,Own.nil _ _ _ _ _,J4 _ _⟩
 ·go_enter func220,ntmps220;go_wp2_with (at_builtin;refine QC (t:=70) (e:=3) (bytes:=8) rfl (.tmp 5) (.tmp 6) rfl Uv Qd rfl (Own.made w QO 1 3 w.heap.size #[] 0 (J5 _) (by simp[maxLen]) rfl) rfl (h.below Qd (by omega) ((J4 _ _).alloc (J5 _) _)) (fun _ _ D=>D) (by simp;omega) (by omega) (by simp) ?_;intro v' w' U I E _);go_ret;exact⟨_,_,rfl,I,QA (Below.alloc (J4 _ _) (J5 _) _) (Own.made w QO 1 3 w.heap.size #[] 0 (J5 _) (by simp[maxLen]) rfl) E (by simp)⟩
def mx (l:List Int):Int:=l.foldl max (-1)
theorem Z9b (l:List Int)(x:Int):mx (l++[x])=max (mx l) x:=by simp[mx]
theorem Uab {l:List Int}{k:Nat}{x:Int}(h:l[k]? = some x):mx (l.take (k+1))=max (mx (l.take k)) x:=by rw[Qo h,Z9b]
theorem Q3a (l:List Int):∀a,a≤l.foldl max a∧(∀x∈l,x≤l.foldl max a)∧(l.foldl max a=a∨l.foldl max a∈l):=by
 induction l with
 | nil=>intro a;simp
 | cons y l ih=>
  intro a;obtain⟨F,E,A⟩:=ih (max a y);rw[List.foldl_cons];refine⟨by omega,?_,?_⟩
  ·intro x D;rcases List.mem_cons.1 D with rfl|D
   ·omega
   ·exact E x D
  ·rcases A with A|A
   ·rw[A];rcases Int.le_total a y with h|h
    ·right;rw[Int.max_eq_right h];simp
    ·left;rw[Int.max_eq_left h]
   ·right;exact List.mem_cons_of_mem _ A
theorem Ulc {l:List Int}{x:Int}(h:x∈l):x≤mx l:=(Q3a l (-1)).2.1 x h
theorem Uoc (l:List Int) : -1≤mx l:=(Q3a l (-1)).1
theorem Umc {l:List Int}(h:∀x∈l,InI x):InI (mx l):=by
 rcases(Q3a l (-1)).2.2 with e|e
 ·unfold mx;rw[e];exact .of (by omega) (by omega)
 ·exact h _ e
theorem Sl.ints {w:World}{A:Option Addr}{n cap:Nat}{l:List Int}(h:Sl QO 1 w All A n cap l):∀x∈l,InI x:=by
 intro x E;obtain⟨i,D⟩:=List.getElem?_of_mem E;obtain⟨_,_,_,_,_,F,_⟩:=h.rd i x D;exact F.2
theorem YHb (A:Option Addr)(n cap:Nat)(l:List Int)(w:World)(h:Sl QO 1 w All A n cap l)(V:0<n)(D:∀x∈l,0≤x) :
  Calls prog 121 #[.slice A n cap] w fun e w'=>e=.returned (.int .i64 (mx l))∧w'=w:=by
 have aa:=h.bd;obtain⟨b,ae,x,c0,rfl,F,⟨hc,Y⟩,U⟩:=h.at1 V;simp only[List.cons.injEq,and_true]at hc;subst hc;have ad:=D x (J6 F);have Q:=yh (show mx (l.take 1)=x by rw[Uab F];simp[mx];omega);have X:=yh D;clear F D;simp only[Nat.add_zero]at U;go_enter func121,ntmps121;go_wp2_with fail
 go_loopg [3,4] n (fun gk m i wr=>∃k:Nat,k≤n∧1≤k∧n-k≤gk∧i=.int .i64 k∧m=.int .i64 (mx (l.take k))∧wr=w)
 case atStart=>exact⟨1,by omega,by omega,by omega,rfl,by rw[Q.out],rfl⟩
 case round=>
  obtain⟨k,hk,ac,ab,rfl,rfl,rfl⟩:=hrel;by_cases hlt:k<n
  ·obtain⟨b',af,y,c1,E,I,⟨hc,Z⟩,g1⟩:=h.at1 hlt;simp only[List.cons.injEq,and_true]at hc;subst hc;injection E with E;injection E with e1 e2 _;subst e1 e2;have J:=yh (Uab I);have hm:=Umc (l:=l.take k) (fun z W=>Sl.ints h z (List.mem_of_mem_take W));clear I;go_wp2_with fail
   all_goals go_roundg (n-(k+1))
   all_goals first
    | omega
    | exact⟨k+1,by omega,by omega,by omega,by go_num,by rw[J.out];congr 1;omega,rfl⟩
  ·have:k=n:=by omega
   subst this;have O:=yh (M1 (Nat.le_of_eq h.len));go_wp2_with fail;go_ret;exact⟨ZN (by rw[O.out]),rfl⟩
theorem Uxb (A:Option Addr)(n cap:Nat)(l:List Int)(v:Int)(w:World)(h:Sl QO 1 w All A n cap l) :
  Calls prog 199 #[.slice A n cap,.int .i64 v] w fun e w'=>e=.returned (.int .i64 (UD (fun x=>v==x) l))∧w'=w:=by
 have W:=h.bd;go_enter func199,ntmps199;go_wp2_with fail
 go_loopg [8] n (fun gk i wr=>∃k:Nat,k≤n∧n-k≤gk∧i=.int .i64 k∧Aside ((l.take k).any (fun x=>v==x)=false)∧wr=w)
 case atStart=>exact⟨0,M0 _,by omega,rfl,rfl,rfl⟩
 case round=>
  obtain⟨k,Y,X,rfl,HA,rfl⟩:=hrel;by_cases hlt:k<n
  ·obtain⟨b,Z,x,U,rfl,F,⟨E,Q⟩,V⟩:=h.at1 hlt;simp only[List.cons.injEq,and_true]at E;subst E;have D:=yh F;clear F;by_cases hq:v=x
   ·subst hq;go_wp2_with fail;go_ret;exact⟨ZN (VA HA D (by simp)).symm,rfl⟩
   ·have O:(v==x)=false:=by simpa using hq
    clear hq;have I:=yh O;go_wp2_with fail;go_roundg (n-(k+1))
    case measure=>omega
    case rel=>exact⟨k+1,by omega,by omega,by go_num,by show _=_;rw[Qu D.out,HA,I.out];rfl,rfl⟩
  ·have:k=n:=by omega
   subst this;have J:=yh (M1 (Nat.le_of_eq h.len));go_wp2_with fail;go_ret;exact⟨ZN (by rw[ZK (by rw[←J.out];exact HA)]),rfl⟩
structure Span where
 frm:Int
 upto:Int
 deriving DecidableEq,Inhabited
def XJ:Cod Span:=fun _ _ x cs=>cs=[.int .i64 x.frm,.int .i64 x.upto]∧InI x.frm∧InI x.upto
theorem Zyb:XM XJ:=fun _ _ _ _ _ _ h=>h
theorem Qz:Good XJ:=.of_flat Zyb fun h u A=>by obtain⟨rfl,_⟩:=h;simp at A;rcases A with rfl|rfl<;>rfl
def X7 (n:Int):Bool:=Qc n 1 7
def VS (s:Span) (legs:Int):Int:=if X7 legs=false∨s.frm<0∨legs<s.upto then 3 else if s.upto≤s.frm then 4 else 0
theorem U3a (n:Int)(w:World):Calls prog 156 #[.int .i64 n] w fun e w'=>e=.returned (.bool (X7 n))∧w=w':=by
 go_enter func156,ntmps156;go_wp2
 all_goals go_ret
 all_goals exact⟨Ux (by simp[X7,Qc];try omega),rfl⟩
theorem VYa (a b:Int)(A:Int)(w:World):Calls prog 114 #[.agg #[.int .i64 a,.int .i64 b],.int .i64 A] w fun e w'=>e=.returned (.int .i64 (VS ⟨a,b⟩ A))∧yw w w':=by
 go_enter func114,ntmps114;have I:∃q,q=X7 A:=⟨_,rfl⟩;obtain⟨q,D⟩:=I;have F:=yh D;have E:=fun W=>U3a A W;rw[←D]at E;clear D;cases q
 all_goals go_wp2_with (go_at_call 156;refine(E _).mono ?_;rintro e w' ⟨rfl,rfl⟩)
 all_goals go_ret
 all_goals refine⟨ZN ?_,(J4 _ _).alloc (J5 _) _⟩
 all_goals (try simp at *)
 all_goals unfold VS
 all_goals rw[F.out]
 all_goals dsimp only
 all_goals simp
 all_goals (repeat' split)
 all_goals omega
theorem VEa (a b:Int)(A:Int)(w:World):Calls prog 145 #[.agg #[.int .i64 a,.int .i64 b],.int .i64 A] w fun e w'=>e=.returned (.int .i64 (VS ⟨a,b⟩ A))∧yw w w':=by
 go_enter func145,ntmps145;have I:∃q,q=X7 A:=⟨_,rfl⟩;obtain⟨q,D⟩:=I;have F:=yh D;have E:=fun W=>Qj A 1 7 W;rw[show Qc A 1 7=X7 A from rfl,←D]at E;clear D;cases q
 all_goals go_wp2_with (go_at_call 70;refine(E _).mono ?_;rintro e w' ⟨rfl,rfl⟩)
 all_goals go_ret
 all_goals refine⟨ZN ?_,(J4 _ _).alloc (J5 _) _⟩
 all_goals (try simp at *)
 all_goals unfold VS
 all_goals rw[F.out]
 all_goals dsimp only
 all_goals simp
 all_goals (repeat' split)
 all_goals omega
def seg (l:List Int) (a b:Int):List Int:=(l.drop a.toNat).take (b.toNat-a.toNat)
theorem Sl.segm {w:World}{A:Option Addr}{n cap f t:Nat}{l:List Int}(h:Sl QO 1 w All A n cap l)(E:f<t)(D:t≤n):Sl QO 1 w All (A.map fun x=>x.add f) (t-f) (cap-f) (seg l f t):=by
 have F:=h.cut (k:=f) (m:=t) (by omega) D;rw[M2 (by have:=h.le;omega)]at F;unfold seg
 simpa using F
theorem Yaa {l:List Int}{a b x:Int}(h:x∈seg l a b):x∈l:=List.mem_of_mem_drop (List.mem_of_mem_take h)
theorem Zrb {l:List Int}{f t:Nat}(A:t≤l.length):(seg l f t).length=t-f:=by
 unfold seg;rw[J8,List.length_drop];simp;omega
theorem Zwc {l:List Int}{f t k:Nat}{x:Int}(A:l[k]? = some x)(D:f≤k)(E:k<t):(seg l f t)[k-f]? = some x:=by
 unfold seg;simp only[Int.toNat_natCast];rw[List.getElem?_take,M3 (by omega),List.getElem?_drop,show f+(k-f)=k by omega];exact A
theorem QLa (w:World)(S:Nat→Prop)(x:Int)(t:TypeId)(D:InI x)(A:S w.heap.size):Sl QO 1 (w.alloc (.cells #[.int .i64 x] t)) S (some ⟨w.heap.size,0,none⟩) 1 1 [x]:=
 Sl.lit1 w S t x [.int .i64 x] ⟨rfl,D⟩ A
def SpanAt (w:World) (b:Nat) (x y:Int):Prop:=w.heap[b]? = some (.cells #[.int .i64 x,.int .i64 y] 51 (0,0))
theorem SpanAt.c0 {w:World}{b:Nat}{x y:Int}(h:SpanAt w b x y):yI w b 0 x:=Z6 h rfl
theorem SpanAt.c1 {w:World}{b:Nat}{x y:Int}(h:SpanAt w b x y):yI w b 1 y:=Z6 h rfl
theorem SpanAt.below {w w':World}{b:Nat}{x y:Int}(h:SpanAt w b x y)(A:yw w w'):SpanAt w' b x y:=(A.block _ (lt_of_block h)).trans h
end Go.Proofs.YtjdcokpmgionjaaGreat
namespace Go.Proofs.YtjdcokpmgionjaaGreat
open Go.RowKit
section
variable {P:Program} {α:Type} {c:Cod α} {size bytes:Nat} {t e:TypeId} {w:World} {base:Nat} {v:Value} {l:List α} {xs:List Value}
theorem Uy {ab:Array Oper}{o:Oper}{a:Act}{K:Act→World→Prop}{Q:Exit→Act→World→Prop}{E:Prop}(ad:o.guard=none)(s x:Operand)
  (U:o.op=.call { callee:=.builtin .append,args:=#[s,x],argTypes:=#[t,t] })
  (J:ElemOf P t e size bytes) (O:Good c) {A:Option Addr} {m cap:Nat} {S:Nat→Prop} {l2:List α} (W:a.eval s=v) (Z:a.eval x=.slice A m cap) (V:Own c size e w base v l xs) (X:Sl c size w S A m cap l2)
  (D:∀x cs,c w S x cs→c w (QL base v) x cs) (I:(l.length+m)*bytes≤140737488355328) (ac:1≤bytes) (F:base≤w.heap.size)
  (h:∀v' w' aa,Own c size e w' base v' (l++l2) aa→w.grownBy w' v.ownBlock→(v'.ownBlock=v.ownBlock∨v'.ownBlock=some w.heap.size)→K (a.put o.dst v') w') :
  if Region.wanted o (yielded ab a.tmps)=true then Oper.wp P o a w K Q else E:=by
 have Y:Region.wanted o (yielded ab a.tmps)=true:=by simp[Region.wanted,ad]
 rw[if_pos Y];exact YDb s x U J O W V Z X D I ac F h
theorem Own.empty (c:Cod α)(size:Nat){g:Nat}(A:base≤g)(D:w.heap[g]? = some (.cells #[] e (0,0))):Own c size e w base (.slice (some ⟨g,0,none⟩) 0 0) [] []:=
 ⟨⟨by simp,.inr ⟨g,0,#[],rfl,A,D,Nat.le_refl _,by simp[maxLen],by simp,by simp⟩⟩,fun i x h=>by simp at h⟩
end
end Go.Proofs.YtjdcokpmgionjaaGreat
namespace Go.Proofs.YtjdcokpmgionjaaGreat
open Proofs.Tryz Go.RowKit Go.Shelf
def ZY (n:Nat):Cod (List Value):=fun _ _ x cs=>cs=x∧x.length=n∧∀u∈x,u.oneCell'=true
theorem XDa (n:Nat):XM (ZY n):=fun _ _ _ _ _ _ h=>h
theorem QW (n:Nat):Good (ZY n):=.of_flat (XDa n) fun h u A=>by obtain⟨rfl,_,h⟩:=h;exact h u A
instance rawK11:CodK (ZY 11) 11:=⟨QW 11,by omega⟩
instance rawK2:CodK (ZY 2) 2:=⟨QW 2,by omega⟩
instance rawK1:CodK (ZY 1) 1:=⟨QW 1,by omega⟩
structure Pts {α:Type} (c:Cod α) (w:World) (L:List (List Value)) (l:List α):Prop where
 len:L.length=l.length
 el:∀(i:Nat) (cs:List Value) (x:α),L[i]? = some cs→l[i]? = some x→c w All x cs
section
variable {α:Type} {c:Cod α} {size:Nat} {w w':World} {A:Option Addr} {n cap:Nat} {l l2:List α} {L L2:List (List Value)}
theorem Sl.raw (h:Sl c size w All A n cap l)(X:Good c):∃L,Sl (ZY size) size w All A n cap L∧Pts c w L l:=by
 have V:∀i:Fin l.length,∃cs:List Value,∃b E,A=some ⟨b,E,none⟩∧c w All l[i] cs∧cs.length=size∧∀j u,cs[j]? = some u→w.cell? ⟨b,E+i.1*size+j,none⟩=some u:=fun i=>by
  obtain⟨b,E,cs,O,_,D,F,I⟩:=h.rd i.1 l[i] (J1 i.2);exact⟨cs,b,E,O,D,F,I⟩
 refine⟨List.ofFn fun i=>Classical.choose (V i),⟨by simp[h.len],h.le,h.max,fun i y Q=>?_⟩,⟨by simp,fun i cs x U W=>?_⟩⟩
 ·have J:i<l.length:=by have:=(J0.1 Q).1;simpa using this
  rw[J1 (by simpa using J)]at Q;simp only[List.getElem_ofFn,Option.some.injEq]at Q;obtain⟨b,E,O,D,F,I⟩:=Classical.choose_spec (V ⟨i,J⟩);rw[Q]at D F I;exact⟨b,E,y,O,trivial,⟨rfl,F,fun u Y=>X.one D u Y⟩,F,I⟩
 ·have J:i<l.length:=(J0.1 W).1;rw[J1 (by simpa using J)]at U;simp only[List.getElem_ofFn,Option.some.injEq]at U;obtain⟨b,E,O,D,F,I⟩:=Classical.choose_spec (V ⟨i,J⟩);rw[U]at D;have Z:l[i]=x:=(J0.1 W).2;subst Z;exact D
theorem Sl.unraw (h:Sl (ZY size) size w All A n cap L)(D:Pts c w L l):Sl c size w All A n cap l:=by
 refine⟨by rw[←D.len];exact h.len,h.le,h.max,fun i x F=>?_⟩
 have E:i<L.length:=by rw[D.len];exact(J0.1 F).1
 obtain⟨b,U,cs,I,_,J,Q,O⟩:=h.rd i L[i] (J1 E);obtain⟨rfl,_,_⟩:=J;exact⟨b,U,_,I,trivial,D.el i _ x (J1 E) F,Q,O⟩
theorem Pts.bel [k:CodK c size](h:Pts c w L l)(E:yw w w'):Pts c w' L l:=
 ⟨h.len,fun i cs x A D=>k.good.keep (h.el i cs x A D) fun b _ F=>⟨E.block b F,trivial⟩⟩
theorem Pts.one {cs:List Value}{x:α}(h:c w All x cs):Pts c w [cs] [x]:=⟨rfl,fun i a y A D=>by
 rcases i with _|i
 ·simp at A D;subst A D;exact h
 ·simp at A⟩
theorem Pts.take (h:Pts c w L l)(k:Nat):Pts c w (L.take k) (l.take k):=
 ⟨by rw[J8,J8,h.len],fun i cs x A D=>by
  rw[List.getElem?_take]at A D;by_cases hi:i<k
  ·rw[M3 hi]at A D;exact h.el i cs x A D
  ·rw[M2 hi]at A;cases A⟩
theorem Pts.drop (h:Pts c w L l)(k:Nat):Pts c w (L.drop k) (l.drop k):=
 ⟨by rw[List.length_drop,List.length_drop,h.len],fun i cs x A D=>by
  rw[List.getElem?_drop]at A D
  exact h.el _ cs x A D⟩
theorem Pts.append (h:Pts c w L l)(E:Pts c w L2 l2):Pts c w (L++L2) (l++l2):=
 ⟨by rw[J9,J9,h.len,E.len],fun i cs x A D=>by
  by_cases hi:i<L.length
  ·rw[List.getElem?_append_left hi]at A;rw[List.getElem?_append_left (by rw[←h.len];exact hi)]at D;exact h.el i cs x A D
  ·rw[List.getElem?_append_right (by omega)]at A;rw[List.getElem?_append_right (by rw[←h.len];omega),←h.len]at D
   exact E.el _ cs x A D⟩
theorem Pts.set (h:Pts c w L l)(k:Nat){cs:List Value}{x:α}(E:c w All x cs):Pts c w (L.set k cs) (l.set k x):=
 ⟨by rw[List.length_set,List.length_set,h.len],fun i a y A D=>by
  rw[List.getElem?_set]at A D;by_cases hi:k=i
  ·rw[M3 hi]at A D;subst hi;by_cases hl:k<L.length
   ·rw[M3 hl]at A;rw[M3 (by rw[←h.len];exact hl)]at D;injection A with A;injection D with D;subst A D;exact E
   ·rw[M2 hl]at A;cases A
  ·rw[M2 hi]at A D
   exact h.el i a y A D⟩
end
theorem QSa (A B:Option Addr)(n cap m V:Nat)(l l2:List Int)(w:World)(h:Sl QO 1 w All A n cap l)(W:Sl QO 1 w All B m V l2) :
  Calls prog 65 #[.slice A n cap,.slice B m V] w fun e w'=>e=.returned (.bool (decide (l=l2)))∧∃q,w'=w.drewN q:=by
 have ab:=h.bd;have X:=yh h.len;have Y:=yh W.len;by_cases hnm:n=m
 ·subst hnm;go_enter func65,ntmps65;go_wp2_with fail
  go_loopg [5] n (fun gk i wr=>∃k q:Nat,k≤n∧n-k≤gk∧i=.int .i64 k∧Aside (∀j,j<k→l[j]? = l2[j]?)∧wr=w.drewN q)
  case atStart=>exact⟨0,0,M0 _,by omega,rfl,fun j F=>absurd F (by omega),rfl⟩
  case round=>
   obtain⟨k,q,hk,ac,rfl,Q,rfl⟩:=hrel;by_cases hlt:k<n
   ·obtain⟨b,af,x,c0,rfl,Z,D,g0⟩:=h.at1 hlt;obtain⟨D,hw⟩:=D;simp only[List.cons.injEq,and_true]at D;obtain rfl:=D;obtain⟨b',ag,y,d0,rfl,hy,E,aa⟩:=W.at1 hlt;obtain⟨E,ae⟩:=E;simp only[List.cons.injEq,and_true]at E;obtain rfl:=E;have U:=yh Z;have O:=yh hy;clear Z hy;skip;by_cases hxy:x=y
    ·have he:(x !=y)=false:=by subst hxy;simp
     have J:=yh hxy;clear hxy;go_wp2_with fail;go_quiet (fail);go_wp2_with fail;go_roundg (n-(k+1))
     case measure=>omega
     case rel=>
      refine⟨k+1,_,by omega,by omega,by go_num,(show Aside _ from fun j F=>?_),rfl⟩;by_cases e:j=k
      ·subst e;rw[U.out,O.out,J.out]
      ·exact Q j (by omega)
    ·have he:(x !=y)=true:=by simpa using hxy
     have J:=yh hxy;clear hxy;go_wp2_with fail;go_quiet (fail);go_wp2_with fail;go_ret;refine⟨Ux ?_,_,World.drewN_drewN _ _ _⟩
     symm
     rw[decide_eq_false_iff_not];intro ai;subst ai;rw[U.out]at O;exact J (by have:=O.out;injection this)
   ·obtain rfl:k=n:=by omega
    have ai:l=l2:=by
     apply List.ext_getElem?;intro j;by_cases F:j<k
     ·exact Q j F
     ·rw[List.getElem?_eq_none (by rw[X.out];omega),List.getElem?_eq_none (by rw[Y.out];omega)]
    have I:=yh ai;clear ai;go_wp2_with fail;go_ret;exact⟨Ux (by rw[J2 I.out]),_,rfl⟩
 ·have ad:((n:Int) !=(m:Int))=true:=by simp;omega
  have ai:¬l=l2:=fun e=>hnm (by rw[←X.out,←Y.out,e]);have I:=yh ai;clear ai hnm;go_enter func65,ntmps65;go_wp2_with fail;go_ret;exact⟨Ux (by rw[J3 I.out]),0,rfl⟩
end Go.Proofs.YtjdcokpmgionjaaGreat
