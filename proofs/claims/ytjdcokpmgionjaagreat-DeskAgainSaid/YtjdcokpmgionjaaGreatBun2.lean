/-
  Words, laws and contracts: BlkSet, ShipG, ShipA, Tally, ShipB, ShipC, ShipD.
-/
import Derived.Test.YtjdcokpmgionjaaGreatBun0
import Derived.Maps.OwnOps
import Derived.Maps.Views
import Derived.Maps.Keyed
import Derived.Deep.RegionHeld3
import Derived.KernelRfl
set_option linter.unusedSimpArgs false
set_option linter.unusedVariables false
set_option maxRecDepth 100000
set_option maxHeartbeats 20000000
namespace Go.Proofs.YtjdcokpmgionjaaGreat
open Go.RowKit
theorem Blk.free {w:World}{b:Nat}{A:Array Value}{t:TypeId}(h:Blk w b A t)(j:Nat):w.frozen? ⟨b,j,none⟩=false:=by
 unfold Blk at h
 simp[World.frozen?,h]
theorem Blk.set {w:World}{b j:Nat}{A:Array Value}{t:TypeId}(h:Blk w b A t)(u:Value):Blk (w.setCell ⟨b,j,none⟩ u) b (A.set! j u) t:=by
 unfold Blk at h ⊢;simp only[World.setCell,Array.getElem?_modify,if_true];rw[h];rfl
theorem Blk.other {w:World}{b:Nat}{A:Array Value}{t:TypeId}(h:Blk w b A t){p:Addr}(D:p.block≠b)(u:Value):Blk (w.setCell p u) b A t:=
 (Below.heap_setCell _ _ _ _ (fun e=>D e.symm)).trans h
def RowI (w:World) (g:Nat) (m:List Int) (t:TypeId):Prop:=Blk w g (m.map (Value.int .i64)).toArray t
theorem RowI.cell {w:World}{g:Nat}{m:List Int}{t:TypeId}(h:RowI w g m t){i:Nat}(A:i < m.length):w.cell? ⟨g,i,none⟩=some (.int .i64 (m.getD i 0)):=by
 refine Blk.cell h ?_;rw[List.getElem?_toArray,List.getElem?_map,List.getElem?_eq_getElem A,List.getD_eq_getElem?_getD,List.getElem?_eq_getElem A];rfl
theorem RowI.free {w:World}{g:Nat}{m:List Int}{t:TypeId}(h:RowI w g m t)(i:Nat):w.frozen? ⟨g,i,none⟩=false:=Blk.free h i
theorem RowI.set {w:World}{g:Nat}{m:List Int}{t:TypeId}(h:RowI w g m t)(i:Nat)(v:Int):RowI (w.setCell ⟨g,i,none⟩ (.int .i64 v)) g (m.set i v) t:=by
 have:=Blk.set (j:=i) h (.int .i64 v);unfold RowI;rw[List.map_set]
 simpa using this
theorem RowI.other {w:World}{g:Nat}{m:List Int}{t:TypeId}(h:RowI w g m t){p:Addr}(A:p.block≠g)(u:Value):RowI (w.setCell p u) g m t:=Blk.other h A u
theorem RowI.bel {w w':World}{g:Nat}{m:List Int}{t:TypeId}(h:RowI w g m t)(A:yw w w'):RowI w' g m t:=Blk.bel h A
end Go.Proofs.YtjdcokpmgionjaaGreat
namespace Go.Proofs.YtjdcokpmgionjaaGreat
def Qh (f:Nat→Int):Nat→Int
 | 0=>0
 | n+1=>if Qh f n≠0 then Qh f n else f n
theorem ZM {f:Nat→Int}{k:Nat}(A:Qh f k=0)(D:f k≠0):∀{n:Nat},k < n→Qh f n=f k
 | 0,h=>absurd h (by omega)
 | n+1,h=>by
  unfold Qh
  by_cases he:k=n
  ·subst he
   rw[if_neg (by simpa using A)]
  ·have:=ZM A D (n:=n) (by omega)
   rw[this,if_pos D]
theorem Zu {f:Nat→Int}{k:Nat}(A:Qh f k=0)(D:f k=0):Qh f (k+1)=0:=by
 unfold Qh;rw[if_neg (by simpa using A),D]
theorem UA {f:Nat→Int} : ∀{n:Nat},Qh f n=0→∀i,i < n→f i=0
 | 0,_=>fun i A=>absurd A (by omega)
 | n+1,h=>fun i A=>by
  unfold Qh at h
  by_cases h1:Qh f n≠0
  ·rw[if_pos h1]at h;exact absurd h h1
  ·rw[if_neg h1]at h
   by_cases he:i=n
   ·subst he;exact h
   ·exact UA (by simpa using h1) i (by omega)
theorem U2 {α:Type}{C:List α}{b:Nat}{d:α}(h:C.length≤b):C.getD b d=d:=by
 rw[List.getD_eq_getElem?_getD,List.getElem?_eq_none h];rfl
theorem Z1 {α:Type}{C:List α}{b:Nat}{d:α}(h:b < C.length):C.getD b d=C[b]:=by
 rw[List.getD_eq_getElem?_getD,List.getElem?_eq_getElem h];rfl
def Up (C:List (List Int)) (b a:Nat):Prop:=(a:Int)∈C.getD b []
instance (C:List (List Int)) (b a:Nat):Decidable (Up C b a):=by unfold Up;exact inferInstance
def Srv (C:List (List Int)) (a b:Nat):Prop:=Relation.TransGen (Up C) b a
def OkC (C:List (List Int)):Prop:=∀c∈C,∀h∈c,0≤h∧h < C.length
theorem Up.lt {C:List (List Int)}{a b:Nat}(h:Up C b a):b < C.length:=by
 unfold Up at h
 by_cases hb:b < C.length
 ·exact hb
 ·rw[U2 (by omega)]at h;simp at h
theorem OkC.getD {C:List (List Int)}(D:OkC C){b:Nat}{h:Int}(A:h∈C.getD b []):0≤h∧h < C.length:=by
 by_cases hb:b < C.length
 ·rw[Z1 hb]at A
  exact D _ (List.getElem_mem hb) _ A
 ·rw[U2 (by omega)]at A;simp at A
theorem Up.lt' {C:List (List Int)}(A:OkC C){a b:Nat}(h:Up C b a):a < C.length:=by
 have:=(A.getD h).2;omega
theorem Srv.lt {C:List (List Int)}(A:OkC C){a b:Nat}(h:Srv C a b):a < C.length∧b < C.length:=by
 unfold Srv at h
 induction h with
 | single h=>exact⟨h.lt' A,h.lt⟩
 | tail _ h ih=>exact⟨h.lt' A,ih.2⟩
theorem Srv.trans {C:List (List Int)}{a b c:Nat}(h:Srv C a b)(A:Srv C b c):Srv C a c:=by
 unfold Srv at *;exact Relation.TransGen.trans A h
def Zf (m:List Int):Nat:=m.countP (fun x=>decide (x≤0))
theorem QIa (m:List Int)(i j:Nat)(v:Int)(A:i < m.length):(m.set i v).getD j 0=if i=j then v else m.getD j 0:=by
 simp only[List.getD_eq_getElem?_getD,List.getElem?_set]
 by_cases h:i=j
 ·subst h;simp[A]
 ·simp[h]
theorem YN:∀(m:List Int) (i:Nat) (v:Int),i < m.length→0 < v→Zf (m.set i v)+(if m.getD i 0≤0 then 1 else 0)=Zf m
 | [],i,v,h,_=>absurd h (by simp)
 | x::m,0,v,h,hv=>by
  unfold Zf;simp only[List.set_cons_zero,List.countP_cons,List.getD_cons_zero]
  have:¬v≤0:=by omega
  by_cases hx:x≤0<;>simp[hx,this]
 | x::m,i+1,v,h,hv=>by
  have:=YN m i v (by simpa using h) hv;unfold Zf at *;simp only[List.set_cons_succ,List.countP_cons,List.getD_cons_succ];omega
structure Cl (C:List (List Int)) (M n k:Nat) (hs m m':List Int):Prop where
 len:m'.length=m.length
 mono:∀x,0 < m.getD x 0→0 < m'.getD x 0
 kids:∀h∈hs,0 < m'.getD h.toNat 0
 shut:∀y,0 < m'.getD y 0→¬0 < m.getD y 0→(∀h∈C.getD y [],0 < m'.getD h.toNat 0)
 real:∀y,0 < m'.getD y 0→0 < m.getD y 0∨Srv C y n
 zer:Zf m'≤Zf m
 low:(∀x,0≤m.getD x 0)→∀x,0≤m'.getD x 0
 bnd:∀(c:Int),(∀x,m.getD x 0≤c)→∀x,m'.getD x 0≤c+k+M*((Zf m:Int) - Zf m')
theorem Cl.refl (C:List (List Int))(M n:Nat)(m:List Int):Cl C M n 0 [] m m where
 len:=rfl
 mono:=fun _ h=>h
 kids:=fun h D=>absurd D (by simp)
 shut:=fun y h A=>absurd h A
 real:=fun y h=>.inl h
 zer:=Nat.le_refl _
 low:=fun h=>h
 bnd:=fun c h x=>by have:=h x;rw[Int.sub_self,Int.mul_zero];omega
theorem Cl.le {C:List (List Int)}{M n k k':Nat}{A m D:List Int}(c:Cl C M n k A m D)(h:k≤k'):Cl C M n k' A m D:=
 { c with bnd:=fun b E x=>by have:=c.bnd b E x;omega }
theorem Cl.old {C:List (List Int)}{M n k:Nat}{Q m A:List Int}(c:Cl C M n k Q m A)(i:Nat)(O:i < A.length)(W:0 < A.getD i 0):Cl C M n (k+1) (Q++[(i:Int)]) m (A.set i (A.getD i 0+1)):=by
 have F:=fun j=>QIa A i j (A.getD i 0+1) O
 have D:∀x,0 < (A.set i (A.getD i 0+1)).getD x 0↔0 < A.getD x 0:=fun x=>by
  rw[F];by_cases h:i=x
  ·subst h;rw[if_pos rfl];omega
  ·rw[if_neg h]
 have U:Zf (A.set i (A.getD i 0+1))=Zf A:=by
  have:=YN A i (A.getD i 0+1) O (by omega);rw[if_neg (by omega)]at this;omega
 refine⟨by rw[List.length_set];exact c.len,fun x h=>(D x).2 (c.mono x h),fun h I=>?_,fun y h J I V=>(D _).2 (c.shut y ((D y).1 h) J I V),fun y h=>c.real y ((D y).1 h),by rw[U];exact c.zer,fun h x=>?_,fun b h x=>?_⟩
 ·rcases List.mem_append.1 I with E | E
  ·exact(D _).2 (c.kids h E)
  ·simp only[List.mem_singleton]at E;subst E;exact(D _).2 (by simpa using W)
 ·rw[F];have:=c.low h x;split<;>omega
 ·rw[F,U]
  have E:=c.bnd b h x;have J:=c.bnd b h i
  split<;>omega
theorem Cl.new {C:List (List Int)}{M n k:Nat}{X m A F:List Int}(c:Cl C M n k X m A)(i:Nat)(W:i < A.length)(hp:A.getD i 0=0)(Y:Up C n i)
  (E:Cl C M i M (C.getD i []) (A.set i 1) F):Cl C M n (k+1) (X++[(i:Int)]) m F:=by
 have I:=fun j=>QIa A i j 1 W
 have hz:Zf (A.set i 1)+1=Zf A:=by
  have:=YN A i 1 W (by omega);rw[if_pos (by omega)]at this;omega
 have aa:0 < (A.set i 1).getD i 0:=by rw[I];simp
 have U:∀x,0 < A.getD x 0→0 < F.getD x 0:=fun x h=>E.mono x (by rw[I];split<;>omega)
 refine⟨by rw[E.len,List.length_set];exact c.len,fun x h=>U x (c.mono x h),fun h O=>?_,fun y h V O Q=>?_,fun y h=>?_,?_,fun h x=>?_,fun b h x=>?_⟩
 ·rcases List.mem_append.1 O with D | D
  ·exact U _ (c.kids h D)
  ·simp only[List.mem_singleton]at D;subst D;exact E.mono _ (by simpa using aa)
 ·by_cases J:0 < (A.set i 1).getD y 0
  ·by_cases h4:i=y
   ·subst h4;exact E.kids O Q
   ·rw[I,if_neg h4]at J
    exact U _ (c.shut y J V O Q)
  ·exact E.shut y h J O Q
 ·rcases E.real y h with D | D
  ·rw[I]at D
   by_cases h4:i=y
   ·subst h4;exact .inr (.single Y)
   ·rw[if_neg h4]at D;exact c.real y D
  ·exact .inr (Srv.trans D (.single Y))
 ·have:=c.zer;have:=E.zer;omega
 ·refine E.low (fun x=>?_) x
  rw[I];have:=c.low h x;split<;>omega
 ·have D:=c.bnd b h
  have hb:=E.bnd (b+(k+1:Nat)+M*((Zf m:Int) - Zf A)) (fun x=>by
   rw[I];have V:=D x;have J:=D i
   split
   ·rw[hp]at J;push_cast;omega
   ·push_cast;omega) x
  have e:(M:Int)*((Zf m:Int) - Zf A)+M+M*((Zf (A.set i 1):Int) - Zf F)=M*((Zf m:Int) - Zf F):=by
   have:(Zf A:Int)=Zf (A.set i 1)+1:=by omega
   rw[this]
   have Z:(M:Int)=M*1:=by omega
   calc (M:Int)*((Zf m:Int) - ((Zf (A.set i 1):Int)+1))+M+M*((Zf (A.set i 1):Int) - Zf F)
     = M*((Zf m:Int) - ((Zf (A.set i 1):Int)+1))+M*1+M*((Zf (A.set i 1):Int) - Zf F):=by rw[←Z]
    _=M*(((Zf m:Int) - ((Zf (A.set i 1):Int)+1))+1+((Zf (A.set i 1):Int) - Zf F)):=by rw[Int.mul_add,Int.mul_add]
    _=_:=by congr 1;omega
  omega
theorem UEb {C:List (List Int)}{M b k:Nat}{N:Nat}{m:List Int}(c:Cl C M b k (C.getD b []) (List.replicate N 0) m)(x:Nat):0 < m.getD x 0↔Srv C x b:=by
 have D:∀x,(List.replicate N (0:Int)).getD x 0=0:=fun x=>by
  simp only[List.getD_eq_getElem?_getD,List.getElem?_replicate];split<;>rfl
 constructor
 ·intro h
  rcases c.real x h with A | A
  ·rw[D]at A;omega
  ·exact A
 ·intro h
  unfold Srv at h
  induction h with
  | single h=>simpa using c.kids _ h
  | tail _ h ih=>simpa using c.shut _ ih (by rw[D];omega) _ h
def Q9 (C:List (List Int)):Nat→Nat→Nat→Bool
 | 0,a,b=>decide ((a:Int)∈C.getD b [])
 | m+1,a,b=>Q9 C m a b || (Q9 C m a m && Q9 C m m b)
theorem QXa {C:List (List Int)} : ∀(m a b:Nat),Q9 C m a b=true→Srv C a b
 | 0,a,b,h=>.single (by unfold Q9 at h;exact of_decide_eq_true h)
 | m+1,a,b,h=>by
  unfold Q9 at h;rw[Bool.or_eq_true,Bool.and_eq_true]at h
  rcases h with h | ⟨h,A⟩
  ·exact QXa m a b h
  ·exact(QXa m a m h).trans (QXa m m b A)
theorem YLb {C:List (List Int)}{m a b:Nat}(h:Q9 C m a b=true):Q9 C (m+1) a b=true:=by
 show(Q9 C m a b || (Q9 C m a m && Q9 C m m b))=true
 rw[h];rfl
theorem Zwb {C:List (List Int)}{m a b:Nat}(h:Q9 C m a b=true):∀n,m≤n→Q9 C n a b=true
 | 0,hn=>by(obtain rfl:m=0:=by omega);(exact h)
 | n+1,hn=>by
  by_cases he:m=n+1
  ·subst he;exact h
  ·exact YLb (Zwb h n (by omega))
theorem Qkb {C:List (List Int)} : ∀(m k a b:Nat),k < m→Q9 C m a k=true→Q9 C m k b=true→Q9 C m a b=true
 | 0,_,_,_,h,_,_=>absurd h (by omega)
 | m+1,k,a,b,hk,A,D=>by
  have J:∀a b,Q9 C (m+1) a b=true↔(Q9 C m a b=true∨(Q9 C m a m=true∧Q9 C m m b=true)):=fun a b=>by
   show(Q9 C m a b || (Q9 C m a m && Q9 C m m b))=true↔_
   rw[Bool.or_eq_true,Bool.and_eq_true]
  rw[J]at A D ⊢
  by_cases he:k=m
  ·subst he
   exact .inr ⟨A.elim id And.left,D.elim id And.right⟩
  ·have E:=fun a b=>Qkb (C:=C) m k a b (by omega)
   rcases A with A | ⟨A,I⟩<;>rcases D with D | ⟨D,F⟩
   ·exact .inl (E _ _ A D)
   ·exact .inr ⟨E _ _ A D,F⟩
   ·exact .inr ⟨A,E _ _ I D⟩
   ·exact .inr ⟨A,F⟩
theorem XZa {C:List (List Int)}(a b:Nat):Q9 C C.length a b=true↔Srv C a b:=by
 constructor
 ·exact QXa _ _ _
 ·intro h
  unfold Srv at h
  induction h with
  | single h=>exact Zwb (m:=0) (by unfold Q9;exact decide_eq_true h) _ (by omega)
  | tail _ h ih=>exact Qkb _ _ _ _ h.lt (Zwb (m:=0) (by unfold Q9;exact decide_eq_true h) _ (by omega)) ih
theorem Q4c (C:List (List Int))(m a:Nat):Q9 C (m+1) a m=Q9 C m a m:=by
 show(Q9 C m a m || (Q9 C m a m && Q9 C m m m))=_
 cases Q9 C m a m<;>simp
theorem Q5c (C:List (List Int))(m b:Nat):Q9 C (m+1) m b=Q9 C m m b:=by
 show(Q9 C m m b || (Q9 C m m m && Q9 C m m b))=_
 cases Q9 C m m b<;>simp
instance (C:List (List Int)) (a b:Nat):Decidable (Srv C a b):=decidable_of_iff _ (XZa a b)
end Go.Proofs.YtjdcokpmgionjaaGreat
namespace Go.Proofs.YtjdcokpmgionjaaGreat
open Go.RowKit Go.Shelf
structure Cat where
 name:List UInt8
 high:List Int
 deriving DecidableEq,Inhabited
structure Cab where
 name:List UInt8
 cat:Int
 ber:Int
 lev:Bool
 deriving DecidableEq,Inhabited
structure Shp where
 legs:Int
 souls:Int
 cats:List Cat
 cabs:List Cab
abbrev Zb (s:List UInt8):Value:=.string ⟨s.toArray⟩
def VFa:Cod (List UInt8):=fun _ _ s cs=>cs=[Zb s]∧s.length≤maxLen
theorem Xla:VV VFa:=fun _ _ _ _ _ _ h=>h
theorem Z0:Good VFa:=.of_flat Xla fun h u A=>by obtain⟨rfl,_⟩:=h;simp at A;subst A;rfl
instance strK:CodK VFa 1:=⟨Z0,by omega⟩
def Um:Cod Cat:=fun w S x cs=>∃A n cap,cs=[Zb x.name,.slice A n cap]∧Sl QL 1 w S A n cap x.high∧x.name.length≤maxLen
theorem ZB:Good Um:=⟨fun h E=>by
  obtain⟨A,n,cap,rfl,h,F⟩:=h
  exact⟨A,n,cap,rfl,h.keep Qb (by omega) E,F⟩,fun h u D=>by
  obtain⟨A,n,cap,rfl,h,F⟩:=h
  simp at D;rcases D with rfl | rfl<;>rfl⟩
instance catK:CodK Um 2:=⟨ZB,by omega⟩
def ZW:Cod Cab:=fun _ _ x cs=>cs=[Zb x.name,.int .i64 x.cat,.int .i64 x.ber,.bool x.lev]∧x.name.length≤maxLen∧InI x.cat∧InI x.ber
theorem VXa:VV ZW:=fun _ _ _ _ _ _ h=>h
theorem Zg:Good ZW:=.of_flat VXa fun h u A=>by obtain⟨rfl,_⟩:=h;simp at A;rcases A with rfl | rfl | rfl | rfl<;>rfl
instance cabK:CodK ZW 4:=⟨Zg,by omega⟩
def Vdc:Cod Shp:=fun w S x cs=>∃A n cap B m cap2,cs=[.int .i64 x.legs,.int .i64 x.souls,.slice A n cap,.slice B m cap2]∧
 Sl Um 2 w S A n cap x.cats∧Sl ZW 4 w S B m cap2 x.cabs∧InI x.legs∧InI x.souls
def chB (c:UInt8):Bool:=Qc c.toNat 65 90 || Qc c.toNat 48 57
def U3 (s:List UInt8):Bool:=!s.any (fun c=>!chB c) && (decide (1≤s.length) && decide (s.length≤8))
theorem Zcc {L:List UInt8}{k:Nat}{d:UInt8}(h:L[k]? = some d)(W:World):(Instr.index 9 (Zb L) (.int .i64 (k:Int))).run Tryz.prog W=.ok (.int .u8 (d.toNat:Int)) W:=by
 have E:k < L.length:=(List.getElem?_eq_some_iff.1 h).1
 have A:(⟨L.toArray⟩:ByteArray).size=L.length:=by show L.toArray.size=_;simp
 unfold Zb;rw[run_index_string _ _ _ _ _ Tryz.underlying9,dif_pos ⟨by omega,by rw[A];omega⟩];have D:L[k]=d:=(List.getElem?_eq_some_iff.1 h).2
 have:(⟨L.toArray⟩:ByteArray)[k]'(by rw[A];exact E)=d:=by rw[←D];rfl
 simp only[Int.toNat_natCast,this]
theorem Yab (L:List UInt8):(decide (1≤L.length) && decide (L.length≤8))=(!L.isEmpty && decide ((L.length:Int)≤8)):=by
 have e:((L.length:Int)≤8)=(L.length≤8):=propext (by omega);simp only[e]
 cases L with
 | nil=>rfl
 | cons x l=>rw[decide_eq_true (by simp)];rfl
theorem Vlb (L:List UInt8):(decide (1≤L.length) && decide (L.length≤8))=Qc L.length 1 8:=by
 have e:((L.length:Int)≤8)=(L.length≤8):=propext (by omega);have A:((1:Int)≤(L.length:Int))=(1≤L.length):=propext (by omega);unfold Qc;simp only[e,A]
theorem UD (n a b:Int)(w:World):Calls Tryz.prog 157 #[.int .i64 n,.int .i64 a,.int .i64 b] w fun e w'=>e=.returned (.bool (Qc n a b))∧w'=w:=by
 go_enter Tryz.func157,Tryz.ntmps157
 go_wp2
 all_goals go_ret
 all_goals exact⟨ZN (by unfold Qc;simp;try omega),rfl⟩
theorem X9b (L:List UInt8)(w:World)(Y:L.length≤maxLen):Calls Tryz.prog 212 #[Zb L] w fun e w'=>e=.returned (.bool (U3 L))∧w'=w:=by
 unfold Zb
 have ab:L.length≤9223372036854775807:=by unfold maxLen at Y;omega
 clear Y;obtain⟨r,E⟩:∃r,r=U3 L:=⟨_,rfl⟩;rw[←E];have HR:=yh E;clear E
 go_enter Tryz.func212,Tryz.ntmps212
 go_wp2_with fail
 go_loopg [6] L.length (fun gk i wr=>∃k:Nat,k≤L.length∧L.length - k≤gk∧i=.int .i64 k∧Aside ((L.take k).any (fun c=>!chB c)=false)∧wr=w)
 case atStart=>exact⟨0,by omega,by omega,rfl,rfl,rfl⟩
 case round=>
  obtain⟨k,hk,aa,rfl,D,rfl⟩:=hrel
  by_cases hlt:k < L.length
  ·obtain⟨d,U⟩:∃d,L[k]? = some d:=⟨_,List.getElem?_eq_getElem hlt⟩
   have X:=fun W=>Zcc U W
   unfold Zb at X;have Q:=yh U;clear U;have Z:d.toNat < 256:=d.toNat_lt;obtain⟨q,V⟩:∃q:Nat,q=d.toNat:=⟨_,rfl⟩;rw[←V]at X Z;have O:=yh (show chB d=(Qc q 65 90 || Qc q 48 57)by unfold chB;rw[V]);clear V
   have F:=fun W=>UD q 65 90 W
   have I:=fun W=>UD q 48 57 W
   cases b1:Qc q 65 90
   ·rw[b1]at F
    cases b2:Qc q 48 57
    ·rw[b2]at I
     have E:r=false:=by rw[HR.out];unfold U3;rw[Q7a Q.out (by rw[O.out,b1,b2];rfl)];rfl
     subst E;clear b1 b2
     go_wp2_with fail
     refine(F _).mono ?_;rintro e J ⟨rfl,rfl⟩
     go_wp2_with fail
     refine(I _).mono ?_;rintro e J ⟨rfl,rfl⟩
     go_wp2_with fail
     go_ret
     exact⟨rfl,rfl⟩
    ·rw[b2]at I
     have A:=yh (show chB d=true by rw[O.out,b1,b2];rfl);clear b1 b2
     go_wp2_with fail
     refine(F _).mono ?_;rintro e J ⟨rfl,rfl⟩
     go_wp2_with fail
     refine(I _).mono ?_;rintro e J ⟨rfl,rfl⟩
     go_wp2_with fail
     go_roundg (L.length - (k+1))
     case measure=>omega
     case rel=>exact⟨k+1,by omega,by omega,by go_num,(show Aside _ from by show _=_;rw[QF Q.out,D,A.out];rfl),rfl⟩
   ·rw[b1]at F
    have A:=yh (show chB d=true by rw[O.out,b1];rfl);clear b1
    go_wp2_with fail
    refine(F _).mono ?_;rintro e J ⟨rfl,rfl⟩
    go_wp2_with fail
    go_roundg (L.length - (k+1))
    case measure=>omega
    case rel=>exact⟨k+1,by omega,by omega,by go_num,(show Aside _ from by show _=_;rw[QF Q.out,D,A.out];rfl),rfl⟩
  ·obtain rfl:k=L.length:=by omega
   rw[List.take_length]at D;have A:=yh (show r=(decide (1≤L.length) && decide (L.length≤8))by rw[HR.out];unfold U3;rw[show L.any (fun c=>!chB c)=false from D];rfl);clear aa hk hlt D;rw[Yab]at A
   by_cases h0:L=[]
   ·subst h0
    obtain rfl:r=false:=A.out
    go_wp2_with fail
    go_ret
    exact⟨rfl,rfl⟩
   go_wp2_with fail
   go_ret
   exact⟨ZN A.out.symm,rfl⟩
theorem UPa (L:List UInt8)(w:World)(Y:L.length≤maxLen):Calls Tryz.prog 143 #[Zb L] w fun e w'=>e=.returned (.bool (U3 L))∧w'=w:=by
 unfold Zb
 have ab:L.length≤9223372036854775807:=by unfold maxLen at Y;omega
 clear Y;obtain⟨r,E⟩:∃r,r=U3 L:=⟨_,rfl⟩;rw[←E];have HR:=yh E;clear E
 go_enter Tryz.func143,Tryz.ntmps143
 go_wp2_with fail
 go_loopg [3] L.length (fun gk i wr=>∃k:Nat,k≤L.length∧L.length - k≤gk∧i=.int .i64 k∧Aside ((L.take k).any (fun c=>!chB c)=false)∧wr=w)
 case atStart=>exact⟨0,by omega,by omega,rfl,rfl,rfl⟩
 case round=>
  obtain⟨k,hk,aa,rfl,A,rfl⟩:=hrel
  by_cases hlt:k < L.length
  ·obtain⟨d,U⟩:∃d,L[k]? = some d:=⟨_,List.getElem?_eq_getElem hlt⟩
   have X:=fun W=>Zcc U W
   unfold Zb at X;have Q:=yh U;clear U;have Z:d.toNat < 256:=d.toNat_lt;obtain⟨q,V⟩:∃q:Nat,q=d.toNat:=⟨_,rfl⟩;rw[←V]at X Z;have O:=yh (show chB d=(Qc q 65 90 || Qc q 48 57)by unfold chB;rw[V]);clear V
   have F:=fun W=>Qk q 65 90 W
   have J:=fun W=>Qk q 48 57 W
   cases b1:Qc q 65 90
   ·rw[b1]at F
    cases b2:Qc q 48 57
    ·rw[b2]at J
     have E:r=false:=by rw[HR.out];unfold U3;rw[Q7a Q.out (by rw[O.out,b1,b2];rfl)];rfl
     subst E;clear b1 b2
     go_wp2_with fail
     refine(F _).mono ?_;rintro e I ⟨rfl,rfl⟩
     go_wp2_with fail
     refine(J _).mono ?_;rintro e I ⟨rfl,rfl⟩
     go_wp2_with fail
     go_ret
     exact⟨rfl,rfl⟩
    ·rw[b2]at J
     have D:=yh (show chB d=true by rw[O.out,b1,b2];rfl);clear b1 b2
     go_wp2_with fail
     refine(F _).mono ?_;rintro e I ⟨rfl,rfl⟩
     go_wp2_with fail
     refine(J _).mono ?_;rintro e I ⟨rfl,rfl⟩
     go_wp2_with fail
     go_roundg (L.length - (k+1))
     case measure=>omega
     case rel=>exact⟨k+1,by omega,by omega,by go_num,(show Aside _ from by show _=_;rw[QF Q.out,A,D.out];rfl),rfl⟩
   ·rw[b1]at F
    have D:=yh (show chB d=true by rw[O.out,b1];rfl);clear b1
    go_wp2_with fail
    refine(F _).mono ?_;rintro e I ⟨rfl,rfl⟩
    go_wp2_with fail
    go_roundg (L.length - (k+1))
    case measure=>omega
    case rel=>exact⟨k+1,by omega,by omega,by go_num,(show Aside _ from by show _=_;rw[QF Q.out,A,D.out];rfl),rfl⟩
  ·obtain rfl:k=L.length:=by omega
   rw[List.take_length]at A;have D:=yh (show r=Qc L.length 1 8 by rw[HR.out];unfold U3;rw[show L.any (fun c=>!chB c)=false from A];rw[←Vlb];rfl);clear aa hk hlt A
   go_wp2_with fail
   refine(Qk L.length 1 8 _).mono ?_;rintro e I ⟨rfl,rfl⟩
   go_wp2_with fail
   go_ret
   exact⟨ZN D.out.symm,rfl⟩
theorem Sl.pre {α:Type}{c:Cod α}{size:Nat}{w:World}{S:Nat→Prop}{A:Option Addr}{n cap:Nat}{l:List α}(h:Sl c size w S A n cap l){k:Nat}(F:k≤n):Sl c size w S A k cap (l.take k):=by
 refine⟨by rw[List.length_take,h.len];omega,by have:=h.le;omega,h.max,fun i x I=>h.rd i x ?_⟩
 have E:i < k:=by
  rcases Nat.lt_or_ge i k with D | D
  ·exact D
  ·rw[List.getElem?_eq_none (by rw[List.length_take];omega)]at I;cases I
 rwa [List.getElem?_take,if_pos E]at I
theorem Xoa (A:Option Addr)(n cap:Nat)(l:List Int)(s:Int)(w:World)(h:Sl QL 1 w All A n cap l) :
  Calls Tryz.prog 118 #[.slice A n cap,.int .i64 s] w fun e w'=>e=.returned (.bool (l.contains s))∧w'=w:=by
 have D:=UBb A n cap l s w h;have E:=yh (VD (p:=fun x=>s == x) (l:=l));have I:=XL (p:=fun x=>s == x) (l:=l) (by have:=h.bd;have:=h.len;omega);have F:=yh (show l.any (fun x=>s == x)=l.contains s by rw[List.any_beq]);obtain⟨q,O⟩:∃q,q=Uq (fun x=>s == x) l:=⟨_,rfl⟩;rw[←O]at D E I;have J:=yh O;clear O
 go_enter Tryz.func118,Tryz.ntmps118
 go_wp2_with fail
 refine D.mono ?_;rintro e w1 ⟨rfl,rfl⟩
 go_wp2_with fail
 go_ret
 exact⟨ZN (E.out.trans F.out),rfl⟩
def Uo (n:Int) (l:List Int) (k:Nat):Int:=if Qc (l.getD k 0) 0 (n - 1)=false then 3 else if (l.take k).contains (l.getD k 0)then 6 else 0
theorem Vm {α:Type}{l:List α}{k:Nat}{x d:α}(h:l[k]? = some x):l.getD k d=x:=by rw[List.getD_eq_getElem?_getD,h];rfl
theorem QZb (A:Option Addr)(n cap:Nat)(l:List Int)(ae:Int)(w:World)(h:Sl QL 1 w All A n cap l)(h0:0≤ae)(h1:ae≤1000000000) :
  Calls Tryz.prog 160 #[.slice A n cap,.int .i64 ae] w fun e w'=>e=.returned (.int .i64 (Qh (Uo ae l) l.length))∧w'=w:=by
 have aa:=h.bd;obtain⟨r,D⟩:∃r,r=Qh (Uo ae l) l.length:=⟨_,rfl⟩;rw[←D];rw[h.len]at D;have J:=yh D;clear D
 go_enter Tryz.func160,Tryz.ntmps160
 go_wp2_with fail
 go_loopg [9] n (fun gk i wr=>∃k:Nat,k≤n∧n - k≤gk∧i=.int .i64 k∧Aside (Qh (Uo ae l) k=0)∧wr=w)
 case atStart=>exact⟨0,Nat.zero_le _,by omega,rfl,rfl,rfl⟩
 case round=>
  obtain⟨k,hk,ab,rfl,F,rfl⟩:=hrel
  by_cases hlt:k < n
  ·obtain⟨b,ad,x,c0,rfl,hx,⟨U,_⟩,g0⟩:=h.at1 hlt
   simp only[List.cons.injEq,and_true]at U;obtain rfl:=U;have O:=yh (show Uo ae l k=if Qc x 0 (ae - 1)=false then 3 else if (l.take k).contains x then 6 else 0 by unfold Uo;rw[Vm hx]);have V:=Xoa _ _ _ _ x _ (h.pre (Nat.le_of_lt hlt));have X:=yh V;clear V
   have ac:k≤cap:=by have:=h.le;omega
   clear hx
   have I:=fun W=>UD x 0 (ae - 1) W
   cases b1:Qc x 0 (ae - 1)
   ·rw[b1]at I
    have E:Uo ae l k=3:=by rw[O.out,if_pos b1]
    have D:r=3:=by rw[J.out,ZM F (by rw[E];decide) hlt,E]
    subst D;clear b1 E
    go_wp2_with fail
    refine(I _).mono ?_;rintro e Z ⟨rfl,rfl⟩
    go_wp2_with fail
    go_ret
    exact⟨rfl,rfl⟩
   ·rw[b1]at I
    have Q:=yh (show Uo ae l k=if (l.take k).contains x then 6 else 0 by rw[O.out,if_neg (by rw[b1];simp)]);clear b1
    go_wp2_with fail
    refine(I _).mono ?_;rintro e Z ⟨rfl,rfl⟩
    go_wp2_with fail
    refine X.out.mono ?_;rintro e w2 ⟨rfl,rfl⟩
    cases b2:(l.take k).contains x
    ·have Y:=yh (show Uo ae l k=0 by rw[Q.out,b2];rfl)
     clear b2
     go_wp2_with fail
     go_roundg (n - (k+1))
     case measure=>omega
     case rel=>exact⟨k+1,by omega,by omega,by go_num,(show Aside _ from Zu F Y.out),rfl⟩
    ·have E:Uo ae l k=6:=by rw[Q.out,b2];rfl
     have D:r=6:=by rw[J.out,ZM F (by rw[E];decide) hlt,E]
     subst D;clear b2 E
     go_wp2_with fail
     go_ret
     exact⟨rfl,rfl⟩
  ·obtain rfl:k=n:=by omega
   have D:r=0:=by rw[J.out];exact F
   subst D
   go_wp2_with fail
   go_ret
   exact⟨rfl,rfl⟩
end Go.Proofs.YtjdcokpmgionjaaGreat
namespace Go.Proofs.YtjdcokpmgionjaaGreat
open Go.RowKit Go.Maps
def Tally (P:Program) (w:World) (k e:TypeId) (B n:Nat) (cnt:Lit→Int):Prop:=
 ∃D:DataW Unit,w.ownsMap P k (plainElem P e) B n D∧IsMap D∧∀kl,D.atKey kl (.lit (.int .i64 0))=.lit (.int .i64 (cnt kl))
theorem Tally.made (P:Program)(w:World)(k e:TypeId):Tally P (w.alloc (.map #[] 0)) k e w.heap.size 0 (fun _=>0):=
 ⟨.map [],World.ownsMap_made _ _ _ _,isMap_empty,fun _=>rfl⟩
theorem Tally.bel {P:Program}{w w':World}{k e:TypeId}{B n:Nat}{cnt:Lit→Int}(h:Tally P w k e B n cnt)(A:yw w w'):Tally P w' k e B n cnt:=by
 obtain⟨D,J,E,F⟩:=h;exact⟨D,J.kept (row:=none) ⟨A.os,A.tape,A.output,A.size,fun i I _=>A.block i I⟩ (by simp),E,F⟩
theorem Ul {P:Program}(w:World){E:Array Oper}{F:List Oper}{o:Oper}{a:Act}{Q:Exit→Act→World→Prop}
  (hg:o.guard=none) (m x:Operand) (t:TypeId) (W:o.op=Op.lookup t m x false)
  (k e:TypeId) (K:Keyed P k) (Y:P.underlying t=some (.map k e)) (O:P.underlying e=some (.int .i64)) (hz:(zeroValue e).run P w=.ok (.int .i64 0) w) (b n:Nat) (cnt:Lit→Int)
  (V:a.eval m=.map (some b)) (h:Tally P w k e b n cnt) (aa:Value) (A:Lit) (hx:a.eval x=aa) (U:keyOf P k aa=some A) (v:Int) (Z:cnt A=v)
  (hK:wpList P E Q F (a.put o.dst (.int .i64 v)) w) :
  wpList P E Q (o::F) a w:=by
 obtain⟨D,X,h2,I⟩:=h;subst Z
 refine wpList_lookup_own_int w hg m x t W k e .i64 K Y O hz b n D V X aa A hx U fun c J _=>?_
 have:c=cnt A:=by
  have:=J.symm.trans (I A)
  injection this with this
  injection this
 subst this;exact hK
theorem YP {P:Program}(w:World){I:Array Oper}{J:List Oper}{o:Oper}{a:Act}{Q:Exit→Act→World→Prop}
  (W:o.guard=none) (m x v:Operand) (t:TypeId) (ab:o.op=Op.mapUpdate t m x v)
  (k e:TypeId) (K:Keyed P k) (ht:P.underlying t=some (.map k e)) (V:P.underlying e=some (.int .i64)) (b n:Nat) (cnt ae:Lit→Int)
  (hm:a.eval m=.map (some b)) (h:Tally P w k e b n cnt) (hn:n < maxLen) (E:Value) (A:Lit) (i:Int) (hx:a.eval x=E) (hv:a.eval v=.int .i64 i) (Z:keyOf P k E=some A) (aa:WideAt.IsKeyLit A)
  (Y:(Lit.int .i64 i).wf=true) (h1:ae A=i) (U:∀y,y≠A→ae y=cnt y)
  (hK:∀w',Tally P w' k e b (n+1) ae→w.grownBy w' (some b)→wpList P I Q J (a.put o.dst undef) w') :
  wpList P I Q (o::J) a w:=by
 obtain⟨D,ac,F,O⟩:=h
 refine wpList_mapUpdate_own w W m x v t ab k e K ht _ b n D hm ac hn E (.int .i64 i) A hx hv Z _ [] (plainElem_int V Y) fun w' ad X=>?_
 refine hK w' ⟨_,ad,F.put _ _,fun y=>?_⟩ X
 by_cases hy:y=A
 ·subst hy;rw[atKey_put_same F aa,h1]
 ·rw[atKey_put_other hy,O,U y hy]
def ZQa (l:List (List UInt8)):Lit→Int
 | .string s=>(l.count s:Nat)
 | _=>0
theorem Xrb:ZQa []=fun _=>0:=by funext x;cases x<;>rfl
theorem UPb (l:List (List UInt8))(s:List UInt8):ZQa (l++[s]) (.string s)=(l.count s:Nat)+1:=by simp[ZQa]
theorem QIb (l:List (List UInt8))(s:List UInt8)(x:Lit)(h:x≠.string s):ZQa (l++[s]) x=ZQa l x:=by
 cases x<;>try rfl
 rename_i y
 have:y≠s:=fun e=>h (by rw[e])
 simp only[ZQa,List.count_append,List.count_singleton];rw[if_neg (by simpa using fun e=>this e.symm)];rfl
end Go.Proofs.YtjdcokpmgionjaaGreat
namespace Go.Proofs.YtjdcokpmgionjaaGreat
open Go.RowKit Go.Shelf Go.Maps
def nmE (l:List (List UInt8)) (f:Nat→Int) (k:Nat):Int:=if U3 (l.getD k [])=false then 1 else if (l.take k).contains (l.getD k [])then 6 else f k
theorem XFa:Keyed Tryz.prog 9:=string_keyed Tryz.underlying9
theorem X1a (w:World):(zeroValue 3).run Tryz.prog w=.ok (.int .i64 0) w:=by kernel_rfl
theorem ZWc {s:List UInt8}(A:s.length≤maxLen):keyOf Tryz.prog 9 (.string ⟨s.toArray⟩)=some (.string s):=by
 have:=WideMaps.keyOf_string_mk (P:=Tryz.prog) Tryz.underlying9 (s:=⟨s.toArray⟩) (by show s.toArray.size≤_;simpa using A)
 simpa using this
theorem V9a (A:Option Addr)(n cap:Nat)(l:List (List UInt8))(g:Nat)(lb:Array Value)(f:Nat→Int)(w:World)(h:Sl VFa 1 w All A n cap l)
  (eg:∀af w,(callFunc g af).run Tryz.prog w=.ok (.enter g af) w)
  (hp:∀(k:Nat) (w1:World),k < n→yw w w1→Calls Tryz.prog g (#[.int .i64 (k:Int)]++lb) w1 fun e w'=>e=.returned (.int .i64 (f k))∧yw w1 w') :
  Calls Tryz.prog 158 #[.slice A n cap,.func (.func g) #[] lb] w fun e w'=>e=.returned (.int .i64 (Qh (nmE l f) l.length))∧yw w w':=by
 have aq:=@run_makeMap Tryz.prog;have ao:=h.bd
 have aj:n≤maxLen:=by have:=h.le;have:=h.max;omega
 have am:=yh aj;clear aj;have HP:=yh hp;clear hp;obtain⟨r,D⟩:∃r,r=Qh (nmE l f) l.length:=⟨_,rfl⟩;rw[←D];rw[h.len]at D;have U:=yh D;clear D
 go_enter Tryz.func158,Tryz.ntmps158
 go_wp2_with fail
 go_loopg [12] n (fun gk i wr=>∃k:Nat,k≤n∧n - k≤gk∧i=.int .i64 k∧Aside (Qh (nmE l f) k=0)∧Tally Tryz.prog wr 9 3 w.heap.size k (ZQa (l.take k))∧yw w wr)
 case atStart=>exact⟨0,Nat.zero_le _,by omega,rfl,rfl,by rw[List.take_zero,Xrb];exact Tally.made _ _ _ _,(Below.refl _ _).alloc (Nat.le_refl _) _⟩
 case round=>
  obtain⟨k,hk,ap,rfl,E,hT,V⟩:=hrel
  by_cases hlt:k < n
  ·obtain⟨b,av,x,c0,rfl,J,⟨hc,ac⟩,g0⟩:=(h.bel V).at1 hlt
   simp only[List.cons.injEq,and_true]at hc;obtain rfl:=hc;have HV:=yh (show nmE l f k=if U3 x=false then 1 else if (l.take k).contains x then 6 else f k by unfold nmE;rw[Vm J]);have HX:=yh J;obtain⟨q,I⟩:∃q:Nat,q=(l.take k).count x:=⟨_,rfl⟩
   have ar:q≤k:=by rw[I];exact Nat.le_trans List.count_le_length (by rw[List.length_take];omega)
   have HQ:=yh (show ZQa (l.take k) (.string x)=(q:Int)by rw[I];rfl);have aw:=yh (show ZQa (l.take (k+1)) (.string x)=(q:Int)+1 by rw[Qn J,UPb,I]);have HO:=yh (show ∀y,y≠.string x→ZQa (l.take (k+1)) y=ZQa (l.take k) y from fun y hy=>by rw[Qn J,QIb _ _ _ hy])
   have al:=yh (show(l.take k).contains x=decide (0 < q)by
    rw[I]
    cases hcn:(l.take k).contains x
    ·have Z:x∉l.take k:=by simpa using hcn
     rw[List.count_eq_zero_of_not_mem Z];rfl
    ·have Z:x∈l.take k:=by simpa using hcn
     rw[decide_eq_true (List.count_pos_iff.2 Z)])
   have O:=yh (ZWc ac);have Q:=yh (fun W=>X9b x W ac);have ad:=yh hT;clear J I ac hT
   have hw:wrap64 ((q:Int)+1)=(q:Int)+1:=by unfold wrap64;omega
   go_wp2_with (first
    | (at_lookup;refine Ul _ rfl _ _ 259 rfl 9 3 XFa Tryz.underlying259 Tryz.underlying3 (X1a _) w.heap.size k _ rfl ad.out _ _ rfl O.out _ HQ.out ?_)
    | (at_mapUpdate;refine YP _ rfl _ _ _ 259 rfl 9 3 XFa Tryz.underlying259 Tryz.underlying3 w.heap.size k _ (ZQa (l.take (k+1))) rfl ad.out (by have:=am.out;omega) _ _ ((q:Int)+1) rfl rfl O.out trivial (WalkArith.wf_i64 (by omega)) aw.out HO.out ?_;intro w1 ag ai))
   have F:=V.grown ai V.size (fun j hj=>by cases hj;exact Nat.le_refl _);clear ai;have X:=yh ag;clear ag
   cases b1:U3 x
   ·have hv:nmE l f k=1:=by rw[HV.out,if_pos b1]
    have D:r=1:=by rw[U.out,ZM E (by rw[hv];decide) hlt,hv]
    subst D;rw[b1]at Q;clear b1 hv;refine(Q.out _).mono ?_;rintro e w2 ⟨rfl,rfl⟩
    go_wp2_with fail
    go_ret
    exact⟨rfl,F⟩
   ·have ae:=yh (show nmE l f k=if 0 < q then 6 else f k by
     rw[HV.out,if_neg (by rw[b1];simp),al.out]
     by_cases h0:0 < q
     ·rw[decide_eq_true h0,if_pos rfl,if_pos h0]
     ·rw[decide_eq_false h0,if_neg (by simp),if_neg h0])
    rw[b1]at Q;clear b1;refine(Q.out _).mono ?_;rintro e w2 ⟨rfl,rfl⟩
    by_cases h0:0 < q
    ·have hv:nmE l f k=6:=by rw[ae.out,if_pos h0]
     have D:r=6:=by rw[U.out,ZM E (by rw[hv];decide) hlt,hv]
     subst D;clear hv
     go_wp2_with (at_lookup;refine Ul _ rfl _ _ 259 rfl 9 3 XFa Tryz.underlying259 Tryz.underlying3 (X1a _) w.heap.size (k+1) _ rfl X.out _ _ rfl O.out _ aw.out ?_)
     all_goals first | omega | skip
     go_ret
     exact⟨rfl,F⟩
    ·obtain rfl:q=0:=by omega
     obtain⟨v,hv⟩:∃v,v=f k:=⟨_,rfl⟩;have ab:=HP.out k _ hlt F;rw[←hv]at ab;have Y:=yh (show nmE l f k=v by rw[ae.out,if_neg (by omega),hv]);have ak:=yh ab;clear hv ab h0
     go_wp2_with (at_lookup;refine Ul _ rfl _ _ 259 rfl 9 3 XFa Tryz.underlying259 Tryz.underlying3 (X1a _) w.heap.size (k+1) _ rfl X.out _ _ rfl O.out _ aw.out ?_)
     refine ak.out.mono ?_;rintro e w3 ⟨rfl,aa⟩;have ah:=F.trans (aa.mono F.size);have an:=yh (X.out.bel aa);clear aa
     by_cases hv:v=0
     ·subst hv
      have HK:=yh (Zu E Y.out)
      go_wp2_with fail
      go_roundg (n - (k+1))
      case measure=>omega
      case rel=>exact⟨k+1,by omega,by omega,by go_num,HK.out,an.out,ah⟩
     ·have D:r=v:=by rw[U.out,ZM E (by rw[Y.out];exact hv) hlt,Y.out]
      subst D
      have au:(r != 0)=true:=by simpa using hv
      clear hv
      go_wp2_with fail
      go_ret
      exact⟨rfl,ah⟩
  ·obtain rfl:k=n:=by omega
   have D:r=0:=by rw[U.out];exact E
   subst D
   go_wp2_with fail
   go_ret
   exact⟨rfl,V⟩
end Go.Proofs.YtjdcokpmgionjaaGreat
namespace Go.Proofs.YtjdcokpmgionjaaGreat
open Go.RowKit Go.Shelf
def QS (cats:List Cat):List (List Int):=cats.map (·.high)
theorem Zha (cats:List Cat)(i:Nat){x:Cat}(h:cats[i]? = some x):(QS cats).getD i []=x.high:=by
 unfold QS;rw[List.getD_eq_getElem?_getD,List.getElem?_map,h];rfl
structure OkCats (cats:List Cat):Prop where
 five:cats.length≤5
 inC:OkC (QS cats)
 few:∀c∈cats,c.high.length≤5
structure ClAt (w:World) (B P G:Nat) (A:Option Addr) (n cap:Nat) (cats:List Cat) (m:List Int):Prop where
 sl:Sl Um 2 w (fun b=>b < B) A n cap cats
 st:Blk w P #[.slice A n cap,.slice (some ⟨G,0,none⟩) n n] 285
 row:RowI w G m 3
 len:m.length=n
theorem ClAt.set {w:World}{B P G:Nat}{A:Option Addr}{n cap:Nat}{cats:List Cat}{m:List Int}(h:ClAt w B P G A n cap cats m)(E:B≤G)(D:P≠G)(i:Nat)(v:Int) :
  ClAt (w.setCell ⟨G,i,none⟩ (.int .i64 v)) B P G A n cap cats (m.set i v):=
 ⟨h.sl.keep ZB (by omega) fun b F _=>⟨Below.heap_setCell _ _ _ _ (by simp;omega),F⟩,h.st.other (by simpa using D.symm) _,h.row.set _ _,by rw[List.length_set];exact h.len⟩
theorem UNb (B P G:Nat)(A:Option Addr)(n cap:Nat)(cats:List Cat)(ho:OkCats cats)(X:B≤G)(ak:P≠G) :
  ∀(z:Nat) (m:List Int) (i:Nat) (c:Int) (w:World),ClAt w B P G A n cap cats m→i < n→Zf m≤z→(∀x,0≤m.getD x 0)→(∀x,m.getD x 0≤c)→c+5*(1+(Zf m:Int))≤1000000000→
  Calls Tryz.prog 241 #[.pointer (some ⟨P,0,none⟩),.int .i64 (i:Int)] w fun e w'=>e=.returned (.tuple #[])∧∃m',Cl (QS cats) 5 i 5 ((QS cats).getD i []) m m'∧ClAt w' B P G A n cap cats m'∧Below B w w':=by
 intro z
 induction z using Nat.strongRecOn with
 | _ z ih=>
  intro m i c w hA hi hz ap hc au;obtain⟨aa,ab,av,aq⟩:=hA;obtain⟨b,az,x,c0,c1,rfl,hx,⟨A2,F,aK,an,af,_⟩,g0,g1⟩:=aa.at2 hi;simp only[List.cons.injEq,and_true]at an;obtain⟨rfl,rfl⟩:=an;have p0:=ab.cell (j:=0) rfl;have p1:=ab.cell (j:=1) rfl;have aI:=ho.few x (List.mem_of_getElem? hx);have ar:=af.len
  have aM:F≤5:=by omega
  have hn:=aa.len;have Z:=Zha cats i hx;have aA:=yh (show ClAt w B P G (some ⟨b,az,none⟩) n cap cats m from⟨aa,ab,av,aq⟩)
  have ao:∀(k:Nat) (y:Int),x.high[k]? = some y→0≤y∧y < n:=fun k y J=>by
   have:=ho.inC.getD (b:=i) (h:=y) (by rw[Z];exact List.mem_of_getElem? J)
   simpa [QS,hn] using this
  rw[Z];have aE:=yh ao;clear ao;have ag:=yh ap;clear ap;have HC:=yh hc;clear hc;have HZ:=yh hz;clear hz;have ah:=yh au;clear au;have aF:=yh ar;clear ar;have aD:=yh Z;clear Z;have aG:=yh af;clear af;have IH:=yh ih;clear ih;have aJ:=yh hi;clear hi;clear aa ab av aq hx aI
  go_enter Tryz.func241,Tryz.ntmps241
  go_wp2_with fail
  go_loopg [15] F (fun gk iv wr=>∃(k:Nat) (D:List Int),k≤F∧F - k≤gk∧iv=.int .i64 k∧Cl (QS cats) 5 i k (x.high.take k) m D∧ClAt wr B P G (some ⟨b,az,none⟩) n cap cats D∧Below B w wr)
  case atStart=>exact⟨0,m,Nat.zero_le _,by omega,rfl,by rw[List.take_zero];exact Cl.refl _ _ _ _,aA.out,Below.refl _ _⟩
  case round=>
   obtain⟨k,D,hk,aL,rfl,I,E,Y⟩:=hrel
   by_cases hlt:k < F
   ·obtain⟨b2,aP,y,d0,rfl,J,⟨hd,_⟩,e0⟩:=(aG.out.keep (w':=wr) (S':=All) Qb (by omega) (fun q hq _=>⟨Y.block q hq,trivial⟩)).at1 hlt
    simp only[List.cons.injEq,and_true]at hd;obtain rfl:=hd;obtain⟨ax,aO⟩:=aE.out k y J;obtain⟨j,rfl⟩:=Int.eq_ofNat_of_zero_le ax
    have hj:j < n:=by omega
    have ae:j < D.length:=by rw[E.len];exact hj
    have q0:=E.st.cell (j:=0) rfl;have q1:=E.st.cell (j:=1) rfl;have r0:=E.row.cell ae;have f0:=E.row.free j;obtain⟨v,U⟩:∃v,v=D.getD j 0:=⟨_,rfl⟩;rw[←U]at r0
    have v0:0≤v:=by rw[U];exact I.low ag.out j
    have v1:v≤1000000000:=by
     have h1:=I.bnd c HC.out j;have h2:=I.zer;have h3:=ah.out;rw[←U]at h1;omega
    have HT:=yh (Qn J)
    have aw:Up (QS cats) i j:=by unfold Up;rw[aD.out];exact List.mem_of_getElem? J
    have aH:=yh aw;clear aw;have aQ:=yh I;clear I;have V:=yh E;clear E;have O:=yh ae;clear ae;have Q:=yh U;clear U;clear J ax
    by_cases h0:v=0
    ·subst h0
     have ay:=YN D j 1 O.out (by omega);rw[if_pos (by rw[←Q.out];omega)]at ay
     have am:=IH.out (Zf (D.set j 1)) (by have:=HZ.out;have:=aQ.out.zer;omega) (D.set j 1) j (c+(k+1)+5*((Zf m:Int) - Zf D)) _ (V.out.set X ak j 1) hj (Nat.le_refl _)
      (fun q=>by rw[QIa _ _ _ _ O.out];have:=aQ.out.low ag.out q;split<;>omega)
      (fun q=>by
       rw[QIa _ _ _ _ O.out];have h1:=aQ.out.bnd c HC.out q;have h2:=aQ.out.bnd c HC.out j;rw[←Q.out]at h2
       split<;>omega)
      (by have:=ah.out;have:=aQ.out.zer;omega)
     have ad:=yh (Y.setCell (p:=⟨G,j,none⟩) X (.int .i64 1));have aC:=yh am;clear am;clear ay
     go_wp2_with fail
     refine aC.out.mono ?_;rintro e w2 ⟨rfl,m2,aj,ai,al⟩;have W:=yh (Cl.new aQ.out j O.out Q.out.symm aH.out aj);have aB:=yh (ad.out.trans al);have ac:=yh ai;clear ai;clear aj al
     go_wp2_with fail
     go_roundg (F - (k+1))
     case measure=>omega
     case rel=>exact⟨k+1,m2,by omega,by omega,by go_num,by rw[HT.out];exact W.out,ac.out,aB.out⟩
    ·have aN:¬v+1=1:=by omega
     have hw:wrap64 (v+1)=v+1:=by unfold wrap64;omega
     have W:=yh (Cl.old aQ.out j O.out (by rw[←Q.out];omega));rw[←Q.out]at W;have ac:=yh (V.out.set X ak j (v+1));have ad:=yh (Y.setCell (p:=⟨G,j,none⟩) X (.int .i64 (v+1)))
     go_wp2_with fail
     go_roundg (F - (k+1))
     case measure=>omega
     case rel=>exact⟨k+1,_,by omega,by omega,by go_num,by rw[HT.out];exact W.out,ac.out,ad.out⟩
   ·obtain rfl:k=F:=by omega
    have aQ:=yh (I.le (k':=5) (by omega));have V:=yh E;clear E;clear I
    go_wp2_with fail
    go_end0
    rw[List.take_of_length_le (Nat.le_of_eq aF.out)]at aQ;exact⟨rfl,D,aQ.out,V.out,Y⟩
theorem Qxc (W:World):(Instr.makeSlice 70 (.int .i64 0) (.int .i64 0)).run Tryz.prog W=.ok (.slice (some ⟨W.heap.size,0,none⟩) 0 0) (W.alloc (.cells ((List.replicate 0 (0:Int)).map (Value.int .i64)).toArray 3)):=by kernel_rfl
theorem Qyc (W:World):(Instr.makeSlice 70 (.int .i64 1) (.int .i64 1)).run Tryz.prog W=.ok (.slice (some ⟨W.heap.size,0,none⟩) 1 1) (W.alloc (.cells ((List.replicate 1 (0:Int)).map (Value.int .i64)).toArray 3)):=by kernel_rfl
theorem Qzc (W:World):(Instr.makeSlice 70 (.int .i64 2) (.int .i64 2)).run Tryz.prog W=.ok (.slice (some ⟨W.heap.size,0,none⟩) 2 2) (W.alloc (.cells ((List.replicate 2 (0:Int)).map (Value.int .i64)).toArray 3)):=by kernel_rfl
theorem QAc (W:World):(Instr.makeSlice 70 (.int .i64 3) (.int .i64 3)).run Tryz.prog W=.ok (.slice (some ⟨W.heap.size,0,none⟩) 3 3) (W.alloc (.cells ((List.replicate 3 (0:Int)).map (Value.int .i64)).toArray 3)):=by kernel_rfl
theorem QBc (W:World):(Instr.makeSlice 70 (.int .i64 4) (.int .i64 4)).run Tryz.prog W=.ok (.slice (some ⟨W.heap.size,0,none⟩) 4 4) (W.alloc (.cells ((List.replicate 4 (0:Int)).map (Value.int .i64)).toArray 3)):=by kernel_rfl
theorem QCc (W:World):(Instr.makeSlice 70 (.int .i64 5) (.int .i64 5)).run Tryz.prog W=.ok (.slice (some ⟨W.heap.size,0,none⟩) 5 5) (W.alloc (.cells ((List.replicate 5 (0:Int)).map (Value.int .i64)).toArray 3)):=by kernel_rfl
theorem X4b (n:Nat)(A:n≤5)(W:World):(Instr.makeSlice 70 (.int .i64 n) (.int .i64 n)).run Tryz.prog W=.ok (.slice (some ⟨W.heap.size,0,none⟩) n n) (W.alloc (.cells ((List.replicate n (0:Int)).map (Value.int .i64)).toArray 3)):=by
 have h:n=0∨n=1∨n=2∨n=3∨n=4∨n=5:=by omega
 rcases h with rfl | rfl | rfl | rfl | rfl | rfl
 ·exact Qxc W
 ·exact Qyc W
 ·exact Qzc W
 ·exact QAc W
 ·exact QBc W
 ·exact QCc W
theorem VPa (aa ab:Int)(A:Option Addr)(n cap:Nat)(cats:List Cat)(vc:Value)(i:Nat)(w:World)(h:Sl Um 2 w All A n cap cats)(Y:OkCats cats)(hi:i < n) :
  Calls Tryz.prog 213 #[.agg #[.int .i64 aa,.int .i64 ab,.slice A n cap,vc],.int .i64 (i:Int)] w fun e w'=>∃(G:Nat) (m:List Int),e=.returned (.slice (some ⟨G,0,none⟩) n n)∧
   RowI w' G m 3∧m.length=n∧(∀x,0 < m.getD x 0↔Srv (QS cats) x i)∧(∀x,0≤m.getD x 0)∧yw w w':=by
 have h5:=Y.five;have X:=h.len
 have ag:n≤5:=by omega
 have ai:=fun W=>X4b n ag W
 have ae:=yh (h.keep (w':=w) (S':=fun b=>b < w.heap.size) ZB (by omega) (fun b _ hb=>⟨rfl,hb⟩));have HL:=yh X;clear X;clear h
 go_enter Tryz.func213,Tryz.ntmps213
 go_upto_region 0 with(fail)
 go_cut [2,4] (fun p _ D=>∃g,p=.pointer (some ⟨g,0,none⟩)∧Blk D g #[.int .i64 aa,.int .i64 ab,.slice A n cap,vc] 25∧yw w D)
 case first=>as_aux_lemma=>
  go_wp2_with fail
  go_meet
  exact⟨_,rfl,Za _ _,Qf _ _⟩
 obtain⟨g,rfl,hB,hb⟩:=hcut;have q2:yJ wc g 2 A n cap:=hB.cell rfl;have ah:=yh (ae.out.keep (w':=wc) (S':=fun b=>b < w.heap.size) ZB (by omega) (fun b Z _=>⟨hb.block b Z,Z⟩))
 go_upto_region 1 with(fail)
 go_cut [5] (fun p D=>∃P G,p=.pointer (some ⟨P,0,none⟩)∧w.heap.size≤P∧w.heap.size≤G∧P≠G∧ClAt D w.heap.size P G A n cap cats (List.replicate n 0)∧yw w D)
 case first=>as_aux_lemma=>
  go_region_held3 (fun w'=>w'.cell? ⟨g,2,none⟩=some (.slice A n cap)) (first | assumption | go_keep) (first | fail)
  all_goals
   go_wp2_with fail
   go_meet
  all_goals
   have Q:=(Zh wc (.cells (Array.replicate n (Value.int IntKind.i64 0)) 3) (.cells #[Value.slice A n cap,Value.slice (some ⟨wc.heap.size,0,none⟩) n n] 285)).drew;refine⟨wc.heap.size+1,wc.heap.size,rfl,by have:=hb.size;omega,hb.size,by omega,⟨ah.out.below ZB (by omega) Q,QB _ _ _,?_,by simp⟩,hb.trans (Q.mono hb.size)⟩;unfold RowI;rw[show((List.replicate n (0:Int)).map (Value.int .i64)).toArray=Array.replicate n (.int .i64 0)by simp];exact QA _ _ _
 obtain⟨P,G,rfl,hP,hG,af,O,hb⟩:=hcut
 have E:∀x,(List.replicate n (0:Int)).getD x 0=0:=fun x=>by
  simp only[List.getD_eq_getElem?_getD,List.getElem?_replicate];split<;>rfl
 have hz:Zf (List.replicate n (0:Int))≤n:=by
  have:=List.countP_le_length (p:=fun x=>decide (x≤0)) (l:=List.replicate n (0:Int));rw[List.length_replicate]at this;exact this
 have aj:=UNb w.heap.size P G A n cap cats Y hG af n (List.replicate n 0) i 0 _ O hi hz (fun x=>by rw[E];omega) (fun x=>by rw[E];omega) (by omega);have ad:=yh aj;clear aj;have HB:=yh hb;clear hb;have H0:=yh E;clear O hz E
 go_wp2_with fail
 refine ad.out.mono ?_;rintro e w2 ⟨rfl,m,V,F,U⟩;have q1:yJ w2 P 1 (some ⟨G,0,none⟩) n n:=F.st.cell rfl;have J:=yh V;clear V;have I:=yh F;clear F;have ac:=yh (HB.out.trans U);clear U
 go_wp2_with fail
 go_ret
 exact⟨G,m,rfl,I.out.row,I.out.len,UEb J.out,J.out.low (fun x=>by rw[H0.out];omega),ac.out⟩
def Yu (C:List (List Int)) (n:Nat):Bool:=(List.range n).any (fun x=>decide (Srv C x x))
theorem Xia (C:List (List Int))(n:Nat):Yu C (n+1)=(Yu C n || decide (Srv C n n)):=by
 unfold Yu;rw[List.range_succ,List.any_append];simp
theorem U5a {C:List (List Int)}{n k:Nat}(h:Srv C k k)(A:k < n):Yu C n=true:=List.any_eq_true.2 ⟨k,List.mem_range.2 A,decide_eq_true h⟩
theorem Vzb {C:List (List Int)}(D:OkC C)(h:Yu C C.length=false)(x:Nat):¬Srv C x x:=fun A=>by
 rw[U5a A (A.lt D).1]at h;exact absurd h (by simp)
theorem VCb (I J:Int)(A:Option Addr)(n cap:Nat)(cats:List Cat)(O:Value)(w:World)(h:Sl Um 2 w All A n cap cats)(ho:OkCats cats) :
  Calls Tryz.prog 161 #[.agg #[.int .i64 I,.int .i64 J,.slice A n cap,O]] w fun e w'=>e=.returned (.bool (Yu (QS cats) n))∧yw w w':=by
 have h5:=ho.five;have hl:=h.len
 have al:n≤5:=by omega
 have Z:=fun i W h hi=>VPa I J A n cap cats O i W h ho hi
 have af:=yh Z;clear Z;have HL:=yh hl;clear hl;have ah:=yh h;clear h;obtain⟨r,hr⟩:∃r,r=Yu (QS cats) n:=⟨_,rfl⟩;rw[←hr];have HR:=yh hr;clear hr
 go_enter Tryz.func161,Tryz.ntmps161
 go_upto_region 0 with(fail)
 go_cut [1] (fun p wx=>∃g,p=.pointer (some ⟨g,0,none⟩)∧Blk wx g #[.int .i64 I,.int .i64 J,.slice A n cap,O] 25∧yw w wx)
 case first=>as_aux_lemma=>
  go_wp2_with fail
  go_meet
  exact⟨_,rfl,Za _ _,Qf _ _⟩
 obtain⟨g,rfl,Y,D⟩:=hcut;have q2:yJ wc g 2 A n cap:=Y.cell rfl
 go_wp2_with fail
 go_loopg [7] n (fun gk i wr=>∃k:Nat,k≤n∧n - k≤gk∧i=.int .i64 k∧Aside (Yu (QS cats) k=false)∧yw wc wr)
 case atStart=>exact⟨0,Nat.zero_le _,by omega,rfl,rfl,Below.refl _ _⟩
 case round=>
  obtain⟨k,hk,aj,rfl,V,E⟩:=hrel
  by_cases hlt:k < n
  ·have F:=Y.bel E
   have c0:yI wr g 0 I:=F.cell rfl;have c1:yI wr g 1 J:=F.cell rfl;have c2:yJ wr g 2 A n cap:=F.cell rfl;have c3:wr.cell? ⟨g,3,none⟩=some O:=F.cell rfl;have ac:=af.out k wr (ah.out.bel (D.trans (E.mono D.size))) hlt;have ag:=yh ac;clear ac
   go_wp2_with fail
   refine ag.out.mono ?_;rintro e w2 ⟨G,m,rfl,ad,ak,ae,ai,aa⟩;have e0:=ad.cell (i:=k) (by omega);obtain⟨v,U⟩:∃v,v=m.getD k 0:=⟨_,rfl⟩;rw[←U]at e0;have Q:=ae k;rw[←U]at Q;have ab:=E.trans (aa.mono E.size);have X:=yh Q;clear Q;clear ae ai ad aa U
   by_cases h0:0 < v
   ·have hr:r=true:=by rw[HR.out];exact U5a (X.out.1 h0) hlt
    subst hr
    go_wp2_with fail
    go_ret
    exact⟨rfl,D.trans (ab.mono D.size)⟩
   ·have HN:=yh (show Yu (QS cats) (k+1)=false by rw[Xia,show Yu (QS cats) k=false from V,decide_eq_false (fun h=>h0 (X.out.2 h))];rfl)
    go_wp2_with fail
    go_roundg (n - (k+1))
    case measure=>omega
    case rel=>exact⟨k+1,by omega,by omega,by go_num,HN.out,ab⟩
  ·obtain rfl:k=n:=by omega
   have hr:r=false:=by rw[HR.out];exact V
   subst hr
   go_wp2_with fail
   go_ret
   exact⟨rfl,D.trans (E.mono D.size)⟩
def Y4 (n:Int) (x:Cab):Int:=if Qc x.cat 0 (n - 1)=false∨Qc x.ber 1 4=false then 3 else 0
def Qu (cats:List Cat):List (List UInt8):=cats.map (·.name)
def Qt (cabs:List Cab):List (List UInt8):=cabs.map (·.name)
def VY (cats:List Cat) (k:Nat):Int:=Qh (Uo cats.length (cats.getD k default).high) (cats.getD k default).high.length
def ZJ (x:Shp):Int:=
 if Qc x.legs 1 7=false∨Qc x.souls 1 60=false then 3 else
 if 5 < x.cats.length∨12 < x.cabs.length then 2 else
 if x.cats.length=0∨x.cabs.length=0 then 5 else
 if Qh (nmE (Qu x.cats) (VY x.cats)) x.cats.length≠0 then Qh (nmE (Qu x.cats) (VY x.cats)) x.cats.length else
 if Yu (QS x.cats) x.cats.length=true then 4 else
 Qh (nmE (Qt x.cabs) (fun k=>Y4 x.cats.length (x.cabs.getD k default))) x.cabs.length
def ShpAt (w:World) (g:Nat) (legs souls:Int) (A:Option Addr) (n cap:Nat) (B:Option Addr) (m cap2:Nat):Prop:=
 Blk w g #[.int .i64 legs,.int .i64 souls,.slice A n cap,.slice B m cap2] 25
theorem ShpAt.bel {w w':World}{g:Nat}{D E:Int}{A:Option Addr}{n cap:Nat}{B:Option Addr}{m I:Nat}(h:ShpAt w g D E A n cap B m I)(F:yw w w'):ShpAt w' g D E A n cap B m I:=Blk.bel h F
theorem ShpAt.all {w:World}{g:Nat}{D E:Int}{A:Option Addr}{n cap:Nat}{B:Option Addr}{m F:Nat}(h:ShpAt w g D E A n cap B m F) :
  yI w g 0 D∧yI w g 1 E∧yJ w g 2 A n cap∧yJ w g 3 B m F:=
 ⟨Blk.cell h rfl,Blk.cell h rfl,Blk.cell h rfl,Blk.cell h rfl⟩
theorem UKb (V Y:Int)(A:Option Addr)(n cap:Nat)(Z:Value)(x:Cab)(w:World)(hn:n≤1000000000)(h1:InI x.cat)(h2:InI x.ber) :
  Calls Tryz.prog 163 #[.agg #[.int .i64 V,.int .i64 Y,.slice A n cap,Z],.agg #[Zb x.name,.int .i64 x.cat,.int .i64 x.ber,.bool x.lev]] w fun e w'=>e=.returned (.int .i64 (Y4 n x))∧yw w w':=by
 obtain⟨X,E,D,lv⟩:=x;simp only at h1 h2 ⊢;obtain⟨r,hr⟩:∃r,r=Y4 n ⟨X,E,D,lv⟩:=⟨_,rfl⟩;rw[←hr];have O:=yh (show r=if Qc E 0 ((n:Int) - 1)=false∨Qc D 1 4=false then 3 else 0 from hr);clear hr
 have F:=fun W=>UD E 0 ((n:Int) - 1) W
 have I:=fun W=>UD D 1 4 W
 go_enter Tryz.func163,Tryz.ntmps163
 go_upto_region 0 with(fail)
 go_cut [2,3,4] (fun p q _ U=>∃g k,p=.pointer (some ⟨g,0,none⟩)∧q=.pointer (some ⟨k,0,none⟩)∧Blk U g #[.int .i64 V,.int .i64 Y,.slice A n cap,Z] 25∧Blk U k #[Zb X,.int .i64 E,.int .i64 D,.bool lv] 136∧yw w U)
 case first=>as_aux_lemma=>
  go_wp2_with fail
  go_meet
  exact⟨_,_,rfl,rfl,QA _ _ _,QB _ _ _,Zh _ _ _⟩
 obtain⟨g,k,rfl,rfl,hG,hK,Q⟩:=hcut;have g2:yJ wc g 2 A n cap:=hG.cell rfl;have k1:yI wc k 1 E:=hK.cell rfl;have k2:yI wc k 2 D:=hK.cell rfl
 cases b1:Qc E 0 ((n:Int) - 1)
 ·have hr:r=3:=by rw[O.out,if_pos (.inl b1)]
  subst hr;rw[b1]at F;clear b1
  go_wp2_with fail
  refine(F _).mono ?_;rintro e J ⟨rfl,rfl⟩
  go_wp2_with fail
  go_ret
  exact⟨rfl,Q⟩
 ·rw[b1]at F
  cases b2:Qc D 1 4
  ·have hr:r=3:=by rw[O.out,if_pos (.inr b2)]
   subst hr;rw[b2]at I;clear b1 b2
   go_wp2_with fail
   refine(F _).mono ?_;rintro e J ⟨rfl,rfl⟩
   go_wp2_with fail
   refine(I _).mono ?_;rintro e J ⟨rfl,rfl⟩
   go_wp2_with fail
   go_ret
   exact⟨rfl,Q⟩
  ·have hr:r=0:=by rw[O.out,if_neg (by rw[b1,b2];simp)]
   subst hr;rw[b2]at I;clear b1 b2
   go_wp2_with fail
   refine(F _).mono ?_;rintro e J ⟨rfl,rfl⟩
   go_wp2_with fail
   refine(I _).mono ?_;rintro e J ⟨rfl,rfl⟩
   go_wp2_with fail
   go_ret
   exact⟨rfl,Q⟩
theorem Qrb (ad ae:Int)(A:Option Addr)(n cap:Nat)(cats:List Cat)(B:Option Addr)(m ac:Nat)(g h k:Nat)(F:Option Addr)(I:Nat)(w:World)(D:Sl Um 2 w All A n cap cats)
  (V:ShpAt w g ad ae A n cap B m ac) (hh:yJ w h 0 F n I) (hk:k < n) (hn:n≤1000000) :
  Calls Tryz.prog 159 #[.int .i64 (k:Int),.pointer (some ⟨g,0,none⟩),.pointer (some ⟨h,0,none⟩)] w fun e w'=>e=.returned (.int .i64 (VY cats k))∧yw w w':=by
 obtain⟨b,aa,x,c0,c1,rfl,Y,⟨E,Z,J,U,X,_⟩,e0,e1⟩:=D.at2 hk;simp only[List.cons.injEq,and_true]at U;obtain⟨rfl,rfl⟩:=U
 have Q:VY cats k=Qh (Uo n x.high) x.high.length:=by unfold VY;rw[Vm Y,D.len]
 rw[Q]
 have ag:=fun W hW=>QZb E Z J x.high n W (X.all Qb (by omega) |>.bel (w':=W) hW) (by omega) (by omega)
 obtain⟨r,hr⟩:∃r,r=Qh (Uo n x.high) x.high.length:=⟨_,rfl⟩;rw[←hr]at ag ⊢;have ab:=yh ag;obtain⟨g0,g1,g2,g3⟩:=V.all
 have af:(k:Int) < n:=by omega
 clear ag hr Q D X Y V
 go_enter Tryz.func159,Tryz.ntmps159
 go_upto_region 1 with(fail)
 have O:=(Below.refl w.heap.size w).drew
 go_region_held3 (fun w'=>w'.cell? ⟨g,2,none⟩=some (.slice (some ⟨b,aa,none⟩) n cap)∧w'.cell? ⟨b,aa+k*2+1,none⟩=some (.slice E Z J)∧w'.cell? ⟨h,0,none⟩=some (.slice F n I)) (first | exact⟨g2,e1,hh⟩ | go_keep)
  (first | (go_at_call 160;refine(ab.out _ O).mono ?_;rintro e wq ⟨rfl,rfl⟩))
 all_goals go_wp2_with fail
 all_goals go_ret
 all_goals exact⟨rfl,O⟩
theorem Qsb (O Q:Int)(A:Option Addr)(n cap:Nat)(U:List Cab)(B:Option Addr)(m I:Nat)(g k:Nat)(w:World)(Z:Sl ZW 4 w All B m I U)
  (hg:ShpAt w g O Q A n cap B m I) (hk:k < m) (hn:n≤1000000) :
  Calls Tryz.prog 162 #[.int .i64 (k:Int),.pointer (some ⟨g,0,none⟩)] w fun e w'=>e=.returned (.int .i64 (Y4 n (U.getD k default)))∧yw w w':=by
 obtain⟨b,E,x,c0,c1,c2,c3,rfl,hx,⟨ae,_,i1,i2⟩,e0,e1,e2,e3⟩:=Z.at4 hk;simp only[List.cons.injEq,and_true]at ae;obtain⟨rfl,rfl,rfl,rfl⟩:=ae;rw[Vm hx]
 have J:=fun W=>UKb O Q A n cap (.slice (some ⟨b,E,none⟩) m I) x W (by omega) i1 i2
 obtain⟨r,Y⟩:∃r,r=Y4 n x:=⟨_,rfl⟩;rw[←Y]at J ⊢;have aa:=yh J;obtain⟨g0,g1,g2,g3⟩:=hg.all
 have ad:(k:Int) < m:=by omega
 have D:∀{X:World} {p q:Nat} {v:Value},yw w X→w.cell? ⟨p,q,none⟩=some v→X.cell? ⟨p,q,none⟩=some v:=fun hX V=>(World.cell?_of_block (a:=⟨_,_,none⟩) (hX.block _ (Ub V))).trans V
 have ab:=yh (fun X (hX:yw w X)=>And.intro (D hX g0) (And.intro (D hX g1) (And.intro (D hX g2) (And.intro (D hX g3) (And.intro (D hX e0) (And.intro (D hX e1) (And.intro (D hX e2) (D hX e3))))))));clear J Y Z hx hg D
 go_enter Tryz.func162,Tryz.ntmps162
 go_upto_region 1 with(fail)
 have F:=(Below.refl w.heap.size w).drew
 go_region_held3 (fun w'=>w'.cell? ⟨g,0,none⟩=some (.int .i64 O)∧w'.cell? ⟨g,1,none⟩=some (.int .i64 Q)∧w'.cell? ⟨g,2,none⟩=some (.slice A n cap)∧w'.cell? ⟨g,3,none⟩=some (.slice (some ⟨b,E,none⟩) m I)∧w'.cell? ⟨b,E+k*4,none⟩=some (Zb x.name)∧w'.cell? ⟨b,E+k*4+1,none⟩=some (.int .i64 x.cat)∧w'.cell? ⟨b,E+k*4+2,none⟩=some (.int .i64 x.ber)∧w'.cell? ⟨b,E+k*4+3,none⟩=some (.bool x.lev)) (first | exact ab.out _ F | go_keep)
  (first | (go_at_call 163;refine(aa.out _).mono ?_;rintro e wq ⟨rfl,ac⟩;replace F:=F.trans (ac.mono F.size)))
 all_goals go_wp2_with fail
 all_goals go_ret
 all_goals exact⟨rfl,F⟩
end Go.Proofs.YtjdcokpmgionjaaGreat
