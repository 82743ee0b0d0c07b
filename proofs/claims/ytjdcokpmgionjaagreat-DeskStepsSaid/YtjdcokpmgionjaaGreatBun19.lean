/-
  Laws and contracts.
-/
import Derived.Test.YtjdcokpmgionjaaGreatBun16
import Derived.ProofKit
import Derived.OpenShut
import Derived.ShutString
import Derived.Deep.Slices
set_option linter.unusedSimpArgs false
set_option linter.unusedVariables false
set_option maxRecDepth 100000
set_option maxHeartbeats 20000000
namespace Go.Proofs.YtjdcokpmgionjaaGreat
open Go.ChangeShapes Go.WideShapes Go.ChangeAt Go.RowKit
theorem own:ownKnob Tryz.prog.godebug=none:=by kernel_rfl
theorem XYa:laidOutB Tryz.prog=true:=by kernel_rfl
theorem InI.of_wf {n:Int}(h:(Lit.int .i64 n).wf=true):InI n:=bounds_i64 h
def U9 {α:Type} (c:Cod α) (t:TypeId):Prop:=
 ∀{H:Type} {enc:TypeId×Value→H} {W:World} {base:Nat} {spare:Nat→Bool} {held:Bool} {fuel:Nat} {cs:List Value} {x:DataW H×List MemPlace},DataW.trod enc Tryz.prog W base (fun b=>spare b) held fuel t cs=some x→∃a,c W All a cs
theorem Xwa {t:TypeId}(A:Tryz.prog.underlying t=some (.int .i64)):U9 QO t:=fun h=>by
 obtain⟨n,rfl,_,D⟩:=DataW.trod_int A h;exact⟨n,rfl,.of_wf D⟩
theorem Zeb {t:TypeId}(A:Tryz.prog.underlying t=some .bool):U9 ZQb t:=fun h=>by
 obtain⟨n,rfl,_⟩:=DataW.trod_bool A h;exact⟨n,rfl⟩
theorem Vh {α:Type}{c:Cod α}{size:Nat}{t e:TypeId}(ht:Tryz.prog.underlying t=some (.slice e))(hs:Tryz.prog.cellsOf e=size)(U:0<size)(he:U9 c e):U9 (slC c size) t:=by
 intro H enc W base ar ao am cs x h;rcases Deep.open_slice ht h with⟨rfl,_⟩|⟨a,E,cap,m,n,D,Pl,rfl,_,hl,hm,aj,_,hi⟩
 ·exact⟨[],none,0,0,rfl,Sl.nil _ _ _ _⟩
 ·have aq:E≤m:=by rw[aj];split<;>omega
  have ac:∀i:Fin E,∃Q:α,∃b au A,a=⟨b,au,none⟩∧c W All Q A∧A.length=size∧∀j u,A[j]? = some u→W.cell? ⟨b,au+i.1*size+j,none⟩=some u:=fun i=>by
   obtain⟨A,I,ak⟩:=hi i.1 (by omega);obtain⟨Q,ae⟩:=he ak;rw[hs]at I;obtain⟨_,J,Y⟩:=World.cells?_some I
   have ab:a.spot=none:=by
    have F:=Y 0 U;rw[List.getElem?_eq_getElem (by omega)]at F;have h1:=World.cell?_spot F;simp only[Addr.add]at h1;by_cases hi0:i.1*size=0
    ·simpa [hi0] using h1
    ·have h2:=World.cell?_spot F;have ap:0<size:=U;obtain⟨al,Z,_⟩:=hi 0 (by have:=i.2;omega);rw[hs]at Z;obtain⟨_,an,ag⟩:=World.cells?_some Z;have V:=ag 0 U;rw[List.getElem?_eq_getElem (by omega)]at V;have ad:=World.cell?_spot V
     simpa [Addr.add] using ad
   obtain⟨b,au,sp⟩:=a;simp only at ab;subst ab;refine⟨Q,b,au,A,rfl,ae,J,fun j u hu=>?_⟩
   have hj:j<size:=by rw[←J];exact(List.getElem?_eq_some_iff.1 hu).1
   have X:=(Y j hj).trans hu
   have af:((⟨b,au,none⟩:Addr).add (i.1*size)).add j=⟨b,au+i.1*size+j,none⟩:=by
    rw[Deep.add_add]
    generalize i.1*size=q
    unfold Addr.add
    split
    ·next F=>simp only[Addr.mk.injEq,true_and,and_true];omega
    ·simp only[Addr.mk.injEq,true_and,and_true];omega
   rw[af]at X;exact X
  have ai:∃f:Fin E→α,∀i,∃b au A,a=⟨b,au,none⟩∧c W All (f i) A∧A.length=size∧∀j u,A[j]? = some u→W.cell? ⟨b,au+i.1*size+j,none⟩=some u:=
   ⟨fun i=>Classical.choose (ac i),fun i=>Classical.choose_spec (ac i)⟩
  obtain⟨f,hf⟩:=ai;refine⟨List.ofFn f,some a,E,cap,rfl,by simp,hl,hm,fun i y O=>?_⟩
  have aa:i<E:=by have:=(List.getElem?_eq_some_iff.1 O).1;simpa using this
  rw[List.getElem?_eq_getElem (by simpa using aa)]at O;simp only[List.getElem_ofFn,Option.some.injEq]at O;obtain⟨b,au,A,ha,I,J,ah⟩:=hf ⟨i,aa⟩;rw[←O,ha];exact⟨b,au,A,rfl,trivial,I,J,ah⟩
section
variable {H:Type} {enc:TypeId×Value→H} {W:World} {base:Nat} {t:TypeId} {v:Value} {d:DataW H} {p:List MemPlace}
set_option maxRecDepth 100000 in
theorem QEb (D:Tryz.prog.underlying t=some .string)(F:Value.okWide Tryz.prog W .any base t v)(h:DataW.Trod enc Tryz.prog W 0 (fun _=>true) true t v d p):∃s:ByteArray,v=.string s∧s.size≤maxLen:=by
 obtain⟨n,rfl⟩:=okWide_string D F;obtain⟨J,E⟩:=h;obtain⟨m,A,_,I⟩:=DataW.trod_string D E;simp[Value.cells]at A;subst A;exact⟨n,rfl,I⟩
set_option maxRecDepth 100000 in
theorem ZOb {α:Type}{c:Cod α}{A:Array Field}(F:Tryz.prog.underlying t=some (.struct A))(D:U9 c t)(I:Value.okWide Tryz.prog W .any base t v)
  (h:DataW.Trod enc Tryz.prog W 0 (fun _=>true) true t v d p):∃cs x,v=.agg cs∧c W All x cs.toList:=by
 obtain⟨cs,rfl,_⟩:=okWide_struct F I;obtain⟨O,E⟩:=h;obtain⟨x,J⟩:=D E;exact⟨cs,x,rfl,by simpa [Value.cells] using J⟩
set_option maxRecDepth 100000 in
theorem QDb (h:DataW.Trod enc Tryz.prog W 0 (fun _=>true) true t v d p):∀x∈p,x.block<W.heap.size:=by
 obtain⟨m,A⟩:=h;exact DataW.trod_lt m _ _ _ A
end
end Go.Proofs.YtjdcokpmgionjaaGreat
namespace Go.Proofs.YtjdcokpmgionjaaGreat
open Proofs.Tryz Go.ChangeShapes Go.WideShapes Go.ChangeAt Go.RowKit
theorem Z8a:U9 XJ 51:=by
 intro H enc W base X Y V cs x h;obtain⟨xs,n,_,_,J,O,I⟩:=DataW.trod_struct underlying51 h;rw[show Tryz.prog.cellsOf 51=2 by kernel_rfl]at J
 match xs,O with
 | [y0,y1],_=>
  match cs,J with
  | [c0,c1],_=>
   have E:=I 0 _ rfl;have F:=I 1 _ rfl;simp[show Tryz.prog.cellsOf 3=1 by kernel_rfl]at E F;obtain⟨a,A,_,Q⟩:=DataW.trod_int underlying3 E;obtain⟨b,D,_,U⟩:=DataW.trod_int underlying3 F;simp at A D;subst A D;exact⟨⟨a,b⟩,rfl,.of_wf Q,.of_wf U⟩
theorem Zcb:U9 Uxc 53:=by
 intro H enc W base af ae ad cs x h;obtain⟨xs,n,_,_,hl,ab,A⟩:=DataW.trod_struct underlying53 h;rw[show Tryz.prog.cellsOf 53=11 by kernel_rfl]at hl
 match xs,ab with
 | [y0,y1,y2,y3,y4,y5,y6,y7,y8,y9],_=>
  match cs,hl with
  | [c0,c1,c2,c3,c4,c5,c6,c7,c8,c9,c10],_=>
   have X:=A 0 _ rfl;have Y:=A 1 _ rfl;have Z:=A 2 _ rfl;have f3:=A 3 _ rfl;have f4:=A 4 _ rfl;have f5:=A 5 _ rfl;have f6:=A 6 _ rfl;have f7:=A 7 _ rfl;have f8:=A 8 _ rfl;have f9:=A 9 _ rfl;simp[show Tryz.prog.cellsOf 3=1 by kernel_rfl,show Tryz.prog.cellsOf 4=1 by kernel_rfl,show Tryz.prog.cellsOf 51=2 by kernel_rfl]at X Y Z f3 f4 f5 f6 f7 f8 f9;obtain⟨a0,E,_,w0⟩:=DataW.trod_int underlying3 X;obtain⟨a1,F,_,w1⟩:=DataW.trod_int underlying3 Y;obtain⟨a2,J,_,w2⟩:=DataW.trod_int underlying3 Z;obtain⟨a3,O,_,w3⟩:=DataW.trod_int underlying3 f3;obtain⟨a4,Q,_⟩:=DataW.trod_bool underlying4 f4;obtain⟨a5,U,_,w5⟩:=DataW.trod_int underlying3 f5;obtain⟨a6,V,_,w6⟩:=DataW.trod_int underlying3 f6;obtain⟨s,D,w7,w8⟩:=Z8a f7;obtain⟨a9,e9,_,w9⟩:=DataW.trod_int underlying3 f8;obtain⟨aa,I,_,ac⟩:=DataW.trod_int underlying3 f9;simp at E F J O Q U V D e9 I;obtain⟨D,e8⟩:=D;subst E F J O Q U V D e8 e9 I;exact⟨⟨a0,a1,a2,a3,a4,a5,a6,s.frm,s.upto,a9,aa⟩,rfl,.of_wf w0,.of_wf w1,.of_wf w2,.of_wf w3,.of_wf w5,.of_wf w6,w7,w8,.of_wf w9,.of_wf ac⟩
theorem Xxa {t:TypeId}(A:Tryz.prog.underlying t=some .string):U9 VZa t:=fun h=>by
 obtain⟨n,rfl,_,D⟩:=DataW.trod_string A h;refine⟨n.data.toList,?_,by simpa using D⟩;simp
theorem Zgb:U9 UX 134:=by
 intro H enc W base X Z V cs x h;obtain⟨xs,n,_,_,J,U,I⟩:=DataW.trod_struct underlying134 h;rw[show Tryz.prog.cellsOf 134=2 by kernel_rfl]at J
 match xs,U with
 | [y0,y1],_=>
  match cs,J with
  | [c0,c1],_=>
   have E:=I 0 _ rfl;have F:=I 1 _ rfl;simp[show Tryz.prog.cellsOf 9=1 by kernel_rfl,show Tryz.prog.cellsOf 70=1 by kernel_rfl]at E F;obtain⟨s,Y,Q⟩:=Xxa underlying9 E;obtain⟨L,A,m,cap,D,O⟩:=Vh (size:=1) underlying70 (by kernel_rfl) (by omega) (Xwa underlying3) F;simp at Y D;subst Y D;exact⟨⟨s,L⟩,_,_,_,rfl,O,Q⟩
theorem Zfb:U9 Ut 136:=by
 intro H enc W base ac ab aa cs x h;obtain⟨xs,n,_,_,V,X,D⟩:=DataW.trod_struct underlying136 h;rw[show Tryz.prog.cellsOf 136=4 by kernel_rfl]at V
 match xs,X with
 | [y0,y1,y2,y3],_=>
  match cs,V with
  | [c0,c1,c2,c3],_=>
   have J:=D 0 _ rfl;have O:=D 1 _ rfl;have Q:=D 2 _ rfl;have U:=D 3 _ rfl;simp[show Tryz.prog.cellsOf 9=1 by kernel_rfl,show Tryz.prog.cellsOf 3=1 by kernel_rfl,show Tryz.prog.cellsOf 4=1 by kernel_rfl]at J O Q U;obtain⟨s,E,hs⟩:=Xxa underlying9 J;obtain⟨a,F,_,Y⟩:=DataW.trod_int underlying3 O;obtain⟨b,I,_,Z⟩:=DataW.trod_int underlying3 Q;obtain⟨v,A⟩:=Zeb underlying4 U;replace A : [c3]=[.bool v]:=A;simp at E F I A;subst E F I A;exact⟨⟨s,a,b,v⟩,rfl,hs,.of_wf Y,.of_wf Z⟩
theorem Zkb:U9 U6c 25:=by
 intro H enc W base ad ac ab cs x h;obtain⟨xs,n,_,_,V,Z,hf⟩:=DataW.trod_struct underlying25 h;rw[show Tryz.prog.cellsOf 25=4 by kernel_rfl]at V
 match xs,Z with
 | [y0,y1,y2,y3],_=>
  match cs,V with
  | [c0,c1,c2,c3],_=>
   have J:=hf 0 _ rfl;have O:=hf 1 _ rfl;have Q:=hf 2 _ rfl;have U:=hf 3 _ rfl;simp[show Tryz.prog.cellsOf 3=1 by kernel_rfl,show Tryz.prog.cellsOf 22=1 by kernel_rfl,show Tryz.prog.cellsOf 23=1 by kernel_rfl]at J O Q U;obtain⟨a,F,_,wa⟩:=DataW.trod_int underlying3 J;obtain⟨b,I,_,wb⟩:=DataW.trod_int underlying3 O;obtain⟨L,A,m,cap,D,X⟩:=Vh (size:=2) underlying22 (by kernel_rfl) (by omega) Zgb Q;obtain⟨L2,A2,m2,aa,E,Y⟩:=Vh (size:=4) underlying23 (by kernel_rfl) (by omega) Zfb U;simp at F I D E;subst F I D E;exact⟨⟨a,b,L,L2⟩,_,_,_,_,_,_,rfl,X,Y,.of_wf wa,.of_wf wb⟩
theorem X3a:U9 Qm 140:=by
 intro H enc W base Z Y X cs x h;obtain⟨xs,n,_,_,Q,U,A⟩:=DataW.trod_struct underlying140 h;rw[show Tryz.prog.cellsOf 140=3 by kernel_rfl]at Q
 match xs,U with
 | [y0,y1,y2],_=>
  match cs,Q with
  | [c0,c1,c2],_=>
   have I:=A 0 _ rfl;have J:=A 1 _ rfl;have O:=A 2 _ rfl;simp[show Tryz.prog.cellsOf 3=1 by kernel_rfl]at I J O;obtain⟨a,D,_,V⟩:=DataW.trod_int underlying3 I;obtain⟨b,E,_,wb⟩:=DataW.trod_int underlying3 J;obtain⟨c,F,_,wc⟩:=DataW.trod_int underlying3 O;simp at D E F;subst D E F;exact⟨⟨a,b,c⟩,rfl,.of_wf V,.of_wf wb,.of_wf wc⟩
theorem Zdb:U9 ZP 63:=by
 intro H enc W base ae ad ac cs x h;obtain⟨xs,n,_,_,hl,ab,hf⟩:=DataW.trod_struct underlying63 h;rw[show Tryz.prog.cellsOf 63=11 by kernel_rfl]at hl
 match xs,ab with
 | [y0,y1,y2,y3,y4,y5,y6,y7,y8,y9],_=>
  match cs,hl with
  | [c0,c1,c2,c3,c4,c5,c6,c7,c8,c9,c10],_=>
   have X:=hf 0 _ rfl;have Y:=hf 1 _ rfl;have Z:=hf 2 _ rfl;have f3:=hf 3 _ rfl;have f4:=hf 4 _ rfl;have f5:=hf 5 _ rfl;have f6:=hf 6 _ rfl;have f7:=hf 7 _ rfl;have f8:=hf 8 _ rfl;have f9:=hf 9 _ rfl;simp[show Tryz.prog.cellsOf 3=1 by kernel_rfl,show Tryz.prog.cellsOf 4=1 by kernel_rfl,show Tryz.prog.cellsOf 51=2 by kernel_rfl,show Tryz.prog.cellsOf 61=1 by kernel_rfl]at X Y Z f3 f4 f5 f6 f7 f8 f9;obtain⟨a0,E,_,w0⟩:=DataW.trod_int underlying3 X;obtain⟨a1,F,_,w1⟩:=DataW.trod_int underlying3 Y;obtain⟨a2,J,_,w2⟩:=DataW.trod_int underlying3 Z;obtain⟨a3,O,_,w3⟩:=DataW.trod_int underlying3 f3;obtain⟨a4,Q,_⟩:=DataW.trod_bool underlying4 f4;obtain⟨a5,U,_,w5⟩:=DataW.trod_int underlying3 f5;obtain⟨a6,V,_,w6⟩:=DataW.trod_int underlying3 f6;obtain⟨s,D,w7,w8⟩:=Z8a f7;obtain⟨a9,e9,_,w9⟩:=DataW.trod_int underlying3 f8;obtain⟨L,A,m,cap,I,aa⟩:=Vh (size:=3) underlying61 (by kernel_rfl) (by omega) X3a f9;simp at E F J O Q U V D e9 I;obtain⟨D,e8⟩:=D;subst E F J O Q U V D e8 e9 I;exact⟨⟨a0,a1,a2,a3,a4,a5,a6,s.frm,s.upto,a9,L⟩,_,_,_,rfl,aa,⟨.of_wf w0,.of_wf w1,.of_wf w2,.of_wf w3,.of_wf w5,.of_wf w6,w7,w8,.of_wf w9⟩⟩
def Uwc:Cod Ans:=fun _ _ x cs=>cs=(Qt x).toList∧InI x.errno∧InI x.owed
def Zec:Cod (List Don×Int):=fun w S x cs=>∃A n cap,cs=[.slice A n cap,.int .i64 x.2]∧Sl ZX 13 w S A n cap x.1∧InI x.2
theorem Zbb:U9 Uwc 55:=by
 intro H enc W base Y X Z cs x h;obtain⟨xs,n,_,_,J,U,I⟩:=DataW.trod_struct underlying55 h;rw[show Tryz.prog.cellsOf 55=2 by kernel_rfl]at J
 match xs,U with
 | [y0,y1],_=>
  match cs,J with
  | [c0,c1],_=>
   have E:=I 0 _ rfl;have F:=I 1 _ rfl;simp[show Tryz.prog.cellsOf 3=1 by kernel_rfl,show Tryz.prog.cellsOf 35=1 by kernel_rfl]at E F;obtain⟨O,A,_,V⟩:=DataW.trod_int underlying35 E;obtain⟨Q,D,_,w1⟩:=DataW.trod_int underlying3 F;simp at A D;subst A D;exact⟨⟨O,Q⟩,rfl,.of_wf V,.of_wf w1⟩
theorem Zhb:U9 ZX 106:=by
 intro H enc W base X Y V cs x h;obtain⟨xs,n,_,_,J,O,I⟩:=DataW.trod_struct underlying106 h;rw[show Tryz.prog.cellsOf 106=13 by kernel_rfl]at J
 match xs,O with
 | [y0,y1],_=>
  match cs,J with
  | [c0,c1,c2,c3,c4,c5,c6,c7,c8,c9,c10,c11,c12],_=>
   have E:=I 0 _ rfl;have F:=I 1 _ rfl;simp[show Tryz.prog.cellsOf 53=11 by kernel_rfl,show Tryz.prog.cellsOf 55=2 by kernel_rfl]at E F;obtain⟨a,A,Q⟩:=Zcb E;obtain⟨r,D,w1,U⟩:=Zbb F;simp[QY]at A;simp at D;obtain⟨rfl,rfl,rfl,rfl,rfl,rfl,rfl,rfl,rfl,rfl,rfl⟩:=A;obtain⟨rfl,rfl⟩:=D;exact⟨⟨a,r⟩,rfl,Q,w1,U⟩
theorem Zib:U9 Zec 39:=by
 intro H enc W base X Z V cs x h;obtain⟨xs,n,_,_,J,U,I⟩:=DataW.trod_struct underlying39 h;rw[show Tryz.prog.cellsOf 39=2 by kernel_rfl]at J
 match xs,U with
 | [y0,y1],_=>
  match cs,J with
  | [c0,c1],_=>
   have E:=I 0 _ rfl;have F:=I 1 _ rfl;simp[show Tryz.prog.cellsOf 3=1 by kernel_rfl,show Tryz.prog.cellsOf 37=1 by kernel_rfl]at E F;obtain⟨L,A,m,cap,Y,Q⟩:=Vh (size:=13) underlying37 (by kernel_rfl) (by omega) Zhb E;obtain⟨O,D,_,w1⟩:=DataW.trod_int underlying3 F;simp at Y D;subst Y D;exact⟨(L,O),A,m,cap,rfl,Q,.of_wf w1⟩
end Go.Proofs.YtjdcokpmgionjaaGreat
namespace Go.Proofs.YtjdcokpmgionjaaGreat
open Proofs.Tryz Go.RowKit Go.Shelf
def Xp (day:Int) (b:Bkg):Bool:=decide (b.state=1) && decide (b.til<day)
def Ua (x:Sai) (day:Int) (b:Bkg):Bkg:=if ZV x b day=0 then VR x b day else { b with state:=3,til:=0 }
def VK (x:Sai) (day:Int) (b:Bkg):Bkg:=if Xp day b=true then Ua x day b else b
def UV (x:Sai) (day:Int):Sai:={ x with day:=day,bks:=x.bks.map (VK x day) }
def Vxa (x:Sai) (day:Int):List Int:=(x.bks.filter (Xp day)).map (·.id)
def Q3 (x:Sai) (day:Int) (k:Nat):Sai:={ x with day:=day,bks:=(x.bks.take k).map (VK x day)++x.bks.drop k }
def X6 (x:Sai) (day:Int) (k:Nat):List Int:=((x.bks.take k).filter (Xp day)).map (·.id)
theorem XHa (x:Sai)(day:Int):Q3 x day x.bks.length=UV x day:=by
 unfold Q3 UV;rw[List.take_length,List.drop_length,List.append_nil]
theorem YQa (x:Sai)(day:Int):X6 x day x.bks.length=Vxa x day:=by
 unfold X6 Vxa;rw[List.take_length]
theorem ZUa (x:Sai)(day:Int)(k:Nat):(Q3 x day k).bks.length=x.bks.length:=by
 show((x.bks.take k).map (VK x day)++x.bks.drop k).length=_
 rw[J9,List.length_map,J8,List.length_drop];omega
section
variable {x:Sai} {day:Int} {k:Nat} {b:Bkg}
theorem Vi (A:x.bks[k]? = some b):(Q3 x day k).bks[k]? = some b:=by
 have D:=(J0.1 A).1
 show((x.bks.take k).map (VK x day)++x.bks.drop k)[k]? = some b
 rw[List.getElem?_append_right (by rw[List.length_map,J8];omega),List.length_map,J8,List.getElem?_drop,show k+(k-min k x.bks.length)=k by omega];exact A
theorem Vza (A:x.bks[k]? = some b):Q3 x day (k+1)=QT (Q3 x day k) k (VK x day b):=by
 have E:=(J0.1 A).1
 have D:x.bks.drop k=b::x.bks.drop (k+1):=by rw[List.drop_eq_getElem_cons E];rw[(J0.1 A).2]
 unfold Q3 QT;simp only
 congr 1
 rw[D,Qo A,List.map_append,List.set_append_right _ _ (by rw[List.length_map,J8];omega),List.length_map,J8,show k-min k x.bks.length=0 by omega];simp
theorem VAa (A:x.bks[k]? = some b)(h:Xp day b=false):Q3 x day (k+1)=Q3 x day k∧X6 x day (k+1)=X6 x day k:=by
 have D:VK x day b=b:=by unfold VK;rw[h];rfl
 refine⟨?_,?_⟩
 ·rw[Vza A,D];unfold QT
  rw[show(Q3 x day k).bks.set k b=(Q3 x day k).bks from by
   refine List.ext_getElem? fun i=>?_;by_cases hi:i=k
   ·subst hi;rw[List.getElem?_set_self (J0.1 (Vi A)).1,Vi A]
   ·rw[List.getElem?_set_ne (fun e=>hi e.symm)]]
 ·unfold X6;rw[Qo A,List.filter_append];simp[h]
theorem Vya (A:x.bks[k]? = some b)(h:Xp day b=true):Q3 x day (k+1)=QT (Q3 x day k) k (Ua x day b)∧X6 x day (k+1)=X6 x day k++[b.id]:=by
 have D:VK x day b=Ua x day b:=by unfold VK;rw[h];rfl
 refine⟨by rw[Vza A,D],?_⟩;unfold X6;rw[Qo A,List.filter_append,List.map_append];simp[h]
end
section
variable {w0:World} {b0:Nat} {w w':World} {base:Nat} {x:Sai} {p:SaiV}
theorem SaiW.blkB {g:Nat}(h:SaiW w0 b0 w base x p)(F:p.C=some ⟨g,0,none⟩):∃cs,Blk w g cs 63:=by
 obtain⟨J,O,Q,U,V,xs,D⟩:=h;rw[F]at D;rcases D.row.2 with⟨A,_⟩|⟨X,W,E,A,Y,I,_⟩
 ·cases A
 ·injection A with e1;injection e1 with e1;injection e1 with e1;subst e1;exact⟨E,I⟩
theorem SaiW.grownI {B:Nat}{v:Value}{l:List Int}{xs:List Value}(h:SaiW w0 b0 w base x p)(I:Own QO 1 3 w B v l xs)(U:w0.heap.size≤B)(A:w.grownBy w' v.ownBlock):SaiW w0 b0 w' base x p:=by
 rcases I.row.2 with⟨E,_⟩|⟨z,Q,F,E,V,J,_⟩
 ·refine h.bel ⟨A.os,A.tape,A.output,A.size,fun j D=>A.block j D (by rw[E];simp[Value.ownBlock])⟩
 ·exact h.keepZ (z:=z) (zs:=F) (t:=3) J (by decide) (by decide) (by omega) ⟨A.os,A.tape,A.output,A.size,fun j D O=>A.block j D (by rw[E];intro e;injection e with e;exact O e)⟩
end
theorem Yvb (E:World)(b0:Nat)(x:Sai)(p:SaiV)(y:Nat)(base:Nat)(day:Int)(w:World)(D:SaiW E b0 w base x p)(A:Blk w y (Qa x p) 162)(a7:E.heap.size≤y)(ho:OkSai x)(hd:0≤day∧day≤9999) :
  Calls prog 105 #[.pointer (some ⟨y,0,none⟩),.int .i64 day] w fun e w'=>∃v xs,e=.returned v∧Own QO 1 3 w' w.heap.size v (Vxa x day) xs∧SaiW E b0 w' base (UV x day) p∧Blk w' y (Qa (UV x day) p) 162∧Kept (fun j=>E.heap.size≤j) w w':=by
 have aN:=yh (fun k g b V D hC A hb bt=>V5a E b0 (Q3 x day k) p k g y b day base V D hC A hb ho.fares ho.leaves (by rw[ZUa];exact ho.bs.len) bt hd);have aH:=yh (fun b (hb:b∈x.bks)=>(ho.bs.bk b hb).fol);have ac:=yh (show x.bks.length=p.nb from D.sai.bks.len);have aV:=ho.bs.len
 have bi:p.nb≤16:=by have:=ac.out;omega
 have ay:∀k,Qa (Q3 x day k) p=Qa (Q3 x day 0) p:=fun k=>rfl;have ba:=yh ay;have ap:=yh (show ∀V,SaiW E b0 V base x p→SaiW E b0 V base (Q3 x day 0) p from fun V ⟨a1,a2,a3,a4,a5,xs,a6⟩=>⟨a1,a2,a3,a4,⟨a5.cats,a5.cabs,a5.leg,a5.bands,a5.a,a5.t,a5.d⟩,xs,a6⟩)
 have bn:E.heap.size≤w.heap.size:=by obtain⟨_,_,a3,_⟩:=D;exact a3
 have bb:base≤E.heap.size:=by obtain⟨a1,a2,_⟩:=D;omega
 have y9:yI w y 9 x.day:=A.cell rfl;have f9:=A.free 9;have bp:=A.lt;have O:=yh D;have F:=yh A;clear ay D A ho hd aV;go_enter func105,ntmps105;go_upto_region 2 with(fail);go_cut [] (fun X=>SaiW E b0 X base (Q3 x day 0) p∧Blk X y (Qa (Q3 x day 0) p) 162∧Kept (fun j=>j=y) w X)
 case first=>
  go_wp2_with fail;go_meet;have hk:=VX w y [(9,.int .i64 day)];exact⟨ap _ (O.keepZ F (by decide) (by decide) a7 hk),F.set (j:=9) _,hk⟩
 obtain⟨D,A,aj⟩:=hcut;obtain⟨U,rfl⟩:=yE wc;have bv:w.heap.size≤U.heap.size:=aj.size;have bq:=A.lt;have ai:yJ U y 11 p.C p.nb p.cb:=A.cell rfl;have aQ:=yh D;have aT:=yh A;have aL:=yh (show Kept (fun j=>E.heap.size≤j) w U from aj.mono fun k _ e=>by omega);clear D A aj y9 f9 O F ap;go_wp2_with fail
 go_loopg [5,19] p.nb (fun gk v i wr=>∃(k:Nat) (xs:List Value) (vo:Value),k≤p.nb∧p.nb-k≤gk∧i=.int .i64 k∧vo=v∧Own QO 1 3 wr U.heap.size vo (X6 x day k) xs∧SaiW E b0 wr base (Q3 x day k) p∧Blk wr y (Qa (Q3 x day k) p) 162∧Kept (fun j=>E.heap.size≤j) U wr)
 case atStart=>exact⟨0,[],_,M0 _,by omega,rfl,rfl,Own.nil _ _ _ _ _,aQ,aT,Kept.refl _ _⟩
 case round=>
  clear ai;obtain⟨k,xs,vo,hk,bd,rfl,rfl,hO,D,A,hK⟩:=hrel;have bo:=hK.size;by_cases hlt:k<p.nb
  ·have aD:k<x.bks.length:=by have:=ac.out;omega
   obtain⟨b,hb⟩:∃b,x.bks[k]? = some b:=⟨_,J1 aD⟩;obtain⟨g,A3,n3,c3,hC,bw,be,J,ab,hF,hI,_⟩:=D.at (Vi (day:=day) hb)
   have ai:wr.cell? ⟨y,11,none⟩=some (.slice (some ⟨g,0,none⟩) p.nb p.cb):=by rw[←hC];exact A.cell rfl
   obtain⟨st,al⟩:=yE b.state;obtain⟨ti,am⟩:=yE b.til
   have c2:wr.cell? ⟨g,k*11+2,none⟩=some (.int .i64 st):=by rw[al];exact J 2 _ rfl
   have c9:wr.cell? ⟨g,k*11+9,none⟩=some (.int .i64 ti):=by rw[am];exact J 9 _ rfl
   have bg:(0:Int)≤(k:Int):=Int.natCast_nonneg _
   have bh:(k:Int)<(p.nb:Int):=by omega
   obtain⟨V1,rfl⟩:=yE wr;obtain⟨lo,ak⟩:=yE (Xp day b);have ah:=yh (show lo=(decide (st=1) && decide (ti<day))by rw[ak,al,am];rfl);have ao:=yh ak;clear ak;have Q:=yh hb;clear hb;have HO:=yh hO;clear hO;have O:=yh D;clear D;have F:=yh A;clear A;have HK:=yh hK;clear hK;have Y:=yh hC;clear hC;have aK:=yh hI.id;clear al am J ab hF hI aD;go_upto_region 7 with(fail);go_cut [41] (fun q X=>q=.bool (!lo)∧V1=X)
   case first=>as_aux_lemma=>
    by_cases q1:st=1
    ·by_cases q2:ti<day
     ·obtain rfl:lo=true:=by rw[ah.out,J2 q1,J2 q2];rfl
      have q3:decide (day≤ti)=false:=J3 (by omega);subst q1;go_wp2_with fail;go_meet;exact⟨rfl,rfl⟩
     ·obtain rfl:lo=false:=by rw[ah.out,J2 q1,J3 q2];rfl
      have q3:decide (day≤ti)=true:=J2 (by omega);subst q1;go_wp2_with fail;go_meet;exact⟨rfl,rfl⟩
    ·obtain rfl:lo=false:=by rw[ah.out,J3 q1];rfl
     have q3:(st !=1)=true:=by simpa using q1
     clear q1;go_wp2_with fail;go_meet;exact⟨rfl,rfl⟩
   obtain⟨rfl,rfl⟩:=hcut;clear c2 c9;cases lo
   ·obtain⟨e1,e2⟩:=VAa Q ao.symm;go_wp2_with fail;go_roundg (p.nb-(k+1))
    case measure=>omega
    case rel=>exact⟨k+1,xs,vo,by omega,by omega,by go_num,rfl,by rw[e2];exact HO,by rw[e1];exact O,by rw[e1];exact F,HK⟩
   obtain⟨e1,e2⟩:=Vya Q ao.symm;have aB:¬y=g:=fun h=>O.neB Y F (by decide) h.symm;have ag:=yh (aN k g b V1 O Y (fun j u hu=>F.cell hu) (Vi Q) (aH b (J6 Q)));obtain⟨E',hE⟩:∃q,q=ZV (Q3 x day k) b day:=⟨_,rfl⟩;rw[←hE]at ag
   have aJ:=yh (show E'=0→Qpa (Q3 x day k) k b day=Q3 x day (k+1)from fun h=>by
    rw[UXa (hE.symm.trans h),e1];unfold Ua;rw[M3 (show ZV x b day=0 from hE.symm.trans h)]
    rfl)
   have aI:=yh (show ¬E'=0→Qpa (Q3 x day k) k b day=Q3 x day k∧Q3 x day (k+1)=QT (Q3 x day k) k { b with state:=3,til:=0 }from fun h=>by
    have h2:¬ZV (Q3 x day k) b day=0:=fun h3=>h (hE.trans h3);refine⟨YPa h2,?_⟩;rw[e1];unfold Ua
    rw[M2 (show ¬ZV x b day=0 from h2)])
   have aF:=yh e1;have aG:=yh e2;clear e1 e2 hE;go_wp2_with fail;refine ag.mono ?_;rintro e w2 ⟨rfl,au,af⟩;have aw:=F.kept af aB;have bl:=af.size;have aq:=yh au;clear au;have a9:=yh aw;clear aw;have an:=yh af;clear af;clear ag ai;obtain⟨V2,aX⟩:=yE w2;subst aX;go_upto_if 48 with(fail);go_cut [] (fun X=>SaiW E b0 X base (Q3 x day (k+1)) p∧Kept (fun j=>j=g) V1 X)
   case first=>
    by_cases q1:E'=0
    ·have q2:(E' !=0)=false:=by simpa using q1
     have h:=aJ q1;have HH:=yh h;clear q1 h;go_wp2_with fail;go_meet;exact⟨by rw[←HH.out];exact aq,an⟩
    ·have q2:(E' !=0)=true:=by simpa using q1
     obtain⟨h1,h2⟩:=aI q1;have W:=aq.out;rw[h1]at W;obtain⟨g',A4,n4,c4,aa,_,_,J,ab,_,_,_⟩:=W.at (Vi (day:=day) Q)
     obtain rfl:g=g':=by have:=Y.out;rw[this]at aa;injection aa with h;injection h
     have c2:yI V2 g (k*11+2) b.state:=J 2 _ rfl;have c9:yI V2 g (k*11+9) b.til:=J 9 _ rfl;have f2:=ab (k*11+2);have f9:=ab (k*11+9);have aR:=yh W;have H2:=yh h2;clear q1 h1 h2 W aa J ab;go_wp2_with fail;go_meet;have aY:=aR.put Y (Vi Q) (j:=2) (by omega) (u:=.int .i64 3) (fun cs h=>QAa h (.of (by decide) (by decide)));have av:=aY.put Y (Yz (Vi Q)) (j:=9) (by omega) (u:=.int .i64 0) (fun cs h=>URa h (.of (by decide) (by decide)));rw[set_set]at av;exact⟨by rw[H2.out];exact av,an.trans (VX V2 g [(k*11+2,.int .i64 3),(k*11+9,.int .i64 0)])⟩
   obtain⟨W,ad⟩:=hcut;obtain⟨I,rfl⟩:=yE wc;have bm:=ad.size;have ax:=F.kept ad aB;obtain⟨bc,az⟩:=O.blkB Y;have ar:Own QO 1 3 I U.heap.size vo (X6 x day k) xs:=HO.keepB ZB (fun j hj=>ad.block j (HO.lt j hj).2 (fun e=>HO.neTy az (by decide) (by rw[hj,e])));obtain⟨g',A4,n4,c4,aa,_,_,J,ab,_,_,_⟩:=W.at (show(Q3 x day (k+1)).bks[k]? = some (Ua x day b)by rw[aF.out];exact Yz (Vi Q))
   obtain rfl:g=g':=by have:=Y.out;rw[this]at aa;injection aa with h;injection h
   have aC:(Ua x day b).id=b.id:=by unfold Ua;split<;>rfl
   have c0:I.cell? ⟨g,k*11,none⟩=some (.int .i64 b.id):=by rw[←aC];exact J 0 _ rfl
   have bf:(X6 x day k).length≤16:=by
    unfold X6;rw[List.length_map];have:=List.length_filter_le (Xp day) (x.bks.take k);rw[J8]at this;have:=ac.out;omega
   have a0:((X6 x day k).length+1)*8≤140737488355328:=by omega
   have ae:=yh (ar.bel (Qi I (.cells #[.int .i64 b.id] 3)));have aS:=yh (W.bel (Qi I (.cells #[.int .i64 b.id] 3)));have aU:=yh ((show Blk I y (Qa (Q3 x day (k+1)) p) 162 from ax).bel (Qi I (.cells #[.int .i64 b.id] 3)));have aM:=yh (HK.trans (ad.mono fun j _ e=>by omega))
   have bj:U.heap.size≤I.heap.size:=by omega
   have bu:U.heap.size≤(I.alloc (.cells #[.int .i64 b.id] 3)).heap.size:=by simp;omega
   have aP:=yh (QLa I All b.id 3 aK trivial);clear ar W ax ad aa J ab aC az;go_wp2_with (at_builtin;refine QC (t:=70) (e:=3) (bytes:=8) rfl (.tmp 55) (.tmp 60) rfl Uv Qd rfl ae rfl aP (fun _ _ hc=>hc) a0 (by omega) bu ?_;intro v' w' a8 aE aA aZ;have aO:=yh aE;have Z:=yh aA;clear aE aA aZ);go_roundg (p.nb-(k+1))
   case measure=>omega
   case rel=>
    have aW:Kept (fun j=>E.heap.size≤j) (I.alloc (.cells #[.int .i64 b.id] 3)) w':=⟨Z.os,Z.tape,Z.output,Z.size,fun j hj hn=>Z.block j hj (fun e=>hn (by have:=(ae.lt j e.symm).1;omega))⟩;exact⟨k+1,a8,v',by omega,by omega,by go_num,rfl,by rw[aG.out];exact aO,aS.grownI ae (by omega) Z,aU.grown Z (fun e=>by have:=(ae.lt y e.symm).1;omega),(aM.alloc _).trans aW⟩
  ·obtain rfl:k=p.nb:=by omega
   rw[←ac.out,XHa]at D A;rw[←ac.out,YQa]at hO;have HO:=yh hO;clear hO;have O:=yh D;clear D;have F:=yh A;clear A;have HK:=yh hK;clear hK;go_wp2_with fail;go_ret;exact⟨_,xs,rfl,HO.mono Qd bv,O,F,aL.trans HK⟩
theorem Zia {D:Func}{p u v:Tmp}{ty:TypeId}(h:D.results=#[.cell p ty,.tmp u,.tmp v])(A:Array Value)(P:Program)(w:World) :
  (results D A).run P w=((asAddr (A.getD p undef)).run P w).andThen fun a E=>((loadVar ty a).run P E).andThen fun x F=>.ok (.tuple #[x,A.getD u undef,A.getD v undef]) F:=by
 simp only[results,h];simp[Sem.run_bind,Result.andThen]
theorem Blk.ret3 {D:Func}{k u v:Tmp}{ty t:TypeId}(J:D.results=#[.cell k ty,.tmp u,.tmp v]){A:Array Value}{w:World}{g:Nat}{cs:Array Value}{d:TypeDesc}(Q:Blk w g cs t)(V:A.getD k undef=.pointer (some ⟨g,0,none⟩)){e f:Value}(I:A.getD u undef=e)(O:A.getD v undef=f)
  (W:Tryz.prog.underlying ty=some d) (F:(match d with | .struct _ | .array _ _=>true|_=>false)=true) (U:(Tryz.prog.info? ty).map (·.size)=some cs.size):(results D A).run prog w=.ok (.tuple #[.agg cs,e,f]) w:=by
 have E:w.heap[g]? = some (.cells cs t (0,0)):=Q;rw[Zia (p:=k) (u:=u) (v:=v) (ty:=ty) J,V,I,O]
 cases d<;>first|simp[asAddr,run_loadVar_row w g t ty cs (0,0) _ E W rfl U,Sem.run_pure]|simp at F
noncomputable def Y4 (x:Sai) (day:Int):Int:=if QD x≠0 then QD x else if Qc day 0 9999=false then 3 else if day≤x.day then 4 else 0
def ZGc (w':World) (base:Nat) (E:Int) (X:Sai) (l:List Int) (e:Ending):Prop:=∃y p' v xs,e=.returned (.tuple #[.agg (Qa y p'),v,.int .i64 E])∧y=okS E X∧SaiO w' base y p'∧Own QO 1 3 w' base v (okL E l) xs
theorem VQb (x:Sai)(p:SaiV)(day:Int)(w:World)(hS:SaiR w x p) :
  Calls prog 38 #[.agg (Qa x p),.int .i64 day] w fun e w'=>ZGc w' w.heap.size (Y4 x day) (UV x day) (Vxa x day) e∧yw w w':=by
 have ad:=yh (fun X hX=>UG x p X hX);have aj:=yh (fun X h ho=>UI x p X h ho);have am:=yh (fun Q Z p y base X hW hY ah ho hd=>Yvb Q Z x p y base day X hW hY ah ho hd);obtain⟨r,hr⟩:=yE (QD x);obtain⟨R,hR⟩:=yE (Y4 x day);have HR:=yh (show R=if r≠0 then r else if Qc day 0 9999=false then 3 else if day≤x.day then 4 else 0 by rw[hR,hr];rfl);have az:=yh hr;rw[←hr]at ad;rw[←hR];have HS:=yh hS;clear hr hR hS;obtain⟨A,n,cap,B,m,aC,D,nd,cd,E,ne,ce,C,nb,cb⟩:=p;go_enter func38,ntmps38;go_upto_region 0 with(fail);go_cut [2,4,5,6] (fun p p2 F p4 wx=>∃g z,yp p g∧yp p2 z∧F=.slice none 0 0∧p4=.int .i64 0∧w.heap.size≤z∧Blk wx g (Qa x ⟨A,n,cap,B,m,aC,D,nd,cd,E,ne,ce,C,nb,cb⟩) 32∧Blk wx z M9 32∧yw w wx)
 case first=>as_aux_lemma=>
  go_wp2_with fail;go_meet;exact⟨_,_,rfl,rfl,rfl,rfl,by omega,QE _ _ _,QF _ _ _,Zo _ _ _⟩
 obtain⟨g,z,rfl,rfl,rfl,rfl,hz,hG,hZ,ab⟩:=hcut;obtain⟨I,rfl⟩:=yE wc;have U:=yh (fun X (hX:yw I X)=>ab.trans (hX.mono ab.size));have HG:=yh (fun X (hX:yw I X)=>hG.bel hX);have HZ:=yh (fun X (hX:yw I X)=>hZ.bel hX);have al:=yh (fun X (hX:yw I X)=>HS.bel (U X hX))
 have Y:=yh (show ∀(E':Int) V,¬E'=0→yw I V→ZGc (V.setRow z (Qa Qf Qg)) w.heap.size E' (UV x day) (Vxa x day) (.returned (.tuple #[.agg (Qa Qf Qg),.slice none 0 0,.int .i64 E']))∧yw w (V.setRow z (Qa Qf Qg))from fun E' V h0 hX=>by
  have ac:yw w (V.setRow z (Qa Qf Qg)):=((U V hX).trans (((yk z V).setRow (.inl rfl) _).below (B:=w.heap.size) (U V hX).size (fun k hk e=>by omega)))
  exact⟨⟨Qf,Qg,_,[],rfl,(Ul h0 _).symm,Vw _ _ ac.size,by rw[Yu h0];exact Own.nil _ _ _ _ _⟩,ac⟩)
 have hb:yw I I:=J4 _ _;have aK:=hZ.lt;have aI:=ab.size;clear hG hZ ab;have O:=yh (ad _ (al _ hb));go_wp2_with (refine yV (.tmp 2) (HG _ hb) underlying32 ?_);refine yM O fun w1 ax=>?_;replace hb:=hb.trans (ax.mono hb.size);clear ax O ad;by_cases q0:r=0;rotate_left
 ·obtain rfl:R=r:=by rw[HR.out,M3 q0]
  have q1:(R !=0)=true:=by simpa using q0
  have Q0:=yh q0;clear q0;have aM:=HZ _ hb;go_wp2_with (refine yX 32 (.tmp 4) (.tmp 29) z (Qa Qf Qg) aM ?_);refine yq3 (.tuple #[.agg (Qa Qf Qg),.slice none 0 0,.int .i64 R]) (k:=4) (u:=5) (v:=6) (aM.row _) underlying32 ?_;exact Y _ _ Q0 hb
 have ai:=yh (Zm (az.symm.trans q0));have af:=yh (HR.trans (M2 (by rw[q0];simp)));subst q0;have g9:yI w1 g 9 x.day:=(HG _ hb).cell rfl;by_cases d1:day<0
 ·obtain rfl:R=3:=by rw[af.out,M3 (QM (.inl d1))]
  have an:decide (day<0)=true:=J2 d1;clear d1;have aM:=HZ _ hb;go_wp2_with (refine yX 32 (.tmp 4) (.tmp 29) z (Qa Qf Qg) aM ?_);refine yq3 (.tuple #[.agg (Qa Qf Qg),.slice none 0 0,.int .i64 3]) (k:=4) (u:=5) (v:=6) (aM.row _) underlying32 ?_;exact Y _ _ (by decide) hb
 have an:decide (day<0)=false:=J3 d1;by_cases d2:9999<day
 ·obtain rfl:R=3:=by rw[af.out,M3 (QM (.inr d2))]
  have ao:decide (9999<day)=true:=J2 d2;clear d1 d2;have aM:=HZ _ hb;go_wp2_with (refine yX 32 (.tmp 4) (.tmp 29) z (Qa Qf Qg) aM ?_);refine yq3 (.tuple #[.agg (Qa Qf Qg),.slice none 0 0,.int .i64 3]) (k:=4) (u:=5) (v:=6) (aM.row _) underlying32 ?_;exact Y _ _ (by decide) hb
 have ao:decide (9999<day)=false:=J3 d2;have ak:=yh (af.trans (M2 (by rw[Zg (by omega) (by omega)];simp)));by_cases d3:day≤x.day
 ·obtain rfl:R=4:=by rw[ak.out,M3 d3]
  have ap:decide (day≤x.day)=true:=J2 d3;clear d1 d2 d3;have aM:=HZ _ hb;go_wp2_with (refine yX 32 (.tmp 4) (.tmp 29) z (Qa Qf Qg) aM ?_);refine yq3 (.tuple #[.agg (Qa Qf Qg),.slice none 0 0,.int .i64 4]) (k:=4) (u:=5) (v:=6) (aM.row _) underlying32 ?_;exact Y _ _ (by decide) hb
 have ap:decide (day≤x.day)=false:=J3 d3
 obtain rfl:R=0:=by rw[ak.out,M2 d3]
 have HD:=yh (show 0≤day∧day≤9999 from⟨by omega,by omega⟩);have O:=yh (aj _ (al _ hb) ai);have aG:=hb.size;clear d1 d2 d3;go_wp2_with (refine yV (.tmp 2) (HG _ hb) underlying32 ?_);refine O.mono ?_;rintro e J ⟨F,rfl,aD,ay⟩;obtain⟨Q,Z,aa⟩:=aD;replace hb:=hb.trans (ay.mono hb.size);have au:=aa.bel (Qi J (.cells (Qa x F) 162))
 have ah:Q.heap.size≤J.heap.size:=by obtain⟨_,_,a3,_⟩:=aa;exact a3
 have aJ:w1.heap.size≤Q.heap.size:=by obtain⟨a1,a2,_⟩:=aa;omega
 have O:=yh (am Q Z F J.heap.size _ _ au (Blk.new J (Qa x F) 162) ah ai HD);have HB:=yh (hb.trans ((Qi J (.cells (Qa x F) 162)).mono hb.size));clear aa au ay aj am g9 an ao ap hb;go_wp2_with fail;refine O.mono ?_;rintro e W ⟨v,xs,rfl,ar,av,aw,aq⟩;have aF:=HB.size;have hb:yw I W:=HB.trans (aq.below (B:=I.heap.size) aF (fun k hk e=>by omega));have aM:=HZ _ hb
 have aH:J.heap.size<(J.alloc (.cells (Qa x F) 162)).heap.size:=by simp
 have ae:=yh ar;clear ar;have aA:=yh av;clear av;have aB:=yh aw;clear aq aw O;go_wp2_with (first|(refine wpList_load_row rfl 32 (.tmp 40) rfl J.heap.size rfl 162 _ (0,0) _ aB underlying32 rfl (by kernel_rfl) ?_)|(refine yX 32 (.tmp 4) (.tmp 41) z (Qa (UV x day) F) aM ?_));refine yq3 (.tuple #[.agg (Qa (UV x day) F),v,.int .i64 0]) (k:=4) (u:=5) (v:=6) (aM.row _) underlying32 ?_;have ag:Kept (fun k=>k=z) W (W.setRow z (Qa (UV x day) F)):=(yk z W).setRow (.inl rfl) _;have ac:=((U _ hb).trans (ag.below (B:=w.heap.size) (U _ hb).size (fun k hk e=>by omega)));have aE:SaiO W w1.heap.size (UV x day) F:=⟨Q,Z,aA⟩;exact⟨⟨UV x day,F,v,xs,rfl,(Uf _).symm,(aE.kept ag (fun k hk e=>by omega)).mono (by omega),by rw[QR];exact(ae.keepB ZB (fun j hj=>ag.block j (ae.lt j hj).2 (by have:=(ae.lt j hj).1;omega))).mono Qd (by omega)⟩,ac⟩
def QTc (K:World→Prop) (w w':World) (X:Sai) (l:List Int) (e:Ending):Prop:=∃p' v xs,e=.returned (.tuple #[.agg (Qa X p'),v])∧(∀V,K V→NewSame w w' V→SaiR V X p')∧Own QO 1 3 w' w.heap.size v l xs
theorem NewSame.refl (w w':World):NewSame w w' w':=fun _ _ _=>rfl
theorem Sl.rawS {S:Nat→Prop}{w:World}{A:Option Addr}{n cap:Nat}{L:List (List Value)}(h:Sl (ZY 11) 11 w All A n cap L)(I:∀b U,A=some ⟨b,U,none⟩→b<w.heap.size→S b):Sl (ZY 11) 11 w S A n cap L:=
 ⟨h.len,h.le,h.max,fun i x Q=>by
  obtain⟨b,U,cs,D,_,J,O,E⟩:=h.rd i x Q;have F:=E 0 _ (J1 (by omega))
  exact⟨b,U,cs,D,I b U D (ZT F),J,O,E⟩⟩
theorem VPb (K:World→Prop)(x:Sai)(p:SaiV)(day:Int)(L:List (List Value))(w:World)(bF:∀V V',K V→yw V V'→K V')(ah:∀V,K V→SaiR V x p)(bD:∀V,K V→Pts ZP V L x.bks)(aS:K w)(bH:Sl (ZY 11) 11 w All p.C p.nb p.cb L)
  (ho:OkSai x) (hd:0≤day∧day≤9999) :
  Calls prog 131 #[.agg (Qa x p),.int .i64 day] w fun e w'=>QTc K w w' (UV x day) (Vxa x day) e∧yw w w':=by
 have cl:=yh (fun K k E b A3 n3 c3 Lk V D h2 h3 h4 h5 h6 h7=>Yy K (Q3 x day k) E k b A3 n3 c3 Lk V D h2 h3 h4 h5 h6 h7 (by rw[ZUa];exact ho.bs.len));have bd:=yh (fun k E b A3 n3 c3 V hF hR cx=>UWa (Q3 x day k) E b A3 n3 c3 day V hF hR ho.fares ho.leaves cx hd);have b8:=yh (fun b (Z:b∈x.bks)=>(ho.bs.bk b Z).fol);have hS:=ah w aS;have ae:=yh (show x.bks.length=p.nb from hS.bks.len)
 have cG:p.nb≤16:=by have:=ho.bs.len;have:=ae.out;omega
 have ck:=yh (fun V (F:K V)=>show SaiR V (Q3 x day 0) p from⟨(ah V F).cats,(ah V F).cabs,(ah V F).fares,(ah V F).bks⟩);have cd:=yh bF;have ce:=yh bD;have cf:=yh aS;have cg:=yh bH;clear hS bF ah bD aS bH ho hd;go_enter func131,ntmps131;go_upto_region 0 with(fail);go_cut [2,4,5] (fun p1 p2 p3 I=>∃g z,yp p1 g∧yp p2 z∧p3=.slice none 0 0∧w.heap.size≤g∧w.heap.size≤z∧g≠z∧Blk I g (Qa x p) 32∧Blk I z M9 32∧yw w I)
 case first=>as_aux_lemma=>
  go_wp2_with fail;go_meet;exact⟨_,_,rfl,rfl,rfl,J5 _,by omega,by omega,QE _ _ _,QF _ _ _,Zo _ _ _⟩
 obtain⟨g,z,rfl,rfl,rfl,hg,hz,bV,hG,hZ,aU⟩:=hcut;obtain⟨W0,rfl⟩:=yE wc;have da:=aU.size;have cJ:=hG.lt;have c4:=hZ.lt;have g9:yI W0 g 9 x.day:=hG.cell rfl;have f9:=hG.free 9;have HG:=yh hG;have HZ:=yh hZ;have a6:=yh aU;clear hG hZ aU;go_upto_region 1 with(fail);go_cut [] (fun I=>Blk I g (Qa (Q3 x day 0) p) 32∧Kept (fun j=>j=g) W0 I)
 case first=>as_aux_lemma=>
  go_wp2_with fail;go_meet;exact⟨HG.set (j:=9) _,VX W0 g [(9,.int .i64 day)]⟩
 obtain⟨hG,ay⟩:=hcut;obtain⟨U,rfl⟩:=yE wc;have cR:=ay.size;have am:yw w U:=a6.trans (ay.below (B:=w.heap.size) a6.size (fun k hk e=>by omega));have cB:=am.size;have HT:=yh (fun X (hX:Kept (fun j=>j=g) U X)=>am.trans (hX.below (B:=w.heap.size) am.size (fun k hk e=>by omega)));have ak:=yh (fun X (hX:Kept (fun j=>j=g) U X)=>cd w X cf (HT X hX));have cp:=yh (HZ.kept ay (fun e=>bV e.symm));have cq:=yh (fun X (hX:Kept (fun j=>j=g) U X)=>cp.kept hX (fun e=>bV e.symm))
 have cK:g<U.heap.size:=by omega
 have b9:=yh hG;have c8:=yh am;clear g9 f9 hG ay HG HZ am;go_wp2_with fail
 go_loopg [6,7] p.nb (fun gk v i wr=>∃(k:Nat) (E:SaiV) (Lk:List (List Value)) (ys:List Value) (vo:Value) (Q:Nat→Prop),k≤p.nb∧p.nb-k≤gk∧i=.int .i64 k∧vo=v∧Own QO 1 3 wr U.heap.size vo (X6 x day k) ys∧Blk wr g (Qa (Q3 x day k) E) 32∧E.nb=p.nb∧Sl (ZY 11) 11 wr (fun b=>vo.ownBlock≠some b) E.C E.nb E.cb Lk∧(∀j,Q j→U.heap.size≤j∧j<wr.heap.size∧vo.ownBlock≠some j)∧(∀V,K V→(∀j,Q j→V.heap[j]? = wr.heap[j]?)→SaiR V (Q3 x day k) E∧Pts ZP V Lk (Q3 x day k).bks)∧Kept (fun j=>j=g) U wr)
 case atStart=>exact⟨0,p,L,[],_,fun _=>False,M0 _,by omega,rfl,rfl,Own.nil _ _ _ _ _,b9,rfl,(cg.bel c8).rawS (fun b ai _ _ e=>by simp[Value.ownBlock]at e),fun j h=>h.elim,fun V F _=>⟨ck V F,ce V F⟩,Kept.refl _ _⟩
 case round=>
  obtain⟨k,E,Lk,ys,vo,Q,hk,cI,rfl,rfl,hO,hG,ao,aF,hQ,hI,hK⟩:=hrel;obtain⟨V1,rfl⟩:=yE wr;have db:=hK.size;by_cases c6:k<p.nb
  ·obtain⟨b,Z⟩:∃b,x.bks[k]? = some b:=⟨_,J1 (by have:=ae.out;omega)⟩;have aW:=Vi (day:=day) Z;obtain⟨ab,ai,cs,hA,bG,cz,bQ⟩:=ZMa (k:=k) (aF.all (QW 11) (by omega)) (by omega);obtain⟨A3,n3,c3,rfl,bB,bR⟩:=Qda (K:=fun V=>K V∧∀j,Q j→V.heap[j]? = V1.heap[j]?) (fun V F=>(hI V F.1 F.2).2) bG aW ⟨ak _ hK,fun _ _=>rfl⟩
   have br:V1.cell? ⟨g,11,none⟩=some (.slice (some ⟨ab,ai,none⟩) p.nb E.cb):=by rw[←hA,←ao];exact hG.cell rfl
   obtain⟨st,a1⟩:=yE b.state;obtain⟨ti,a2⟩:=yE b.til;have cO:(0:Int)≤(k:Int):=Int.natCast_nonneg _
   have cP:(k:Int)<(p.nb:Int):=by omega
   obtain⟨lo,aZ⟩:=yE (Xp day b);have aK:=yh (show lo=(decide (st=1) && decide (ti<day))by rw[aZ,a1,a2];rfl);have HM:=yh (show V1.rangeAt ab (ai+k*11) (Qk b (.slice A3 n3 c3)).toList from bQ);have b6:=yh (b8 b (J6 Z));have bj:=yh ao;have HA:=yh hA;have cn:=yh a1;have aw:=yh a2;have bg:=yh bB;have b7:=yh bR;have bi:=yh aZ;clear aZ;have HB:=yh Z;clear Z;have cE:=yh aW;clear aW;have HO:=yh hO;clear hO;have HG:=yh hG;clear hG;have bl:=yh aF;clear aF;have HQ:=yh hQ;clear hQ;have HI:=yh hI;clear hI;have HK:=yh hK;clear hK;clear ao hA bG cz bQ bB bR a1 a2;go_upto_region 6 with(fail);go_cut [8] (fun p I=>∃h,yp p h∧V1.heap.size≤h∧Blk I h (Qk b (.slice A3 n3 c3)) 63∧yw V1 I)
   case first=>
    go_wp2_with (first|(refine wpList_load_mid rfl 63 (.tmp 23) rfl ab (ai+k*11) rfl _ _ HM underlying63 rfl (by kernel_rfl) ?_)|(refine wpList_store_row rfl 63 (.tmp 8) (.tmp 24) rfl V1.heap.size (Qk b (.slice A3 n3 c3)) rfl rfl 63 _ (Blk.new V1 M8 63) (by kernel_rfl) rfl (Ud _ _ _ _) ?_));go_meet;exact⟨_,rfl,J5 _,(Blk.new V1 _ _).row _,M5 (Qi V1 _) (J5 _) _⟩
   obtain⟨h,rfl,hh,hH,aV⟩:=hcut;obtain⟨W,rfl⟩:=yE wc;have cS:=aV.size;have cN:=hH.lt
   have c2:W.cell? ⟨h,2,none⟩=some (.int .i64 st):=by rw[cn.out];exact hH.cell rfl
   have c9:W.cell? ⟨h,9,none⟩=some (.int .i64 ti):=by rw[aw.out];exact hH.cell rfl
   have HH:=yh hH;clear hH;have ac:=yh aV;clear aV;clear br HM;go_upto_region 7 with(fail);go_cut [33] (fun q I=>q=.bool (!lo)∧W=I)
   case first=>as_aux_lemma=>
    by_cases q1:st=1
    ·by_cases q2:ti<day
     ·obtain rfl:lo=true:=by rw[aK.out,J2 q1,J2 q2];rfl
      have q3:decide (day≤ti)=false:=J3 (by omega);subst q1;go_wp2_with fail;go_meet;exact⟨rfl,rfl⟩
     ·obtain rfl:lo=false:=by rw[aK.out,J2 q1,J3 q2];rfl
      have q3:decide (day≤ti)=true:=J2 (by omega);subst q1;go_wp2_with fail;go_meet;exact⟨rfl,rfl⟩
    ·obtain rfl:lo=false:=by rw[aK.out,J3 q1];rfl
     have q3:(st !=1)=true:=by simpa using q1
     clear q1;go_wp2_with fail;go_meet;exact⟨rfl,rfl⟩
   obtain⟨rfl,rfl⟩:=hcut;clear c2 c9;cases lo
   ·obtain⟨e1,e2⟩:=VAa HB bi.symm;have aj:=yh e1;have aH:=yh e2;clear e1 e2;go_wp2_with fail;go_roundg (p.nb-(k+1))
    case measure=>omega
    case rel=>exact⟨k+1,E,Lk,ys,vo,Q,by omega,by omega,by go_num,rfl,by rw[aH.out];exact HO.bel ac,by rw[aj.out];exact HG.bel ac,bj,bl.keep (QW 11) (by omega) (fun b Z c6=>⟨ac.block b c6,Z⟩),fun j A=>⟨(HQ j A).1,by have:=(HQ j A).2.1;omega,(HQ j A).2.2⟩,fun V F hS=>by rw[aj.out];exact HI V F (fun j A=>(hS j A).trans (ac.block j (HQ j A).2.1)),HK.trans (Kept.of_below ac (fun q D h2=>absurd D (by omega)))⟩
   obtain⟨e1,e2⟩:=Vya HB bi.symm;have aj:=yh e1;have aH:=yh e2;have c0:yI W h 0 b.id:=HH.cell rfl
   have cy:(X6 x day k).length≤16:=by
    unfold X6;rw[List.length_map];have:=List.length_filter_le (Xp day) (x.bks.take k);rw[J8]at this;have:=ae.out;omega
   have bP:((X6 x day k).length+1)*8≤140737488355328:=by omega
   have bI:=HO.bel ac;have aM:=yh (bI.bel (Qi W (.cells #[.int .i64 b.id] 3)))
   have bZ:U.heap.size≤(W.alloc (.cells #[.int .i64 b.id] 3)).heap.size:=by simp;omega
   have bn:=yh (QLa W All b.id 3 bg.id trivial)
   have bA:∀s,vo.ownBlock=some s→s≠h:=fun s hs e=>by have:=(HO.lt s hs).2;omega
   have bT:∀s,vo.ownBlock=some s→s≠g:=fun s hs e=>by have:=(HO.lt s hs).1;omega
   have bf:=yh (HH.bel (Qi W (.cells #[.int .i64 b.id] 3)));have bc:=yh ((HG.bel ac).bel (Qi W (.cells #[.int .i64 b.id] 3)));have bm:=yh ((bl.keep (QW 11) (by omega) (fun bq Z c6=>⟨ac.block bq c6,Z⟩):Sl (ZY 11) 11 W (fun b=>vo.ownBlock≠some b) E.C E.nb E.cb Lk).keep (QW 11) (by omega) (fun bq Z c6=>⟨(Qi W (.cells #[.int .i64 b.id] 3)).block bq c6,Z⟩):Sl (ZY 11) 11 (W.alloc (.cells #[.int .i64 b.id] 3)) (fun b=>vo.ownBlock≠some b) E.C E.nb E.cb Lk);clear e1 e2 bI cy;go_upto_region 8 with(fail);go_cut [6] (fun v' I=>∃(vn:Value) (zs:List Value),vn=v'∧Own QO 1 3 I U.heap.size vn (X6 x day k++[b.id]) zs∧(vn.ownBlock=vo.ownBlock∨∀s,vn.ownBlock=some s→V1.heap.size≤s)∧Blk I h (Qk b (.slice A3 n3 c3)) 63∧Blk I g (Qa (Q3 x day k) E) 32∧Sl (ZY 11) 11 I (fun b=>vo.ownBlock≠some b∧vn.ownBlock≠some b) E.C E.nb E.cb Lk∧(∀j,j<V1.heap.size→vo.ownBlock≠some j→I.heap[j]? = V1.heap[j]?)∧W.heap.size≤I.heap.size∧Kept (fun j=>U.heap.size≤j) W I)
   case first=>
    go_wp2_with (at_builtin;refine QC (t:=70) (e:=3) (bytes:=8) rfl (.tmp 34) (.tmp 37) rfl Uv Qd rfl aM rfl bn (fun _ _ hc=>hc) bP (by omega) bZ ?_;intro v' w' cC bW bS bM;have ch:=yh bW;have aa:=yh bS;have a5:=yh bM;clear bW bS bM);go_meet
    have cY:W.heap.size<(W.alloc (.cells #[.int .i64 b.id] 3)).heap.size:=by simp
    have ct:Kept (fun j=>U.heap.size≤j) (W.alloc (.cells #[.int .i64 b.id] 3)) w':=⟨aa.os,aa.tape,aa.output,aa.size,fun j A hn=>aa.block j A (fun e=>hn (by have:=(aM.lt j e.symm).1;omega))⟩;have cZ:=aa.size;refine⟨v',cC,rfl,ch,?_,bf.grown aa (fun e=>bA h e.symm rfl),bc.grown aa (fun e=>bT g e.symm rfl),bm.keep (QW 11) (by omega) (fun b Z c6=>⟨aa.block b c6 (fun e=>Z e.symm),Z,?_⟩),fun j A hn=>(aa.block j (by omega) (fun e=>hn e.symm)).trans (((Qi W _).block j (by omega)).trans (ac.block j A)),by omega,((Kept.refl (fun j=>U.heap.size≤j) W).alloc _).trans ct⟩
    ·rcases a5.out with e|e
     ·exact .inl e
     ·exact .inr fun s hs=>by rw[e]at hs;injection hs with hs;omega
    ·rcases a5.out with e|e
     ·rw[e];exact Z
     ·rw[e];intro h2;injection h2 with h2;omega
   obtain⟨vn,zs,rfl,bJ,b3,bx,bv,b0,a0,cT,bC⟩:=hcut;obtain⟨V3,rfl⟩:=yE wc;have aB:Kept (fun j=>j=g) U V3:=((HK.mono (T:=fun j=>j=g∨U.heap.size≤j) (fun _ _ e=>.inl e)).trans ((Kept.of_below ac (fun q D h2=>absurd D (by omega))).trans (bC.mono (fun _ _ e=>.inr e)))).mono (fun j A e=>by omega);obtain⟨Y,ag⟩:=yE (ZV (Q3 x day k) b day);obtain⟨gb,aY⟩:=yE (VR (Q3 x day k) b day);have ba:=yh (fun V (F:K V) (cv:∀j,Q j→V.heap[j]? = V1.heap[j]?)=>b7 V ⟨F,cv⟩);have aN:=yh (show ∀j,Q j→V3.heap[j]? = V1.heap[j]? from fun j A=>a0 j (HQ j A).2.1 (HQ j A).2.2);have b2:=(HI V3 (ak _ aB) aN).1;have aJ:=yh (fun V (hX:yw V3 V)=>bd k E b A3 n3 c3 V ((ba V3 (ak _ aB) aN).bel hX) (b2.fares.below hX) b6)
   have aa:=yh (show ∀V V' e,V4a V V' (Q3 x day k) b day A3 n3 c3 e→∃(b':Bkg) (J:Option Addr) (n5 O:Nat),e=.returned (.tuple #[.agg (Qk b' (.slice J n5 O)),.int .i64 Y])∧(¬Y=0→b'=b∧J=A3∧n5=n3∧O=c3)∧
    (Y=0→b'=gb∧∃xs,Own Qm 3 140 V' V.heap.size (.slice J n5 O) b'.fol xs)from fun V V' e h=>by
     obtain⟨b',J,n5,O,D,h3,h2⟩:=h
     exact⟨b',J,n5,O,by rw[ag];exact D,by rw[ag];exact h3,by rw[ag,aY];exact h2⟩)
   have bp:=yh (show ¬Y=0→Ua x day b={ b with state:=3,til:=0 }from fun h=>by unfold Ua;rw[M2 (show ¬ZV x b day=0 from fun h2=>h (ag.trans h2))]);have c7:=yh (show Y=0→Ua x day b=gb from fun h=>by unfold Ua;rw[M3 (show ZV x b day=0 from ag.symm.trans h),aY];rfl);have be:=yh bx;have aL:=yh bJ;clear bJ;have co:=yh b3;clear b3;have aI:=yh bv;have cm:=yh b0;clear b0;have cF:=yh a0;clear a0;have ar:=yh aB;clear bv bx bC aB b2 aM bf bc bm bn bP bZ bA bT c0 ag aY bd;go_upto_region 9 with(fail);go_cut [9,10] (fun q q2 I=>∃(h9:Nat) (b5:Bkg) (J:Option Addr) (n5 O:Nat),yp q h9∧q2=.int .i64 Y∧V3.heap.size≤h9∧Blk I h9 (Qk b5 (.slice J n5 O)) 63∧(¬Y=0→b5=b∧J=A3∧n5=n3∧O=c3)∧(Y=0→b5=gb∧∃xs,Own Qm 3 140 I V3.heap.size (.slice J n5 O) b5.fol xs)∧yw V3 I)
   case first=>
    have ca:=yh (aI.bel (J4 V3.heap.size V3));go_wp2_with (first|(refine yV (.tmp 2) aI underlying32 ?_)|(refine yV (.tmp 8) be underlying63 ?_));refine(aJ _ (J4 _ _)).mono ?_;rintro e w8 ⟨bU,bN⟩;obtain⟨b5,J,n5,O,rfl,an,ap⟩:=aa _ _ _ bU;have au:=yh an;have af:=yh ap;have aG:=yh bN;clear bN;clear bU an ap aJ aa ca;go_wp2_with (refine wpList_store_row rfl 63 (.tmp 9) (.tmp 44) rfl w8.heap.size (Qk b5 (.slice J n5 O)) rfl rfl 63 _ (Blk.new w8 M8 63) (by kernel_rfl) rfl (Ud _ _ _ _) ?_);go_meet;have bO:yw w8 ((w8.alloc (.cells M8 63)).setRow w8.heap.size (Qk b5 (.slice J n5 O))):=M5 (Qi w8 _) (J5 _) _;exact⟨_,b5,J,n5,O,rfl,rfl,aG.size,(Blk.new w8 _ _).row _,au,fun h0=>⟨(af h0).1,_,(af h0).2.choose_spec.bel bO⟩,aG.trans (bO.mono aG.size)⟩
   obtain⟨h9,b5,J,n5,O,rfl,rfl,cM,aQ,an,ap,aX⟩:=hcut;obtain⟨V5,rfl⟩:=yE wc;have cU:=aX.size;have cH:=aQ.lt;have au:=yh an;clear an;have af:=yh ap;clear ap;have ad:=yh aQ;have a7:=yh aX;clear aX;clear aQ aJ aa be;go_upto_if 47 with(fail);go_cut [] (fun I=>Blk I h9 (Qk (Ua x day b) (.slice J n5 O)) 63∧Kept (fun j=>j=h9) V5 I)
   case first=>
    by_cases q1:Y=0
    ·have q2:(Y !=0)=false:=by simpa using q1
     have av:=yh q1;clear q1;go_wp2_with fail;go_meet;exact⟨by rw[c7.out av.out,←(af.out av.out).1];exact ad,Kept.refl _ _⟩
    ·have q2:(Y !=0)=true:=by simpa using q1
     have av:=yh q1;obtain⟨rfl,-,-,-⟩:=au q1;have c2:yI V5 h9 2 b5.state:=ad.cell rfl;have c9:yI V5 h9 9 b5.til:=ad.cell rfl;have f2:=ad.free 2;have f9:=ad.free 9;clear q1;go_wp2_with fail;go_meet;exact⟨by rw[bp.out av.out];exact(ad.set (j:=2) _).set (j:=9) _,VX V5 h9 [(2,.int .i64 3),(9,.int .i64 0)]⟩
   obtain⟨bz,al⟩:=hcut;obtain⟨V6,rfl⟩:=yE wc;have cV:=al.size;have az:∀j,j<V3.heap.size→V6.heap[j]? = V3.heap[j]?:=fun j A=>(al.block j (by omega) (by omega)).trans (a7.block j A);have aR:Kept (fun j=>j=g) U V6:=((ar.mono (T:=fun j=>j=g∨U.heap.size≤j) (fun _ _ e=>.inl e)).trans ((Kept.of_below a7 (fun q D h2=>absurd D (by omega))).trans (al.mono (fun j _ e=>.inr (by have:=ar.size;omega))))).mono (fun j A e=>by omega);have aO:=yh (show ∀j,Q j→V6.heap[j]? = V1.heap[j]? from fun j A=>(az j (by have:=(HQ j A).2.1;omega)).trans (aN j A))
   have aq:=yh (show Y=0→∀j,(Value.slice J n5 O).ownBlock=some j→V3.heap.size≤j∧j<V5.heap.size∧V6.heap[j]? = V5.heap[j]? from fun h0 j A=>by
    obtain⟨_,cD,aD⟩:=af h0;have D:=aD.lt j A
    exact⟨D.1,D.2,al.block j D.2 (fun e=>aD.neTy ad (by decide) (by rw[A,e]))⟩)
   have a9:=yh (show ∀V,K V→(∀j,Q j∨(Y=0∧(Value.slice J n5 O).ownBlock=some j)→V.heap[j]? = V6.heap[j]?)→Sl Qm 3 V All J n5 O (Ua x day b).fol from fun V F hS=>by
    by_cases h0:Y=0
    ·obtain⟨D,cD,aD⟩:=af h0;rw[c7.out h0,←D];exact(aD.keepB Zb (fun j A=>(hS j (.inr ⟨h0,A⟩)).trans (aq h0 j A).2.2)).slAll Qb Qb (by omega) (fun h=>h) rfl
    ·obtain⟨_,rfl,rfl,rfl⟩:=au h0;rw[bp.out h0]
     exact ba V F (fun j A=>(hS j (.inl A)).trans (aO j A)))
   have aw:=yh (show BkIn (Ua x day b)from by
    have hi:=bg.out;unfold Ua
    split
    ·exact⟨hi.id,hi.kind,show InI 3 from .of (by decide) (by decide),hi.gst,hi.cab,hi.cat,hi.frm,hi.upto,UJ⟩
    ·exact⟨hi.id,hi.kind,show InI 3 from .of (by decide) (by decide),hi.gst,hi.cab,hi.cat,hi.frm,hi.upto,UJ⟩)
   have b1:Sl (ZY 11) 11 V6 All E.C E.nb E.cb Lk:=(((cm.all (QW 11) (by omega)).rawS (S:=fun b=>b<V3.heap.size) (fun b ai _ c6=>c6)).keep (QW 11) (by omega) (S':=fun _=>True) (fun b Z _=>⟨az b Z,trivial⟩)).all (QW 11) (by omega)
   have HC:=yh (cl (fun V=>K V∧∀j,Q j∨(Y=0∧(Value.slice J n5 O).ownBlock=some j)→V.heap[j]? = V6.heap[j]?) k E (Ua x day b) J n5 O Lk V6 (fun V F=>(HI V F.1 (fun j A=>(F.2 j (.inl A)).trans (aO j A))).1) (fun V F=>(HI V F.1 (fun j A=>(F.2 j (.inl A)).trans (aO j A))).2)
    (fun V F=>a9 V F.1 F.2) ⟨ak _ aR,fun _ _=>rfl⟩ b1 aw (by rw[ZUa,ae.out];exact c6))
   have aP:Blk V6 g (Qa (Q3 x day k) E) 32:=(az g (by omega)).trans aI;have bb:=yh aP;have cc:=yh bz;have bh:=yh aR;have cL:=aP.lt;clear bz al aR aP b1 a9 aw;go_wp2_with (first|(refine yV (.tmp 2) bb underlying32 ?_)|(refine yV (.tmp 9) cc underlying63 ?_));refine HC.mono ?_;rintro e w7 ⟨q,p',rfl,cQ,cA,bL,bY,bX,aE⟩;have bw:=bb.bel aE;have cW:=aE.size;have bo:=yh bL;clear bL;have a8:=yh aE;have cj:=yh bY;have ci:=yh bX;clear HC aE bY bX;go_wp2_with (refine yX 32 (.tmp 2) (.tmp 53) g (Qa (QT (Q3 x day k) k (Ua x day b)) p') bw ?_);go_roundg (p.nb-(k+1))
   case measure=>omega
   case rel=>
    obtain⟨w8,a4⟩:=yE (w7.setRow g (Qa (QT (Q3 x day k) k (Ua x day b)) p'))
    have aA:Kept (fun j=>j=g) w7 w8:=by rw[a4];exact(yk g w7).setRow (.inl rfl) _
    have cr:Blk w8 g (Qa (QT (Q3 x day k) k (Ua x day b)) p') 32:=by rw[a4];exact bw.row _
    rw[←a4];have cX:=aA.size;have bt:∀j,j<V6.heap.size→j≠g→w8.heap[j]? = V6.heap[j]?:=fun j A hn=>(aA.block j (by omega) hn).trans (a8.block j A);have bE:Kept (fun j=>j=g) U w8:=bh.trans ((Kept.of_below a8 (fun q D h2=>absurd D (by omega))).trans aA)
    have bK:∀V:World,(∀j,(Q j∨(Y=0∧(Value.slice J n5 O).ownBlock=some j))∨j=q→V.heap[j]? = w8.heap[j]?)→(∀j,Q j∨(Y=0∧(Value.slice J n5 O).ownBlock=some j)→V.heap[j]? = V6.heap[j]?)∧V.heap[q]? = w7.heap[q]?:=fun V hS=>⟨fun j A=>(hS j (.inl A)).trans (bt j (by
      rcases A with D|⟨h0,D⟩
      ·have:=(HQ j D).2.1;omega
      ·have:=(aq h0 j D).2.1;omega) (by
      rcases A with D|⟨h0,D⟩
      ·have:=(HQ j D).1;omega
      ·have:=(aq h0 j D).1;have:=ar.size;omega)),(hS q (.inr rfl)).trans (aA.block q cA (by omega))⟩
    have h8:=bK w8 (fun _ _=>rfl);have cw:=bo w8 ⟨ak _ bE,h8.1⟩ h8.2;have aT:Own QO 1 3 V6 U.heap.size vn (X6 x day k++[b.id]) zs:=aL.keepB ZB (fun j A=>az j (aL.lt j A).2);have cu:Own QO 1 3 w8 U.heap.size vn (X6 x day k++[b.id]) zs:=aT.keepB ZB (fun j A=>bt j (aT.lt j A).2 (by have:=(aT.lt j A).1;omega));have a3:∀j,vn.ownBlock=some j→j<V3.heap.size:=fun j A=>(aL.lt j A).2;refine⟨k+1,p',_,zs,vn,fun j=>(Q j∨(Y=0∧(Value.slice J n5 O).ownBlock=some j))∨j=q,by omega,by omega,by go_num,rfl,by rw[aH.out];exact cu,by rw[aj.out];exact cr,cj.trans bj,cw.2.2.rawS (fun b' ai ax _ e=>?_),fun j A=>?_,fun V F hS=>?_,bE⟩
    ·rw[ci.out]at ax;injection ax with ax;injection ax with D;have:=a3 b' e;omega
    ·rcases A with(D|⟨h0,D⟩)|rfl
     ·refine⟨(HQ j D).1,by have:=(HQ j D).2.1;omega,fun e=>?_⟩;rcases co.out with h2|h2
      ·exact(HQ j D).2.2 (by rw[←h2];exact e)
      ·have:=h2 j e;have:=(HQ j D).2.1;omega
     ·have h2:=aq h0 j D;exact⟨by have:=ar.size;omega,by omega,fun e=>by have:=a3 j e;omega⟩
     ·exact⟨by have:=bh.size;omega,by omega,fun e=>by have:=a3 j e;omega⟩
    ·have bu:=bK V hS;rw[aj.out];have:=bo V ⟨F,bu.1⟩ bu.2;exact⟨this.1,this.2.1⟩
  ·obtain rfl:k=p.nb:=by omega
   rw[←ae.out,XHa]at hG hI;rw[←ae.out,YQa]at hO;have b4:=cq _ hK
   have br:V1.cell? ⟨g,11,none⟩=some (.slice E.C p.nb E.cb):=by rw[←ao];exact hG.cell rfl
   have HG:=yh hG;clear ao;have HO:=yh hO;clear hO;have HI:=yh hI;clear hI;have HQ:=yh hQ;clear hQ;have HK:=yh hK;clear hK;clear hG aF;go_wp2_with (first|(refine yV (.tmp 2) HG underlying32 ?_)|(refine yX 32 (.tmp 4) (.tmp 54) z (Qa (UV x day) E) b4 ?_));refine yq2 (.tuple #[.agg (Qa (UV x day) E),vo]) (k:=4) (u:=5) (b4.row _) underlying32 ?_;have aC:Kept (fun j=>j=z) V1 (V1.setRow z (Qa (UV x day) E)):=(yk z V1).setRow (.inl rfl) _;have c1:=aC.size
   have dc:z<U.heap.size:=by omega
   refine⟨⟨E,vo,ys,rfl,fun V F hN=>(HI V F (fun j A=>?_)).1,?_⟩,?_⟩
   ·have D:=HQ j A;exact(hN j (by omega) (by omega)).trans (aC.block j D.2.1 (by omega))
   ·exact(HO.keepB ZB (fun j A=>aC.block j (HO.lt j A).2 (by have:=(HO.lt j A).1;omega))).mono Qd cB
   ·exact(HT _ HK).trans (aC.below (B:=w.heap.size) (HT _ HK).size (fun k hk e=>by omega))
end Go.Proofs.YtjdcokpmgionjaaGreat
