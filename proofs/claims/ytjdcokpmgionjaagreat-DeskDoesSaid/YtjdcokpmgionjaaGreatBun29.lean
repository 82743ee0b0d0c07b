/-
  Laws and contracts.
-/
import Derived.Test.YtjdcokpmgionjaaGreatBun0
import Derived.Test.YtjdcokpmgionjaaGreatRows
import Derived.ProofKit
import Derived.OpenShut
import Derived.ShutString
import Derived.ChangeOld
import Derived.Deep.Slices
set_option linter.unusedSimpArgs false
set_option linter.unusedVariables false
set_option maxRecDepth 100000
set_option maxHeartbeats 20000000
namespace Go.Proofs.YtjdcokpmgionjaaGreat
open Go.ChangeShapes Go.WideShapes Go.ChangeAt Go.RowKit
theorem own:ownKnob Tryz.prog.godebug=none:=by kernel_rfl
theorem Zsb:laidOutB Tryz.prog=true:=by kernel_rfl
theorem InI.of_wf {n:Int}(h:(Lit.int .i64 n).wf=true):InI n:=bounds_i64 h
def Vx {α:Type} (c:Cod α) (t:TypeId):Prop:=
 ∀{H:Type} {enc:TypeId×Value→H} {W:World} {base:Nat} {spare:Nat→Bool} {held:Bool} {fuel:Nat} {cs:List Value} {x:DataW H×List MemPlace},DataW.trod enc Tryz.prog W base (fun b=>spare b) held fuel t cs=some x→∃a,c W All a cs
theorem V0a {t:TypeId}(A:Tryz.prog.underlying t=some (.int .i64)):Vx QM t:=fun h=>by
 obtain⟨n,rfl,_,D⟩:=DataW.trod_int A h;exact⟨n,rfl,.of_wf D⟩
theorem QHb {t:TypeId}(A:Tryz.prog.underlying t=some .bool):Vx Zgb t:=fun h=>by
 obtain⟨n,rfl,_⟩:=DataW.trod_bool A h;exact⟨n,rfl⟩
theorem Vq {α:Type}{c:Cod α}{size:Nat}{t e:TypeId}(ht:Tryz.prog.underlying t=some (.slice e))(hs:Tryz.prog.cellsOf e=size)(U:0 < size)(he:Vx c e):Vx (slC c size) t:=by
 intro H enc W base ar ao am cs x h;rcases Deep.open_slice ht h with⟨rfl,_⟩ | ⟨a,E,cap,m,n,D,Pl,rfl,_,hl,hm,aj,_,hi⟩
 ·exact⟨[],none,0,0,rfl,Sl.nil _ _ _ _⟩
 ·have aq:E≤m:=by rw[aj];split<;>omega
  have ac:∀i:Fin E,∃Q:α,∃b au A,a=⟨b,au,none⟩∧c W All Q A∧A.length=size∧∀j u,A[j]? = some u→W.cell? ⟨b,au+i.1*size+j,none⟩=some u:=fun i=>by
   obtain⟨A,I,ak⟩:=hi i.1 (by omega);obtain⟨Q,ae⟩:=he ak;rw[hs]at I;obtain⟨_,J,Y⟩:=World.cells?_some I
   have ab:a.spot=none:=by
    have F:=Y 0 U;rw[List.getElem?_eq_getElem (by omega)]at F;have h1:=World.cell?_spot F;simp only[Addr.add]at h1;by_cases hi0:i.1*size=0
    ·simpa [hi0] using h1
    ·have h2:=World.cell?_spot F;have ap:0 < size:=U;obtain⟨al,Z,_⟩:=hi 0 (by have:=i.2;omega);rw[hs]at Z;obtain⟨_,an,ag⟩:=World.cells?_some Z;have V:=ag 0 U;rw[List.getElem?_eq_getElem (by omega)]at V;have ad:=World.cell?_spot V
     simpa [Addr.add] using ad
   obtain⟨b,au,sp⟩:=a;simp only at ab;subst ab;refine⟨Q,b,au,A,rfl,ae,J,fun j u hu=>?_⟩
   have hj:j < size:=by rw[←J];exact(List.getElem?_eq_some_iff.1 hu).1
   have X:=(Y j hj).trans hu
   have af:((⟨b,au,none⟩:Addr).add (i.1*size)).add j=⟨b,au+i.1*size+j,none⟩:=by
    rw[Deep.add_add]
    generalize i.1*size=q
    unfold Addr.add
    split
    ·next F=>simp only[Addr.mk.injEq,true_and,and_true];omega
    ·simp only[Addr.mk.injEq,true_and,and_true];omega
   rw[af]at X;exact X
  have ai:∃f:Fin E→α,∀i,∃b au A,a=⟨b,au,none⟩∧c W All (f i) A∧A.length=size∧∀j u,A[j]? = some u→W.cell? ⟨b,au+i.1*size+j,none⟩=some u:=
   ⟨fun i=>Classical.choose (ac i),fun i=>Classical.choose_spec (ac i)⟩
  obtain⟨f,hf⟩:=ai;refine⟨List.ofFn f,some a,E,cap,rfl,by simp,hl,hm,fun i y O=>?_⟩
  have aa:i < E:=by have:=(List.getElem?_eq_some_iff.1 O).1;simpa using this
  rw[List.getElem?_eq_getElem (by simpa using aa)]at O;simp only[List.getElem_ofFn,Option.some.injEq]at O;obtain⟨b,au,A,ha,I,J,ah⟩:=hf ⟨i,aa⟩;rw[←O,ha];exact⟨b,au,A,rfl,trivial,I,J,ah⟩
section
variable {H:Type} {enc:TypeId×Value→H} {W:World} {base:Nat} {t:TypeId} {v:Value} {d:DataW H} {p:List MemPlace}
set_option maxRecDepth 100000 in
theorem Zeb {α:Type}{c:Cod α}{A:Array Field}(F:Tryz.prog.underlying t=some (.struct A))(D:Vx c t)(I:Value.okWide Tryz.prog W .any base t v)
  (h:DataW.Trod enc Tryz.prog W 0 (fun _=>true) true t v d p):∃cs x,v=.agg cs∧c W All x cs.toList:=by
 obtain⟨cs,rfl,_⟩:=okWide_struct F I;obtain⟨O,E⟩:=h;obtain⟨x,J⟩:=D E;exact⟨cs,x,rfl,by simpa [Value.cells] using J⟩
set_option maxRecDepth 100000 in
theorem Vdb (h:DataW.Trod enc Tryz.prog W 0 (fun _=>true) true t v d p):∀x∈p,x.block < W.heap.size:=by
 obtain⟨m,A⟩:=h;exact DataW.trod_lt m _ _ _ A
end
end Go.Proofs.YtjdcokpmgionjaaGreat
