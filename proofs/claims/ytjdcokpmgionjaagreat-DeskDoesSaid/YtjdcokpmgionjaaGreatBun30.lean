/-
  Laws and contracts.
-/
import Derived.Test.YtjdcokpmgionjaaGreatBun2
import Derived.Test.YtjdcokpmgionjaaGreatBun29
set_option linter.unusedSimpArgs false
set_option linter.unusedVariables false
set_option maxRecDepth 100000
set_option maxHeartbeats 20000000
namespace Go.Proofs.YtjdcokpmgionjaaGreat
open Proofs.Tryz Go.ChangeShapes Go.WideShapes Go.ChangeAt Go.RowKit
theorem ZFa:Vx Xo 51:=by
 intro H enc W base X Y V cs x h;obtain⟨xs,n,_,_,J,O,I⟩:=DataW.trod_struct underlying51 h;rw[show Tryz.prog.cellsOf 51=2 by kernel_rfl]at J
 match xs,O with
 | [y0,y1],_=>
  match cs,J with
  | [c0,c1],_=>
   have E:=I 0 _ rfl;have F:=I 1 _ rfl;simp[show Tryz.prog.cellsOf 3=1 by kernel_rfl]at E F;obtain⟨a,A,_,Q⟩:=DataW.trod_int underlying3 E;obtain⟨b,D,_,U⟩:=DataW.trod_int underlying3 F;simp at A D;subst A D;exact⟨⟨a,b⟩,rfl,.of_wf Q,.of_wf U⟩
theorem V1a {t:TypeId}(A:Tryz.prog.underlying t=some .string):Vx Vqa t:=fun h=>by
 obtain⟨n,rfl,_,D⟩:=DataW.trod_string A h;refine⟨n.data.toList,?_,by simpa using D⟩;simp
theorem QJb:Vx UI 134:=by
 intro H enc W base X Z V cs x h;obtain⟨xs,n,_,_,J,U,I⟩:=DataW.trod_struct underlying134 h;rw[show Tryz.prog.cellsOf 134=2 by kernel_rfl]at J
 match xs,U with
 | [y0,y1],_=>
  match cs,J with
  | [c0,c1],_=>
   have E:=I 0 _ rfl;have F:=I 1 _ rfl;simp[show Tryz.prog.cellsOf 9=1 by kernel_rfl,show Tryz.prog.cellsOf 70=1 by kernel_rfl]at E F;obtain⟨s,Y,Q⟩:=V1a underlying9 E;obtain⟨L,A,m,cap,D,O⟩:=Vq (size:=1) underlying70 (by kernel_rfl) (by omega) (V0a underlying3) F;simp at Y D;subst Y D;exact⟨⟨s,L⟩,_,_,_,rfl,O,Q⟩
theorem QIb:Vx Uj 136:=by
 intro H enc W base ac ab aa cs x h;obtain⟨xs,n,_,_,V,X,D⟩:=DataW.trod_struct underlying136 h;rw[show Tryz.prog.cellsOf 136=4 by kernel_rfl]at V
 match xs,X with
 | [y0,y1,y2,y3],_=>
  match cs,V with
  | [c0,c1,c2,c3],_=>
   have J:=D 0 _ rfl;have O:=D 1 _ rfl;have Q:=D 2 _ rfl;have U:=D 3 _ rfl;simp[show Tryz.prog.cellsOf 9=1 by kernel_rfl,show Tryz.prog.cellsOf 3=1 by kernel_rfl,show Tryz.prog.cellsOf 4=1 by kernel_rfl]at J O Q U;obtain⟨s,E,hs⟩:=V1a underlying9 J;obtain⟨a,F,_,Y⟩:=DataW.trod_int underlying3 O;obtain⟨b,I,_,Z⟩:=DataW.trod_int underlying3 Q;obtain⟨v,A⟩:=QHb underlying4 U;replace A : [c3]=[.bool v]:=A;simp at E F I A;subst E F I A;exact⟨⟨s,a,b,v⟩,rfl,hs,.of_wf Y,.of_wf Z⟩
theorem QLb:Vx Umc 25:=by
 intro H enc W base ad ac ab cs x h;obtain⟨xs,n,_,_,V,Z,hf⟩:=DataW.trod_struct underlying25 h;rw[show Tryz.prog.cellsOf 25=4 by kernel_rfl]at V
 match xs,Z with
 | [y0,y1,y2,y3],_=>
  match cs,V with
  | [c0,c1,c2,c3],_=>
   have J:=hf 0 _ rfl;have O:=hf 1 _ rfl;have Q:=hf 2 _ rfl;have U:=hf 3 _ rfl;simp[show Tryz.prog.cellsOf 3=1 by kernel_rfl,show Tryz.prog.cellsOf 22=1 by kernel_rfl,show Tryz.prog.cellsOf 23=1 by kernel_rfl]at J O Q U;obtain⟨a,F,_,wa⟩:=DataW.trod_int underlying3 J;obtain⟨b,I,_,wb⟩:=DataW.trod_int underlying3 O;obtain⟨L,A,m,cap,D,X⟩:=Vq (size:=2) underlying22 (by kernel_rfl) (by omega) QJb Q;obtain⟨L2,A2,m2,aa,E,Y⟩:=Vq (size:=4) underlying23 (by kernel_rfl) (by omega) QIb U;simp at F I D E;subst F I D E;exact⟨⟨a,b,L,L2⟩,_,_,_,_,_,_,rfl,X,Y,.of_wf wa,.of_wf wb⟩
end Go.Proofs.YtjdcokpmgionjaaGreat
