/-
  Words, laws and contracts: SpanLift, ShipLift.
-/
import Derived.Test.YtjdcokpmgionjaaGreatBun2
import Derived.Test.YtjdcokpmgionjaaGreatBun37
set_option linter.unusedSimpArgs false
set_option linter.unusedVariables false
set_option maxRecDepth 100000
set_option maxHeartbeats 20000000
namespace Go.Proofs.YtjdcokpmgionjaaGreat
open Go.ChangeShapes Go.WideShapes Go.ChangeAt Go.RowKit
theorem ZGa:UZ Ug 51:=by
 intro H enc W base Y X Z O x h;obtain⟨xs,n,_,_,J,Q,I⟩:=DataW.trod_struct Tryz.underlying51 h;rw[show Tryz.prog.cellsOf 51=2 by kernel_rfl]at J
 match xs,Q with
 | [y0,y1],_=>
  match O,J with
  | [c0,c1],_=>
   have E:=I 0 _ rfl;have F:=I 1 _ rfl
   simp[show Tryz.prog.cellsOf 3=1 by kernel_rfl]at E F
   obtain⟨a,A,_,U⟩:=DataW.trod_int Tryz.underlying3 E;obtain⟨b,D,_,V⟩:=DataW.trod_int Tryz.underlying3 F
   simp at A D
   subst A D;exact⟨⟨a,b⟩,rfl,.of_wf U,.of_wf V⟩
theorem Xda {t:TypeId}(A:Tryz.prog.underlying t=some .string):UZ VFa t:=fun h=>by
 obtain⟨n,rfl,_,D⟩:=DataW.trod_string A h;refine⟨n.data.toList,?_,by simpa using D⟩
 simp
theorem Zdb:UZ Um 134:=by
 intro H enc W base Y X aa O x h;obtain⟨xs,n,_,_,J,V,I⟩:=DataW.trod_struct Tryz.underlying134 h;rw[show Tryz.prog.cellsOf 134=2 by kernel_rfl]at J
 match xs,V with
 | [y0,y1],_=>
  match O,J with
  | [c0,c1],_=>
   have E:=I 0 _ rfl;have F:=I 1 _ rfl
   simp[show Tryz.prog.cellsOf 9=1 by kernel_rfl,show Tryz.prog.cellsOf 70=1 by kernel_rfl]at E F
   obtain⟨s,Z,U⟩:=Xda Tryz.underlying9 E;obtain⟨L,A,m,cap,D,Q⟩:=UK (size:=1) Tryz.underlying70 (by kernel_rfl) (by omega) (Xca Tryz.underlying3) F
   simp at Z D
   subst Z D;exact⟨⟨s,L⟩,_,_,_,rfl,Q,U⟩
theorem Zcb:UZ ZW 136:=by
 intro H enc W base ac ab aa cs x h;obtain⟨xs,n,_,_,V,Y,D⟩:=DataW.trod_struct Tryz.underlying136 h;rw[show Tryz.prog.cellsOf 136=4 by kernel_rfl]at V
 match xs,Y with
 | [y0,y1,y2,y3],_=>
  match cs,V with
  | [c0,c1,c2,c3],_=>
   have J:=D 0 _ rfl;have O:=D 1 _ rfl;have Q:=D 2 _ rfl;have U:=D 3 _ rfl
   simp[show Tryz.prog.cellsOf 9=1 by kernel_rfl,show Tryz.prog.cellsOf 3=1 by kernel_rfl,show Tryz.prog.cellsOf 4=1 by kernel_rfl]at J O Q U
   obtain⟨s,E,X⟩:=Xda Tryz.underlying9 J;obtain⟨a,F,_,Z⟩:=DataW.trod_int Tryz.underlying3 O;obtain⟨b,I,_,wb⟩:=DataW.trod_int Tryz.underlying3 Q;obtain⟨v,A⟩:=Zbb Tryz.underlying4 U;replace A : [c3]=[.bool v]:=A
   simp at E F I A
   subst E F I A;exact⟨⟨s,a,b,v⟩,rfl,X,.of_wf Z,.of_wf wb⟩
theorem Zeb:UZ Vdc 25:=by
 intro H enc W base ae ad ac X x h;obtain⟨xs,n,_,_,V,aa,hf⟩:=DataW.trod_struct Tryz.underlying25 h;rw[show Tryz.prog.cellsOf 25=4 by kernel_rfl]at V
 match xs,aa with
 | [y0,y1,y2,y3],_=>
  match X,V with
  | [c0,c1,c2,c3],_=>
   have J:=hf 0 _ rfl;have O:=hf 1 _ rfl;have Q:=hf 2 _ rfl;have U:=hf 3 _ rfl
   simp[show Tryz.prog.cellsOf 3=1 by kernel_rfl,show Tryz.prog.cellsOf 22=1 by kernel_rfl,show Tryz.prog.cellsOf 23=1 by kernel_rfl]at J O Q U
   obtain⟨a,F,_,wa⟩:=DataW.trod_int Tryz.underlying3 J;obtain⟨b,I,_,wb⟩:=DataW.trod_int Tryz.underlying3 O;obtain⟨L,A,m,cap,D,Y⟩:=UK (size:=2) Tryz.underlying22 (by kernel_rfl) (by omega) Zdb Q;obtain⟨L2,A2,m2,ab,E,Z⟩:=UK (size:=4) Tryz.underlying23 (by kernel_rfl) (by omega) Zcb U
   simp at F I D E
   subst F I D E;exact⟨⟨a,b,L,L2⟩,_,_,_,_,_,_,rfl,Y,Z,.of_wf wa,.of_wf wb⟩
end Go.Proofs.YtjdcokpmgionjaaGreat
