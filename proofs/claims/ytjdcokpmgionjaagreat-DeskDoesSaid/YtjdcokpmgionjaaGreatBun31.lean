/-
  Laws and contracts.
-/
import Derived.Test.YtjdcokpmgionjaaGreatBun7
import Derived.Test.YtjdcokpmgionjaaGreatBun11
import Derived.Test.YtjdcokpmgionjaaGreatBun30
import Derived.SizedLaws
set_option linter.unusedSimpArgs false
set_option linter.unusedVariables false
set_option maxRecDepth 100000
set_option maxHeartbeats 20000000
namespace Go.Proofs.YtjdcokpmgionjaaGreat
open Proofs.Tryz Go.ChangeShapes Go.WideShapes Go.ChangeAt Go.RowKit
theorem XBa:Vx Ql 140:=by
 intro H enc W base Z Y X cs x h;obtain⟨xs,n,_,_,Q,U,A⟩:=DataW.trod_struct underlying140 h;rw[show Tryz.prog.cellsOf 140=3 by kernel_rfl]at Q
 match xs,U with
 | [y0,y1,y2],_=>
  match cs,Q with
  | [c0,c1,c2],_=>
   have I:=A 0 _ rfl;have J:=A 1 _ rfl;have O:=A 2 _ rfl;simp[show Tryz.prog.cellsOf 3=1 by kernel_rfl]at I J O;obtain⟨a,D,_,V⟩:=DataW.trod_int underlying3 I;obtain⟨b,E,_,wb⟩:=DataW.trod_int underlying3 J;obtain⟨c,F,_,wc⟩:=DataW.trod_int underlying3 O;simp at D E F;subst D E F;exact⟨⟨a,b,c⟩,rfl,.of_wf V,.of_wf wb,.of_wf wc⟩
theorem QGb:Vx ZJ 63:=by
 intro H enc W base ae ad ac cs x h;obtain⟨xs,n,_,_,hl,ab,hf⟩:=DataW.trod_struct underlying63 h;rw[show Tryz.prog.cellsOf 63=11 by kernel_rfl]at hl
 match xs,ab with
 | [y0,y1,y2,y3,y4,y5,y6,y7,y8,y9],_=>
  match cs,hl with
  | [c0,c1,c2,c3,c4,c5,c6,c7,c8,c9,c10],_=>
   have X:=hf 0 _ rfl;have Y:=hf 1 _ rfl;have Z:=hf 2 _ rfl;have f3:=hf 3 _ rfl;have f4:=hf 4 _ rfl;have f5:=hf 5 _ rfl;have f6:=hf 6 _ rfl;have f7:=hf 7 _ rfl;have f8:=hf 8 _ rfl;have f9:=hf 9 _ rfl;simp[show Tryz.prog.cellsOf 3=1 by kernel_rfl,show Tryz.prog.cellsOf 4=1 by kernel_rfl,show Tryz.prog.cellsOf 51=2 by kernel_rfl,show Tryz.prog.cellsOf 61=1 by kernel_rfl]at X Y Z f3 f4 f5 f6 f7 f8 f9;obtain⟨a0,E,_,w0⟩:=DataW.trod_int underlying3 X;obtain⟨a1,F,_,w1⟩:=DataW.trod_int underlying3 Y;obtain⟨a2,J,_,w2⟩:=DataW.trod_int underlying3 Z;obtain⟨a3,O,_,w3⟩:=DataW.trod_int underlying3 f3;obtain⟨a4,Q,_⟩:=DataW.trod_bool underlying4 f4;obtain⟨a5,U,_,w5⟩:=DataW.trod_int underlying3 f5;obtain⟨a6,V,_,w6⟩:=DataW.trod_int underlying3 f6;obtain⟨s,D,w7,w8⟩:=ZFa f7;obtain⟨a9,e9,_,w9⟩:=DataW.trod_int underlying3 f8;obtain⟨L,A,m,cap,I,aa⟩:=Vq (size:=3) underlying61 (by kernel_rfl) (by omega) XBa f9;simp at E F J O Q U V D e9 I;obtain⟨D,e8⟩:=D;subst E F J O Q U V D e8 e9 I;exact⟨⟨a0,a1,a2,a3,a4,a5,a6,s.frm,s.upto,a9,L⟩,_,_,_,rfl,aa,⟨.of_wf w0,.of_wf w1,.of_wf w2,.of_wf w3,.of_wf w5,.of_wf w6,w7,w8,.of_wf w9⟩⟩
theorem YBa:Vx U2 138:=by
 intro H enc W base X Y V cs x h;obtain⟨xs,n,_,_,J,O,I⟩:=DataW.trod_struct underlying138 h;rw[show Tryz.prog.cellsOf 138=2 by kernel_rfl]at J
 match xs,O with
 | [y0,y1],_=>
  match cs,J with
  | [c0,c1],_=>
   have E:=I 0 _ rfl;have F:=I 1 _ rfl;simp[show Tryz.prog.cellsOf 3=1 by kernel_rfl]at E F;obtain⟨a,A,_,Q⟩:=DataW.trod_int underlying3 E;obtain⟨b,D,_,U⟩:=DataW.trod_int underlying3 F;simp at A D;subst A D;exact⟨⟨a,b⟩,rfl,.of_wf Q,.of_wf U⟩
theorem YCa:Vx Q4c 29:=by
 intro H enc W base ae ad ac cs x h;obtain⟨xs,n,_,_,X,aa,hf⟩:=DataW.trod_struct underlying29 h;rw[show Tryz.prog.cellsOf 29=5 by kernel_rfl]at X
 match xs,aa with
 | [y0,y1,y2,y3,y4],_=>
  match cs,X with
  | [c0,c1,c2,c3,c4],_=>
   have O:=hf 0 _ rfl;have Q:=hf 1 _ rfl;have U:=hf 2 _ rfl;have V:=hf 3 _ rfl;have f4:=hf 4 _ rfl;simp[show Tryz.prog.cellsOf 3=1 by kernel_rfl,show Tryz.prog.cellsOf 26=1 by kernel_rfl,show Tryz.prog.cellsOf 27=1 by kernel_rfl]at O Q U V f4;obtain⟨L,A,m,cap,D,Z⟩:=Vq (size:=1) underlying26 (by kernel_rfl) (by omega) (Vq (size:=1) underlying70 (by kernel_rfl) (by omega) (V0a underlying3)) O;obtain⟨a,F,_,wa⟩:=DataW.trod_int underlying3 Q;obtain⟨b,I,_,wb⟩:=DataW.trod_int underlying3 U;obtain⟨Y,A2,m2,ab,E,h3⟩:=Vq (size:=2) underlying27 (by kernel_rfl) (by omega) YBa V;obtain⟨c,J,_,wc⟩:=DataW.trod_int underlying3 f4;simp at F I J D E;subst F I J D E;exact⟨⟨L,a,b,Y,c⟩,_,_,_,_,_,_,rfl,Z,h3,.of_wf wa,.of_wf wb,.of_wf wc⟩
end Go.Proofs.YtjdcokpmgionjaaGreat
