/-
  Laws and contracts.
-/
import Derived.Test.YtjdcokpmgionjaaGreatBun1
import Derived.Test.YtjdcokpmgionjaaGreatBun12
import Derived.Test.YtjdcokpmgionjaaGreatBun31
set_option linter.unusedSimpArgs false
set_option linter.unusedVariables false
set_option maxRecDepth 100000
set_option maxHeartbeats 20000000
namespace Go.Proofs.YtjdcokpmgionjaaGreat
open Proofs.Tryz Go.ChangeShapes Go.WideShapes Go.ChangeAt Go.RowKit
def YPb:Cod Sai:=fun w S x cs=>∃p:SaiV,cs=(Qa x p).toList∧(Sl UI 2 w S p.A p.n p.cap x.ship.cats∧Sl Uj 4 w S p.B p.m p.cap2 x.ship.cabs∧Sl (slC QM 1) 1 w S p.D p.nd p.cd x.fares.leg∧Sl U2 2 w S p.E p.ne p.ce x.fares.bands∧Sl ZJ 11 w S p.C p.nb p.cb x.bks)∧
 (InI x.fares.alone∧InI x.fares.third∧InI x.fares.down)∧InI x.ship.legs∧InI x.ship.souls∧InI x.day∧InI x.leaves
theorem QOc {w:World}{x:Sai}{cs:Array Value}(h:YPb w All x cs.toList):∃p,cs=Qa x p∧SaiR w x p∧InI x.ship.legs∧InI x.ship.souls∧InI x.day∧InI x.leaves:=by
 obtain⟨p,U,⟨A,D,E,F,I⟩,⟨J,O,Q⟩,r⟩:=h;exact⟨p,by cases cs;simp_all,⟨A,D,⟨E,F,J,O,Q⟩,I⟩,r⟩
theorem QKb:Vx YPb 32:=by
 intro H enc W base ae ad ac cs x h;obtain⟨xs,n,_,_,Z,ab,hf⟩:=DataW.trod_struct underlying32 h;rw[show Tryz.prog.cellsOf 32=13 by kernel_rfl]at Z
 match xs,ab with
 | [y0,y1,y2,y3,y4,y5],_=>
  match cs,Z with
  | [c0,c1,c2,c3,c4,c5,c6,c7,c8,c9,c10,c11,c12],_=>
   have Q:=hf 0 _ rfl;have U:=hf 1 _ rfl;have V:=hf 2 _ rfl;have f3:=hf 3 _ rfl;have X:=hf 4 _ rfl;have Y:=hf 5 _ rfl;simp[show Tryz.prog.cellsOf 3=1 by kernel_rfl,show Tryz.prog.cellsOf 4=1 by kernel_rfl,show Tryz.prog.cellsOf 25=4 by kernel_rfl,show Tryz.prog.cellsOf 29=5 by kernel_rfl,show Tryz.prog.cellsOf 30=1 by kernel_rfl]at Q U V f3 X Y;obtain⟨sh,A,n1,cap,B,m,aa,e0,h1,h2,i1,i2⟩:=QLb Q;obtain⟨fa,D,nd,cd,E,ne,ce,e1,h3,h4,i3,i4,i5⟩:=YCa U;obtain⟨a,I,_,wa⟩:=DataW.trod_int underlying3 V;obtain⟨b,J,_,wb⟩:=DataW.trod_int underlying3 f3;obtain⟨L,C,nb,cb,F,h5⟩:=Vq (size:=11) underlying30 (by kernel_rfl) (by omega) QGb X;obtain⟨cl,O,_⟩:=DataW.trod_bool underlying4 Y;simp at e0 e1 F I J O;obtain⟨rfl,rfl,rfl,rfl⟩:=e0;obtain⟨rfl,rfl,rfl,rfl,rfl⟩:=e1;subst F I J O;exact⟨⟨sh,fa,a,b,L,cl⟩,⟨A,n1,cap,B,m,aa,D,nd,cd,E,ne,ce,C,nb,cb⟩,rfl,⟨h1,h2,h3,h4,h5⟩,⟨i3,i4,i5⟩,i1,i2,.of_wf wa,.of_wf wb⟩
theorem QFb:Vx Qsc 53:=by
 intro H enc W base af ae ad cs x h;obtain⟨xs,n,_,_,hl,ab,A⟩:=DataW.trod_struct underlying53 h;rw[show Tryz.prog.cellsOf 53=11 by kernel_rfl]at hl
 match xs,ab with
 | [y0,y1,y2,y3,y4,y5,y6,y7,y8,y9],_=>
  match cs,hl with
  | [c0,c1,c2,c3,c4,c5,c6,c7,c8,c9,c10],_=>
   have X:=A 0 _ rfl;have Y:=A 1 _ rfl;have Z:=A 2 _ rfl;have f3:=A 3 _ rfl;have f4:=A 4 _ rfl;have f5:=A 5 _ rfl;have f6:=A 6 _ rfl;have f7:=A 7 _ rfl;have f8:=A 8 _ rfl;have f9:=A 9 _ rfl;simp[show Tryz.prog.cellsOf 3=1 by kernel_rfl,show Tryz.prog.cellsOf 4=1 by kernel_rfl,show Tryz.prog.cellsOf 51=2 by kernel_rfl]at X Y Z f3 f4 f5 f6 f7 f8 f9;obtain⟨a0,E,_,w0⟩:=DataW.trod_int underlying3 X;obtain⟨a1,F,_,w1⟩:=DataW.trod_int underlying3 Y;obtain⟨a2,J,_,w2⟩:=DataW.trod_int underlying3 Z;obtain⟨a3,O,_,w3⟩:=DataW.trod_int underlying3 f3;obtain⟨a4,Q,_⟩:=DataW.trod_bool underlying4 f4;obtain⟨a5,U,_,w5⟩:=DataW.trod_int underlying3 f5;obtain⟨a6,V,_,w6⟩:=DataW.trod_int underlying3 f6;obtain⟨s,D,w7,w8⟩:=ZFa f7;obtain⟨a9,e9,_,w9⟩:=DataW.trod_int underlying3 f8;obtain⟨aa,I,_,ac⟩:=DataW.trod_int underlying3 f9;simp at E F J O Q U V D e9 I;obtain⟨D,e8⟩:=D;subst E F J O Q U V D e8 e9 I;exact⟨⟨a0,a1,a2,a3,a4,a5,a6,s.frm,s.upto,a9,aa⟩,rfl,.of_wf w0,.of_wf w1,.of_wf w2,.of_wf w3,.of_wf w5,.of_wf w6,w7,w8,.of_wf w9,.of_wf ac⟩
end Go.Proofs.YtjdcokpmgionjaaGreat
