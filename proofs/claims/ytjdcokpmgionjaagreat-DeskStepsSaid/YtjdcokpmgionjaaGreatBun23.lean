/-
  Laws and contracts.
-/
import Derived.Test.YtjdcokpmgionjaaGreatBun19
set_option linter.unusedSimpArgs false
set_option linter.unusedVariables false
set_option maxRecDepth 100000
set_option maxHeartbeats 20000000
namespace Go.Proofs.YtjdcokpmgionjaaGreat
open Proofs.Tryz Go.ChangeShapes Go.WideShapes Go.ChangeAt Go.RowKit
theorem Y0a:U9 Vl 138:=by
 intro H enc W base X Y V cs x h;obtain⟨xs,n,_,_,J,O,I⟩:=DataW.trod_struct underlying138 h;rw[show Tryz.prog.cellsOf 138=2 by kernel_rfl]at J
 match xs,O with
 | [y0,y1],_=>
  match cs,J with
  | [c0,c1],_=>
   have E:=I 0 _ rfl;have F:=I 1 _ rfl;simp[show Tryz.prog.cellsOf 3=1 by kernel_rfl]at E F;obtain⟨a,A,_,Q⟩:=DataW.trod_int underlying3 E;obtain⟨b,D,_,U⟩:=DataW.trod_int underlying3 F;simp at A D;subst A D;exact⟨⟨a,b⟩,rfl,.of_wf Q,.of_wf U⟩
theorem Y1a:U9 ZKc 29:=by
 intro H enc W base ae ad ac cs x h;obtain⟨xs,n,_,_,X,aa,hf⟩:=DataW.trod_struct underlying29 h;rw[show Tryz.prog.cellsOf 29=5 by kernel_rfl]at X
 match xs,aa with
 | [y0,y1,y2,y3,y4],_=>
  match cs,X with
  | [c0,c1,c2,c3,c4],_=>
   have O:=hf 0 _ rfl;have Q:=hf 1 _ rfl;have U:=hf 2 _ rfl;have V:=hf 3 _ rfl;have f4:=hf 4 _ rfl;simp[show Tryz.prog.cellsOf 3=1 by kernel_rfl,show Tryz.prog.cellsOf 26=1 by kernel_rfl,show Tryz.prog.cellsOf 27=1 by kernel_rfl]at O Q U V f4;obtain⟨L,A,m,cap,D,Z⟩:=Vh (size:=1) underlying26 (by kernel_rfl) (by omega) (Vh (size:=1) underlying70 (by kernel_rfl) (by omega) (Xwa underlying3)) O;obtain⟨a,F,_,wa⟩:=DataW.trod_int underlying3 Q;obtain⟨b,I,_,wb⟩:=DataW.trod_int underlying3 U;obtain⟨Y,A2,m2,ab,E,h3⟩:=Vh (size:=2) underlying27 (by kernel_rfl) (by omega) Y0a V;obtain⟨c,J,_,wc⟩:=DataW.trod_int underlying3 f4;simp at F I J D E;subst F I J D E;exact⟨⟨L,a,b,Y,c⟩,_,_,_,_,_,_,rfl,Z,h3,.of_wf wa,.of_wf wb,.of_wf wc⟩
def Quc:Cod Sai:=fun w S x cs=>∃p:SaiV,cs=(Qa x p).toList∧(Sl UX 2 w S p.A p.n p.cap x.ship.cats∧Sl Ut 4 w S p.B p.m p.cap2 x.ship.cabs∧Sl (slC QO 1) 1 w S p.D p.nd p.cd x.fares.leg∧Sl Vl 2 w S p.E p.ne p.ce x.fares.bands∧Sl ZP 11 w S p.C p.nb p.cb x.bks)∧
 (InI x.fares.alone∧InI x.fares.third∧InI x.fares.down)∧InI x.ship.legs∧InI x.ship.souls∧InI x.day∧InI x.leaves
theorem Zvc {w:World}{x:Sai}{cs:Array Value}(h:Quc w All x cs.toList):∃p,cs=Qa x p∧SaiR w x p∧InI x.ship.legs∧InI x.ship.souls∧InI x.day∧InI x.leaves:=by
 obtain⟨p,U,⟨A,D,E,F,I⟩,⟨J,O,Q⟩,r⟩:=h;exact⟨p,by cases cs;simp_all,⟨A,D,⟨E,F,J,O,Q⟩,I⟩,r⟩
theorem Zjb:U9 Quc 32:=by
 intro H enc W base ae ad ac cs x h;obtain⟨xs,n,_,_,Z,ab,hf⟩:=DataW.trod_struct underlying32 h;rw[show Tryz.prog.cellsOf 32=13 by kernel_rfl]at Z
 match xs,ab with
 | [y0,y1,y2,y3,y4,y5],_=>
  match cs,Z with
  | [c0,c1,c2,c3,c4,c5,c6,c7,c8,c9,c10,c11,c12],_=>
   have Q:=hf 0 _ rfl;have U:=hf 1 _ rfl;have V:=hf 2 _ rfl;have f3:=hf 3 _ rfl;have X:=hf 4 _ rfl;have Y:=hf 5 _ rfl;simp[show Tryz.prog.cellsOf 3=1 by kernel_rfl,show Tryz.prog.cellsOf 4=1 by kernel_rfl,show Tryz.prog.cellsOf 25=4 by kernel_rfl,show Tryz.prog.cellsOf 29=5 by kernel_rfl,show Tryz.prog.cellsOf 30=1 by kernel_rfl]at Q U V f3 X Y;obtain⟨sh,A,n1,cap,B,m,aa,e0,h1,h2,i1,i2⟩:=Zkb Q;obtain⟨fa,D,nd,cd,E,ne,ce,e1,h3,h4,i3,i4,i5⟩:=Y1a U;obtain⟨a,I,_,wa⟩:=DataW.trod_int underlying3 V;obtain⟨b,J,_,wb⟩:=DataW.trod_int underlying3 f3;obtain⟨L,C,nb,cb,F,h5⟩:=Vh (size:=11) underlying30 (by kernel_rfl) (by omega) Zdb X;obtain⟨cl,O,_⟩:=DataW.trod_bool underlying4 Y;simp at e0 e1 F I J O;obtain⟨rfl,rfl,rfl,rfl⟩:=e0;obtain⟨rfl,rfl,rfl,rfl,rfl⟩:=e1;subst F I J O;exact⟨⟨sh,fa,a,b,L,cl⟩,⟨A,n1,cap,B,m,aa,D,nd,cd,E,ne,ce,C,nb,cb⟩,rfl,⟨h1,h2,h3,h4,h5⟩,⟨i3,i4,i5⟩,i1,i2,.of_wf wa,.of_wf wb⟩
end Go.Proofs.YtjdcokpmgionjaaGreat
