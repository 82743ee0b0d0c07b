/-
  Words, laws and contracts: CodeJ, CodeK.
-/
import Derived.Test.YtjdcokpmgionjaaGreatBun5
import Derived.Deep.RegionWith
set_option linter.unusedSimpArgs false
set_option linter.unusedVariables false
set_option maxRecDepth 100000
set_option maxHeartbeats 20000000
namespace Go.Proofs.YtjdcokpmgionjaaGreat
open Go.RowKit Go.Shelf
theorem XJa (m:Nat):∀n:Int,0≤n→n < 256 ^ m→XX (Zy n m)=n:=by
 induction m with
 | zero=>(intro n D A;simp at A;have:n=0:=by omega);(subst this;rfl)
 | succ m ih=>
  intro n D A;rw[Int.pow_succ]at A;rw[Zy,Qaa,ih (n / 256) (by omega) (by omega)];have:=Qcc (n:=n);omega
theorem XRa {v:Int}{m:Nat}(D:List UInt8)(E:Bool)(F:0≤v)(I:v < 256 ^ m):UO (Zy v m++D,E) m=(v,(D,E)):=by
 unfold UO;have A:=ZX m v;rw[if_neg (by rw[List.length_append,A];omega)];simp only[List.take_left' A,List.drop_left' A,XJa m v F I]
def VN (i:Nat):Prop:=i=2∨i=3∨i=4∨i=5∨i=6∨i=7∨i=8∨i=9∨i=10
theorem XXb {x:Ask}{lev v:Int}{i:Nat}(h:VN i):X0 (Qla x i v) (Vwa lev i v) i=v:=by
 rcases h with rfl | rfl | rfl | rfl | rfl | rfl | rfl | rfl | rfl<;>rfl
theorem V8a {x:Ask}{lev v:Int}{i j:Nat}(h:VN i)(A:i≠j):X0 (Qla x j v) (Vwa lev j v) i=X0 x lev i:=by
 rcases h with rfl | rfl | rfl | rfl | rfl | rfl | rfl | rfl | rfl<;>simp[X0,fld,Qla,Vwa]<;>exact fun e=>absurd e.symm A
theorem Zca (p:Part)(l:List Part)(d:Dec):VL (p::l) d=VL l (XI d p):=rfl
theorem UHa {i:Nat}(A:VN i)(l:List Part):∀(d:Dec),i∉l.map Part.ix→X0 (VL l d).1 (VL l d).2.1 i=X0 d.1 d.2.1 i:=by
 induction l with
 | nil=>intro d _;rfl
 | cons p l ih=>
  intro d h;rw[List.map_cons,List.mem_cons,not_or]at h;rw[Zca,ih _ h.2];exact V8a A h.1
theorem UUb (x:Ask)(l:List Part):∀(d:Dec) (D:List UInt8) (E:Bool),(∀p∈l,VN p.ix)→(l.map Part.ix).Nodup→(∀p∈l,0≤fld x p.ix∧fld x p.ix < 256 ^ p.bytes.toNat)→
  d.2.2=(l.flatMap (UN x)++D,E)→(VL l d).2.2=(D,E)∧∀p∈l,X0 (VL l d).1 (VL l d).2.1 p.ix=fld x p.ix:=by
 induction l with
 | nil=>intro d D E _ _ _ h;exact⟨by simpa [VL] using h,by simp⟩
 | cons p l ih=>
  intro d D E O I Q h;rw[List.map_cons,List.nodup_cons]at I;have F:=Q p (List.mem_cons_self ..)
  have A:UO d.2.2 p.bytes.toNat=(fld x p.ix,(l.flatMap (UN x)++D,E)):=by
   rw[h,List.flatMap_cons,List.append_assoc];exact XRa _ _ F.1 F.2
  rw[Zca];obtain⟨U,V⟩:=ih (XI d p) D E (fun q A=>O q (List.mem_cons_of_mem _ A)) I.2 (fun q A=>Q q (List.mem_cons_of_mem _ A)) (by unfold XI;rw[A]);refine⟨U,fun q J=>?_⟩
  rcases List.mem_cons.1 J with rfl | J
  ·have F:=O q (List.mem_cons_self ..)
   rw[UHa F l _ I.1]
   show X0 (Qla _ _ _) (Vwa _ _ _) _=_
   rw[XXb F,A]
  ·exact V q J
theorem Ykb (k:Int):(∀p∈QD k,VN p.ix)∧((QD k).map Part.ix).Nodup:=by
 refine⟨fun p A=>?_,?_⟩
 ·rcases Uy A with rfl | rfl | rfl | rfl | rfl | rfl | rfl | rfl | rfl<;>simp[VN,pId,XQ,Qha,Qga,Xt,YUa,pTo,XMa,QQa]
 ·unfold QD
  repeat' split
  all_goals decide
theorem Vtb {k:Int}{p:Part}(A:p∈QD k):p.most < 256 ^ p.bytes.toNat:=by
 rcases Uy A with rfl | rfl | rfl | rfl | rfl | rfl | rfl | rfl | rfl<;>decide
theorem ZHb {x y:Ask}(U:x.number=y.number)(V:x.kind=y.kind)(h:∀i,VN i→fld x i=fld y i):x=y:=by
 have D:=h 2 (by simp[VN]);have E:=h 3 (by simp[VN]);have Y:=h 4 (by simp[VN]);have F:=h 5 (by simp[VN]);have I:=h 6 (by simp[VN]);have J:=h 7 (by simp[VN]);have O:=h 8 (by simp[VN]);have Q:=h 9 (by simp[VN]);have A:=h 10 (by simp[VN]);obtain⟨Z,a1,a2,a3,W,a5,a6,a7,a8,a9,aa⟩:=x;obtain⟨b0,b1,b2,b3,X,b5,b6,b7,b8,b9,ab⟩:=y
 simp[fld]at U V D E Y F I J O Q A
 simp only[Ask.mk.injEq];refine⟨U,V,D,E,?_,F,I,J,O,Q,A⟩
 cases W<;>cases X<;>simp_all
theorem ZOc (l:List Part):∀(x:Ask) (i:Nat),VN i→i≠4→fld (zf l x) i=if i∈l.map Part.ix then 0 else fld x i:=by
 induction l with
 | nil=>intro x i _ _;simp[zf]
 | cons p l ih=>
  intro x i D A
  show fld (zf l (Qla x p.ix 0)) i=_
  rw[ih _ i D A]
  by_cases h:i∈l.map Part.ix
  ·rw[if_pos h,List.map_cons,if_pos (List.mem_cons_of_mem _ h)]
  ·rw[if_neg h,List.map_cons]
   by_cases e:i=p.ix
   ·rw[if_pos (by rw[←e];exact List.mem_cons_self ..),←e]
    rcases D with rfl | rfl | rfl | rfl | rfl | rfl | rfl | rfl | rfl<;>first | rfl | exact absurd rfl A
   ·rw[if_neg (by rw[List.mem_cons,not_or];exact⟨e,h⟩)]
    have:=V8a (x:=x) (lev:=0) (v:=0) D e
    simpa [X0,A] using this
theorem Xhb {x:Ask} : Yb x=true↔∀i,VN i→i∉(QD x.kind).map Part.ix→fld x i=0:=by
 unfold Yb;rw[decide_eq_true_eq]
 have D:((QD x.kind).any (fun p=>p.ix == 4)=true)↔4∈(QD x.kind).map Part.ix:=by
  rw[List.any_eq_true,List.mem_map]
  constructor
  ·rintro⟨p,h,e⟩;exact⟨p,h,by simpa using e⟩
  ·rintro⟨p,h,e⟩;exact⟨p,h,by simpa using e⟩
 have F:=Uwb (QD x.kind) x
 have E:∀i,VN i→fld (Vi x) i=if i∈(QD x.kind).map Part.ix then 0 else fld x i:=fun i A=>by
  by_cases e4:i=4
  ·subst e4
   have:fld (Vi x) 4=if (Vi x).level then 1 else 0:=rfl
   rw[this]
   have J:fld x 4=if x.level then 1 else 0:=rfl
   rw[J];unfold Vi
   by_cases h:4∈(QD x.kind).map Part.ix
   ·rw[if_pos h,if_pos (D.2 h)];rfl
   ·rw[if_neg h,if_neg (fun e=>h (D.1 e))]
  ·rw[←ZOc _ x i A e4]
   unfold Vi
   rcases A with rfl | rfl | rfl | rfl | rfl | rfl | rfl | rfl | rfl<;>first | rfl | exact absurd rfl e4
 constructor
 ·intro h i A O
  have:=E i A;rw[h,if_neg O]at this;rw[←this]
  rcases A with rfl | rfl | rfl | rfl | rfl | rfl | rfl | rfl | rfl<;>rfl
 ·intro h
  refine ZHb F.2.1 F.2.2 fun i A=>?_
  rw[E i A]
  have I:fld ({ (default:Ask)with number:=x.number,kind:=x.kind }) i=0:=by
   rcases A with rfl | rfl | rfl | rfl | rfl | rfl | rfl | rfl | rfl<;>rfl
  rw[I]
  by_cases e:i∈(QD x.kind).map Part.ix
  ·rw[if_pos e]
  ·rw[if_neg e];exact h i A e
structure CodeOk (x:Ask):Prop where
 kind:1≤x.kind∧x.kind≤8
 number:1≤x.number∧x.number≤65535
 bare:Yb x=true
 parts:∀p∈QD x.kind,0≤X0 x 0 p.ix∧X0 x 0 p.ix≤p.most
theorem Qec {x:Ask}(h:QU x=0):CodeOk x:=by
 unfold QU at h
 by_cases h1:Qc x.kind 1 8=false
 ·rw[if_pos h1]at h;omega
 rw[if_neg h1]at h
 by_cases h2:Qc x.number 1 65535=false
 ·rw[if_pos h2]at h;omega
 rw[if_neg h2]at h
 by_cases h3:Yb x=false
 ·rw[if_pos h3]at h;omega
 rw[if_neg h3]at h
 by_cases h4:(QD x.kind).all (Yt x)=true
 ·exact⟨Qj.1 (by simpa using h1),Qj.1 (by simpa using h2),by simpa using h3,fun p A=>Qj.1 (List.all_eq_true.1 h4 p A)⟩
 ·rw[if_neg h4]at h;omega
theorem Yma {x:Ask}(h:CodeOk x){p:Part}(A:p∈QD x.kind):0≤fld x p.ix∧fld x p.ix≤p.most:=by
 have D:=h.parts p A
 rcases Uy A with rfl | rfl | rfl | rfl | rfl | rfl | rfl | rfl | rfl
 all_goals first
  | exact D
  |
   show 0≤(if x.level then (1:Int)else 0)∧(if x.level then (1:Int)else 0)≤1
   split<;>omega
theorem XDb {d:Dec}(D:0≤d.2.1)(E:d.2.1≤1){i:Nat}(A:VN i):fld (Zda d) i=X0 d.1 d.2.1 i:=by
 rcases A with rfl | rfl | rfl | rfl | rfl | rfl | rfl | rfl | rfl
 all_goals first
  | rfl
  |
   show(if (d.2.1 == 1)=true then (1:Int)else 0)=d.2.1
   by_cases e:d.2.1=1
   ·rw[if_pos (by simpa using e),e]
   ·rw[if_neg (by simpa using e)];omega
theorem Ysa (l:List Part):∀d,(VL l d).1.number=d.1.number:=by
 induction l with
 | nil=>intro d;rfl
 | cons p l ih=>intro d;rw[Zca,ih];rfl
theorem QBa {x:Ask}(h:QU x=0):Yh (VM x)=(x,0):=by
 have A:=Qec h;have X:=Ykb x.kind
 have I:Vsa (VM x)=(⟨x.number,x.kind,0,0,false,0,0,0,0,0,0⟩,0,((QD x.kind).flatMap (UN x),false)):=by
  unfold Vsa VM YW;rw[List.append_assoc,XRa _ _ (by have:=A.kind;omega) (by have:=A.kind;simp;omega)];simp only;rw[XRa _ _ (by have:=A.number;omega) (by have:=A.number;simp;omega)]
 have O:Vta (VM x)=VL (QD x.kind) (⟨x.number,x.kind,0,0,false,0,0,0,0,0,0⟩,0,((QD x.kind).flatMap (UN x),false)):=by unfold Vta;rw[I]
 obtain⟨d,F⟩:∃d,d=Vta (VM x):=⟨_,rfl⟩
 obtain⟨J,Y⟩:=UUb x (QD x.kind) (⟨x.number,x.kind,0,0,false,0,0,0,0,0,0⟩,0,((QD x.kind).flatMap (UN x),false)) [] false X.1 X.2
  (fun p E=>⟨(Yma A E).1,Int.lt_of_le_of_lt (Yma A E).2 (Vtb E)⟩) (by simp)
 have Q:=UTb (QD x.kind) (⟨x.number,x.kind,0,0,false,0,0,0,0,0,0⟩,0,((QD x.kind).flatMap (UN x),false));have W:=Ysa (QD x.kind) (⟨x.number,x.kind,0,0,false,0,0,0,0,0,0⟩,0,((QD x.kind).flatMap (UN x),false))
 have V:∀i,VN i→X0 d.1 d.2.1 i=fld x i:=fun i D=>by
  rw[F,O]
  by_cases e:i∈(QD x.kind).map Part.ix
  ·obtain⟨p,E,rfl⟩:=List.mem_map.1 e
   exact Y p E
  ·rw[UHa D _ _ e,Xhb.1 A.bare i D e]
   rcases D with rfl | rfl | rfl | rfl | rfl | rfl | rfl | rfl | rfl<;>rfl
 rw[←O,←F]at J Q W;have Z:d.2.1=fld x 4:=V 4 (by simp[VN])
 have U:0≤d.2.1∧d.2.1≤1:=by
  rw[Z];show 0≤(if x.level then (1:Int)else 0)∧(if x.level then (1:Int)else 0)≤1
  split<;>omega
 have hx:Zda d=x:=ZHb W Q fun i D=>by rw[XDb U.1 U.2 D,V i D]
 unfold Yh;rw[←F,hx,if_neg,if_neg (by rw[h];simp)];unfold UGa;rw[I,J];have:=QX A.kind.1 A.kind.2
 simp[this];omega
def Xeb:Array Value:=#[.int .i64 1,.int .i64 1,.int .i64 5,.int .i64 2,.bool true,.int .i64 1,.int .i64 0,.int .i64 0,.int .i64 2,.int .i64 0,.int .i64 0,.int .i64 2,.int .i64 4,.int .i64 5,.int .i64 0,.bool false,.int .i64 0,.int .i64 0,.int .i64 0,.int .i64 0,.int .i64 0,.int .i64 300,.int .i64 3,.int .i64 8,.int .i64 0,.int .i64 0,.bool false,.int .i64 0,.int .i64 0,.int .i64 0,.int .i64 0,.int .i64 0,.int .i64 0]
theorem YD {w:World}{b:Nat}{t:TypeId}(h:Blk w b Xeb t):yI w b 0 1∧yI w b 1 1∧yI w b 2 5∧yI w b 3 2∧w.cell? ⟨b,4,none⟩=some (.bool true)∧yI w b 5 1∧yI w b 6 0∧yI w b 7 0∧yI w b 8 2∧yI w b 9 0∧yI w b 10 0:=
 ⟨h.cell rfl,h.cell rfl,h.cell rfl,h.cell rfl,h.cell rfl,h.cell rfl,h.cell rfl,h.cell rfl,h.cell rfl,h.cell rfl,h.cell rfl⟩
theorem Xwa {w:World}{b:Nat}{t:TypeId}(h:Blk w b Xeb t):yI w b 11 2∧yI w b 12 4∧yI w b 13 5∧yI w b 14 0∧w.cell? ⟨b,15,none⟩=some (.bool false)∧yI w b 16 0∧yI w b 17 0∧yI w b 18 0∧yI w b 19 0∧yI w b 20 0∧yI w b 21 300:=
 ⟨h.cell rfl,h.cell rfl,h.cell rfl,h.cell rfl,h.cell rfl,h.cell rfl,h.cell rfl,h.cell rfl,h.cell rfl,h.cell rfl,h.cell rfl⟩
theorem Uya (w:World):Calls Tryz.prog 59 #[] w fun e w'=>(∃g,e=.returned (.slice (some ⟨g,0,none⟩) 3 3)∧Blk w' g Xeb 53)∧yw w w':=by
 go_enter Tryz.func59,Tryz.ntmps59
 go_wp2_with fail
 go_ret
 exact⟨⟨_,rfl,Blk.new _ _ _⟩,Qf _ _⟩
theorem Zpc:Yh [1,0,1,0,0,5,2,1,0,2,1,0,0]=(⟨1,1,5,2,true,1,0,0,2,0,0⟩,0):=by
 have h:=QBa (x:=⟨1,1,5,2,true,1,0,0,2,0,0⟩) (by decide)
 rwa [show VM ⟨1,1,5,2,true,1,0,0,2,0,0⟩=[1,0,1,0,0,5,2,1,0,2,1,0,0]by decide]at h
theorem YT (w:World):Calls Tryz.prog 11 #[] w fun e w'=>e=.returned (.bool true)∧yw w w':=by
 have hE:=fun W=>Xz ⟨1,1,5,2,true,1,0,0,2,0,0⟩ W
 have hD:=fun W=>Z8a [1,0,1,0,0,5,2,1,0,2,1,0,0] W
 have hC:=fun W=>Un ⟨2,4,5,0,false,0,0,0,0,0,300⟩ W
 have hQ:=fun W=>Xva ⟨1,1,5,2,true,1,0,0,2,0,0⟩ ⟨1,1,5,2,true,1,0,0,2,0,0⟩ W
 rw[show QU ⟨1,1,5,2,true,1,0,0,2,0,0⟩=0 by decide,show VM ⟨1,1,5,2,true,1,0,0,2,0,0⟩=[1,0,1,0,0,5,2,1,0,2,1,0,0]by decide]at hE;rw[Zpc]at hD;rw[show QU ⟨2,4,5,0,false,0,0,0,0,0,300⟩=0 by decide]at hC;rw[show UFb ⟨1,1,5,2,true,1,0,0,2,0,0⟩ ⟨1,1,5,2,true,1,0,0,2,0,0⟩=true by decide]at hQ
 dsimp only[Q1]at hE hD hC hQ
 rw[QG]at hE;have HE:=yh hE;clear hE;have HD:=yh hD;clear hD;have HC:=yh hC;clear hC
 go_enter Tryz.func11,Tryz.ntmps11
 go_wp2_with fail
 refine(Uya _).mono ?_;rintro e w1 ⟨⟨g,rfl,hB⟩,J⟩;obtain⟨c0,c1,c2,c3,c4,c5,c6,c7,c8,c9,ab⟩:=YD hB
 go_wp2_with fail
 refine(HE.out _).mono ?_;rintro e w2 ⟨rfl,aa⟩;replace J:=J.trans (aa.mono J.size);clear aa c0 c1 c2 c3 c4 c5 c6 c7 c8 c9 ab hB
 go_wp2_with fail
 refine(HD.out _).mono ?_;rintro e w3 ⟨rfl,aa⟩;replace J:=J.trans (aa.mono J.size);clear aa;have E:AskAt (w3.alloc (.cells (Q1 ⟨1,1,5,2,true,1,0,0,2,0,0⟩) 53)).drew w3.heap.size ⟨1,1,5,2,true,1,0,0,2,0,0⟩:=Blk.new w3 _ _;have F:=(J.alloc J.size (.cells (Q1 ⟨1,1,5,2,true,1,0,0,2,0,0⟩) 53)).drew
 dsimp only[Q1]at E F
 obtain⟨Q,U,z2,X,Y,Z,z6,z7,z8,z9,V⟩:=AskAt.all E;clear J
 go_upto_region 3 with(fail)
 go_region_with (first
  | (go_at_call 61;refine(HC.out _).mono ?_;rintro e wq ⟨rfl,A⟩;(try replace E:=AskAt.bel E A);(try replace D:=Blk.bel D A);(try replace I:=Blk.bel I A);replace F:=F.trans (A.mono F.size);clear Q U z2 X Y Z z6 z7 z8 z9 V;obtain⟨Q,U,z2,X,Y,Z,z6,z7,z8,z9,V⟩:=AskAt.all E;(try (have O:=I;obtain⟨x0,x1,x2,x3,x4,x5,x6,x7,x8,x9,ag⟩:=YD O));(try (have O:=D;obtain⟨y0,y1,y2,y3,y4,y5,y6,y7,y8,y9,ac⟩:=YD O)))
  | (go_at_call 59;first
    | (have af:=D;refine(Uya _).mono ?_;rintro e wr ⟨⟨g2,rfl,I⟩,A⟩;(try replace E:=AskAt.bel E A);(try replace D:=Blk.bel D A);(try replace I:=Blk.bel I A);replace F:=F.trans (A.mono F.size);clear Q U z2 X Y Z z6 z7 z8 z9 V;obtain⟨Q,U,z2,X,Y,Z,z6,z7,z8,z9,V⟩:=AskAt.all E;obtain⟨c0,c1,c2,c3,c4,c5,c6,c7,c8,c9,ab⟩:=YD I;obtain⟨d0,d1,d2,d3,d4,d5,d6,d7,d8,d9,ae⟩:=Xwa I;(try (have O:=D;obtain⟨y0,y1,y2,y3,y4,y5,y6,y7,y8,y9,ac⟩:=YD O));(try (have O:=D;obtain⟨v0,v1,v2,v3,v4,v5,v6,v7,v8,v9,ad⟩:=Xwa O)))
    | (refine(Uya _).mono ?_;rintro e wp ⟨⟨g1,rfl,D⟩,A⟩;(try replace E:=AskAt.bel E A);(try replace D:=Blk.bel D A);(try replace I:=Blk.bel I A);replace F:=F.trans (A.mono F.size);clear Q U z2 X Y Z z6 z7 z8 z9 V;obtain⟨Q,U,z2,X,Y,Z,z6,z7,z8,z9,V⟩:=AskAt.all E;obtain⟨y0,y1,y2,y3,y4,y5,y6,y7,y8,y9,ac⟩:=YD D;obtain⟨v0,v1,v2,v3,v4,v5,v6,v7,v8,v9,ad⟩:=Xwa D)))
 all_goals go_wp2_with fail
 all_goals go_ret
 all_goals exact⟨rfl,F⟩
end Go.Proofs.YtjdcokpmgionjaaGreat
