/-
  Laws and contracts.
-/
import Derived.Test.YtjdcokpmgionjaaGreatBun13
set_option linter.unusedSimpArgs false
set_option linter.unusedVariables false
set_option maxRecDepth 100000
set_option maxHeartbeats 20000000
namespace Go.Proofs.YtjdcokpmgionjaaGreat
open Proofs.Tryz Go.RowKit Go.Shelf
def Xna (x:Sai) (b:Bkg):Bool:=decide (x.leaves≤x.day) || (decide (b.state=1) && (decide (b.til<x.day) || decide (x.leaves≤b.til)))
def VMa (x:Sai) (b:Bkg):Int:=if b.kind=1 then (x.ship.cabs.getD b.cab.toNat default).cat else b.cat
def QIa (x:Sai) (b:Bkg):Int:=ofV x.fares (VMa x b) ⟨b.frm,b.upto⟩ b.gst
def UU (x:Sai) (b:Bkg):Bkg:={ b with fol:=[⟨x.day,1,QIa x b⟩] }
def XYb (x:Sai) (b:Bkg):Bool:=Xna x b || (decide (b.kind=2) && x.closed)
noncomputable def VSa (x:Sai) (b:Bkg):Int:=if XYb x b=true then 4 else if ZA x.bks b.id=true then 6 else if x.bks.length=16 then 2 else QX (Q4 x (UU x b))
theorem V3b {x:Sai}{b:Bkg}(F:OkShp x.ship)(A:OkBk x.ship b):0≤VMa x b∧VMa x b<x.ship.cats.length:=by
 unfold VMa;by_cases h1:b.kind=1
 ·rw[M3 h1];have h:=A.kindE;unfold kindE at h;rw[M2 (by omega)]at h;unfold YY at h;by_cases h4:Qc b.cab 0 ((x.ship.cabs.length:Int)-1)=false
  ·rw[M3 h4]at h;omega
  have D:=Ql.1 (Ub h4);have E:=QJb F (k:=b.cab.toNat) (by omega);exact⟨E.1,E.2.1⟩
 ·rw[M2 h1];have I:=Ql.1 A.kind;have h:=A.kindE;unfold kindE at h;rw[M3 (by omega)]at h;unfold Zga at h;by_cases h2:Qc b.cat 0 ((x.ship.cats.length:Int)-1)=false
  ·rw[M3 h2]at h;omega
  have D:=Ql.1 (Ub h2);exact⟨D.1,by omega⟩
theorem QJa {x:Sai}{b:Bkg}(A:FareOk x.fares x.ship.cats.length x.ship.legs)(O:OkShp x.ship)(F:OkBk x.ship b) :
  ∃(k f t:Nat) (L:List Int),VMa x b=k∧b.frm=f∧b.upto=t∧x.fares.leg[k]? = some L∧f<t∧t≤L.length∧L.length≤7∧(∀v∈L,0≤v∧v≤100000)∧QIa x b=Vja x.fares (seg L f t).sum b.gst:=by
 obtain⟨U,X⟩:=V3b O F;obtain⟨W,s1,s2⟩:=QWa O F;obtain⟨k,J⟩:=Int.eq_ofNat_of_zero_le U;obtain⟨f,I⟩:=Int.eq_ofNat_of_zero_le W;obtain⟨t,Q⟩:=Int.eq_ofNat_of_zero_le (show 0≤b.upto by omega)
 have V:k<x.fares.leg.length:=by have:=A.len;omega
 have D:=J1 V;have E:=J6 D;have Y:=A.lens _ E;have Z:=A.mr;refine⟨k,f,t,_,J,I,Q,D,by omega,by omega,by omega,A.leg _ E,?_⟩;unfold QIa ofV;rw[J,I,Q];simp only[Int.toNat_natCast,D,Option.getD_some]
theorem Vka {x:Sai}{b:Bkg}(A:FareOk x.fares x.ship.cats.length x.ship.legs)(W:OkShp x.ship)(E:OkBk x.ship b):0≤QIa x b∧QIa x b≤100000000:=by
 obtain⟨k,f,t,L,Y,Z,e3,e4,e5,e6,e7,O,Q⟩:=QJa A W E;rw[Q]
 have V:∀v∈seg L f t,0≤v∧v≤((100000:Nat):Int):=fun v D=>O v (by
  unfold seg at D
  first|exact List.mem_of_mem_drop (List.mem_of_mem_take D)|exact List.mem_of_mem_take (List.mem_of_mem_drop D))
 have U:(seg L f t).length≤7:=by unfold seg;simp only[J8,List.length_drop];omega
 obtain⟨F,s1⟩:=Zzb V
 have s2:(seg L f t).sum≤700000:=by
  have:(seg L f t).length*100000≤7*100000:=Nat.mul_le_mul_right _ U;omega
 obtain⟨I,J⟩:=A.a;obtain⟨X,t1⟩:=A.t;have p1:=Yc F (by omega) I J;have p2:=Yc F (by omega) X (show x.fares.third≤200 by omega);have hg:=E.gst;unfold Vja;rcases(show b.gst=1∨b.gst=2∨b.gst=3∨b.gst=4 by omega)with h|h|h|h<;>rw[h]
 ·rw[M3 rfl];omega
 ·rw[M2 (by decide)];omega
 ·rw[M2 (by decide)];omega
 ·rw[M2 (by decide)];omega
theorem Yeb {d p:Int}(F:Qc d 0 9999=true)(I:0≤p∧p≤100000000):Qe [⟨d,1,p⟩]=0:=by
 have e:=Ql.1 F
 have A:Zq ⟨d,1,p⟩=0:=by
  unfold Zq;rw[M2 (by simp only;omega),M2 (by simp only;omega),M2 (by simp only;omega)]
 have D:Zs [⟨d,1,p⟩] 0=0:=by
  unfold Zs;simp[A]
 have E:U2 [⟨d,1,p⟩] 0=0:=by
  unfold U2 VT Zz ZO;simp;omega
 unfold Qe;simp[Qq,D,E]
theorem Yca {x:Sai}{b:Bkg}(D:OkSai x)(A:OkBk x.ship b):OkBk x.ship (UU x b):=
 ⟨A.kind,A.state,A.id,A.gst,A.span,A.kindE,A.til,A.opt,Yeb D.day (Vka (Vz D.fares) D.bs.ship A)⟩
theorem Yxa {w w':World}{S:Nat→Prop}{z:Nat}{zs:Array Value}{t:TypeId}{x:Bkg}{cs:List Value}(h:VU w S x cs)(I:Blk w z zs t)(O:t≠140)(J:Kept (fun k=>k=z) w w'):VU w' S x cs:=by
 obtain⟨v,rfl,⟨xs,A,F⟩,E⟩:=h;exact⟨v,rfl,⟨xs,A.keepB Zb (fun k D=>J.block k (A.lt k D).2 (fun e=>A.neTy I O (by rw[D,e]))),F⟩,E⟩
theorem SaiW.keepZ {E:World}{F:Nat}{w w':World}{base:Nat}{x:Sai}{p:SaiV}{z:Nat}{zs:Array Value}{t:TypeId}(h:SaiW E F w base x p)(I:Blk w z zs t)(h1:t≠140)(h2:t≠63)(hz:E.heap.size≤z)
  (D:Kept (fun k=>k=z) w w'):SaiW E F w' base x p:=by
 obtain⟨Q,U,V,W,X,xs,A⟩:=h;have hv:=A.neTy I h2;refine⟨Q,U,Nat.le_trans V D.size,fun k aa ab=>(D.block k (by omega) (by omega)).trans (W k aa ab),X,xs,⟨⟨A.row.1,?_⟩,fun i y hy=>?_⟩⟩
 ·rcases A.row.2 with Z|⟨g,cap,Y,O,hb,J,r⟩
  ·exact .inl Z
  ·exact .inr ⟨g,cap,Y,O,hb,(D.block g (Array.getElem?_eq_some_iff.1 J).1 (fun e=>hv (by rw[O,e];rfl))).trans J,r⟩
 ·obtain⟨cs,hc,r⟩:=A.el i y hy;exact⟨cs,Yxa hc I h1 D,r⟩
theorem SaiW.bel {E:World}{D:Nat}{w w':World}{base:Nat}{x:Sai}{p:SaiV}(h:SaiW E D w base x p)(A:yw w w'):SaiW E D w' base x p:=by
 obtain⟨F,I,J,O,Q,xs,U⟩:=h;exact⟨F,I,Nat.le_trans J A.size,fun k V W=>(A.block k (by omega)).trans (O k V W),Q,xs,U.bel A⟩
theorem SaiW.sai {D:World}{A:Nat}{w:World}{base:Nat}{x:Sai}{p:SaiV}(h:SaiW D A w base x p):SaiR w x p:=SaiO.sai ⟨D,A,h⟩
theorem Xyb (x:Sai)(b:Bkg)(v:Value)(z:Nat)(w:World)(h9:yI w z 9 x.day)(Z:yI w z 10 x.leaves) :
  Calls prog 226 #[.pointer (some ⟨z,0,none⟩),.agg (Qk b v)] w fun e w'=>e=.returned (.bool (Xna x b))∧yw w w':=by
 obtain⟨id,aa,E,Y,lev,Q,U,X,upto,A,W⟩:=b;obtain⟨r,O⟩:=yE (Xna x ⟨id,aa,E,Y,lev,Q,U,X,upto,A,W⟩);rw[←O];have F:=yh (show r=(decide (x.leaves≤x.day) || (decide (E=1) && (decide (A<x.day) || decide (x.leaves≤A))))from O);clear O;go_enter func226,ntmps226;go_upto_region 0 with(fail);go_cut [3,4] (fun p _ wx=>∃h,yp p h∧Blk wx h (Qk ⟨id,aa,E,Y,lev,Q,U,X,upto,A,W⟩ v) 63∧yw w wx)
 case first=>as_aux_lemma=>
  go_wp2_with fail;go_meet;exact⟨_,rfl,Zk _ _,Qi _ _⟩
 obtain⟨h,rfl,J,D⟩:=hcut;replace h9:=Qh D h9;replace Z:=Qh D Z;have h2:yI wc h 2 E:=J.cell rfl;have h3:yI wc h 9 A:=J.cell rfl;clear J;go_upto_region 1 with(fail);by_cases q1:x.leaves≤x.day
 ·obtain rfl:r=true:=by rw[F.out,J2 q1];rfl
  have I:decide (x.leaves≤x.day)=true:=J2 q1;clear q1;go_quiet (fail);go_wp2_with fail;go_ret;exact⟨rfl,below_drewN D _⟩
 have I:decide (x.leaves≤x.day)=false:=J3 q1;by_cases q2:E=1;rotate_left
 ·obtain rfl:r=false:=by rw[F.out,I,J3 q2];rfl
  have d2:(E==1)=false:=by simpa using q2
  clear q1 q2;go_quiet (fail);go_wp2_with fail;go_ret;exact⟨rfl,below_drewN D _⟩
 subst q2;by_cases q3:A<x.day
 ·obtain rfl:r=true:=by rw[F.out,I,J2 q3];rfl
  have V:decide (A<x.day)=true:=J2 q3;clear q1 q3;go_quiet (fail);go_wp2_with fail;go_ret;exact⟨rfl,below_drewN D _⟩
 have V:decide (A<x.day)=false:=J3 q3;obtain⟨u,hu⟩:∃u,decide (x.leaves≤A)=u:=⟨_,rfl⟩
 obtain rfl:r=u:=by rw[F.out,I,V,hu];simp
 clear q1 q3;go_quiet (fail);go_wp2_with fail;go_ret;exact⟨rfl,below_drewN D _⟩
theorem ZEa {x:Sai}(D:OkSai x):∀b∈x.bks,1≤b.id∧b.id≤999999:=fun b A=>Ql.1 (D.bs.bk b A).id
theorem ZQa {w:World}{e:Nat}{a b c:Int}(h:Blk w e #[.int .i64 a,.int .i64 b,.int .i64 c] 140)(D:InI a)(E:InI b)(F:InI c):Sl Qm 3 w All (some ⟨e,0,none⟩) 1 1 [⟨a,b,c⟩]:=
 Sl.ofBlk (c:=Qm) (size:=3) h ([⟨a,b,c⟩]:List Entry) (by simp) trivial fun i x A=>by
  rcases i with _|i
  ·simp at A;subst A;exact⟨[.int .i64 a,.int .i64 b,.int .i64 c],⟨rfl,D,E,F⟩,rfl,fun j u I=>by simpa using I⟩
  ·simp at A
def Q5c (r:Int) (P:Prop):Prop:=r=0→P
theorem Uva {l:List Bkg}{b c:Bkg}(h:c∈XS l b):c=b∨c∈l:=by
 unfold XS at h;rcases List.mem_append.1 h with h|h
 ·exact .inr (List.mem_of_mem_take h)
 ·rcases List.mem_cons.1 h with h|h
  ·exact .inl h
  ·exact .inr (List.mem_of_mem_drop h)
theorem XZa (l:List Bkg)(b:Bkg):(XS l b).length=l.length+1:=by
 unfold XS;have:Ze l b.id≤l.length:=List.findIdx_le_length;rw[J9,List.length_cons,J8,List.length_drop];omega
theorem Qjc {x:Shp}{b:Bkg}{f:List Entry}(h:Qe b.fol=0)(A:Qe f=0):ofE x { b with fol:=f } = ofE x b:=by
 unfold ofE kindE Zga YY;rw[h,A]
 rfl
theorem Yib (w0:World)(b0:Nat)(x:Sai)(p:SaiV)(b:Bkg)(A3:Option Addr)(n3 c3:Nat)(base z:Nat)(w:World)(hO:SaiW w0 b0 w base x p)(ay:base≤w.heap.size)(hZ:Blk w z (Qa x p) 230)(bK:w0.heap.size≤z)(O:OkSai x)
  (hI:BkIn b) (hk:OkBk x.ship b) :
  Calls prog 178 #[.pointer (some ⟨z,0,none⟩),.agg (Qk b (.slice A3 n3 c3))] w fun e w'=>e=.returned (.int .i64 (VSa x b))∧Q5c (VSa x b) (∃p',Blk w' z (Qa (Q4 x (UU x b)) p') 230∧SaiW w0 b0 w' base (Q4 x (UU x b)) p')∧Below base w w':=by
 obtain⟨A,n,cap,B,m,ac,D,nd,cd,E,ne,ce,C,Z,cb⟩:=p;have aH:=yh (fun X hl=>XY x ⟨A,n,cap,B,m,ac,D,nd,cd,E,ne,ce,C,Z,cb⟩ b.id X hl (QP O.bs.rise) (ZEa O) O.bs.len hI.id);have ap:=yh (fun v X h9 bD=>Xyb x b v z X h9 bD);obtain⟨k,f,t,L,e1,e2,e3,e4,e5,e6,e7,e8,e9⟩:=QJa (Vz O.fares) O.bs.ship hk;have aA:=Vz O.fares;have aq:=yh (fun X hF=>Q7c D nd cd x.fares E ne ce k f t b.gst L X hF e4 e5 e6 e7 e8 aA.a aA.t hk.gst);rw[←e9]at aq;have aY:=Vka aA O.bs.ship hk;have bi:=Ql.1 O.day;have ba:=yh (fun q W h1 h2 hf=>Vwa w0 b0 x ⟨A,n,cap,B,m,ac,D,nd,cd,E,ne,ce,C,Z,cb⟩ (UU x b) (some ⟨q,0,none⟩) 1 1 base W h1 h2 (QP O.bs.rise) (ZEa O) O.bs.len hf (by omega) ⟨hI.id,hI.kind,hI.state,hI.gst,hI.cab,hI.cat,hI.frm,hI.upto,hI.til⟩ (Ql.1 hk.id))
 have bn:∀c∈XS x.bks (UU x b),OkBk x.ship c:=fun c hc=>by
  rcases Uva hc with rfl|hc
  ·exact Yca O hk
  ·exact O.bs.bk c hc
 have bJ:=O.bs.len;have aI:=yh (fun p W (h:SaiR W (Q4 x (UU x b)) p) (bT:x.bks.length≠16)=>UKa (Q4 x (UU x b)) p W h O.bs.ship bn (by rw[show(Q4 x (UU x b)).bks=XS x.bks (UU x b)from rfl,XZa];omega))
 have aU:b.kind=1→0≤b.cab∧b.cab.toNat<m:=fun h1=>by
  have h:=hk.kindE;unfold kindE at h;rw[M2 (by omega)]at h;unfold YY at h;by_cases h4:Qc b.cab 0 ((x.ship.cabs.length:Int)-1)=false
  ·rw[M3 h4]at h;omega
  have h5:=Ql.1 (Ub h4);have:=hO.sai.cabs.len;simp only at this;omega
 obtain⟨r,hr⟩:=yE (VSa x b);obtain⟨lb,aW⟩:=yE (Xna x b);obtain⟨hi,aT⟩:=yE (ZA x.bks b.id);obtain⟨rm,aB⟩:=yE (QX (Q4 x (UU x b)));obtain⟨tv,b6⟩:=yE (XYb x b);obtain⟨pr,aZ⟩:=yE (QIa x b);obtain⟨ct,aS⟩:=yE (VMa x b);obtain⟨fb,am⟩:=yE (UU x b);have aX:x.bks.length=Z:=hO.sai.bks.len;have HR:=yh (show r=if tv=true then 4 else if hi=true then 6 else if Z=16 then 2 else rm by rw[hr,b6,aT,aB,←aX];rfl);have ar:=yh (show tv=(lb || (decide (b.kind=2) && x.closed))by rw[b6,aW];rfl);rw[←aW]at ap;rw[←aT]at aH;rw[←aZ]at aq aY;rw[←aS]at e1;rw[←am]at ba aI aB;rw[←aB]at aI;rw[←hr,←am];have b7:=yh (show ∀v,Qk fb v=#[.int .i64 b.id,.int .i64 b.kind,.int .i64 b.state,.int .i64 b.gst,.bool b.lev,.int .i64 b.cab,.int .i64 b.cat,.int .i64 b.frm,.int .i64 b.upto,.int .i64 b.til,v]by intro v;rw[am];rfl);have br:=yh (show fb.fol=[⟨x.day,1,pr⟩]by rw[am,aZ];rfl);have a5:=yh aS;have bw:=yh aX;clear hr aW aT aB b6 aZ am bn e9 bJ aS;subst e1;have aG:=yh hO;have ao:=hO.sai;have aJ:=yh ao;have bP:=yh (show m=x.ship.cabs.length from ao.cabs.len.symm);have bI:=ao.cabs.bd;simp only at bI;have bF:=ao.cabs.le;simp only at bF;obtain⟨id,b4,aC,au,lev,af,ag,bS,upto,aD,bC⟩:=b;simp only at e2 e3 aq ar b7 aU ap aH;subst e2 e3;have aV:=Ql.1 hk.kind;simp only at aV;have bN:=yh aV;clear aV;have bu:=yh aU;clear aU;have bq:=yh bi;have bz:=yh aY;clear hk hI e4 e5 e6 e7 e8 hO ao bi aY aX O aA;go_enter func178,ntmps178;go_upto_region 0 with(fail);go_cut [3,4] (fun p _ wx=>∃h,yp p h∧w.heap.size≤h∧Blk wx h (Qk ⟨id,b4,aC,au,lev,af,ag,(f:Int),(t:Int),aD,bC⟩ (.slice A3 n3 c3)) 63∧yw w wx)
 case first=>as_aux_lemma=>
  go_wp2_with fail;go_meet;exact⟨_,rfl,J5 _,Zk _ _,Qi _ _⟩
 obtain⟨h,rfl,hh,hH,ae⟩:=hcut;obtain⟨W1,rfl⟩:=yE wc;have b8:=hZ.lt
 have Q:z≠h:=by omega
 have F:=yh (fun X (hX:yw W1 X)=>(hZ.bel ae).bel hX);have I:=yh (fun X (hX:yw W1 X)=>hH.bel hX);have HT:=yh (fun X (hX:yw W1 X)=>ae.trans (hX.mono ae.size));have aE:=yh (fun X (hX:yw W1 X)=>(ae.trans (hX.mono ae.size)).mono ay);have ai:=yh (show ∀w',yw W1 w'→((yI w' z 0 x.ship.legs∧yI w' z 1 x.ship.souls∧yJ w' z 2 A n cap∧yJ w' z 3 B m ac∧yJ w' z 4 D nd cd∧yI w' z 5 x.fares.alone∧yI w' z 6 x.fares.third∧yJ w' z 7 E ne ce∧yI w' z 8 x.fares.down∧yI w' z 9 x.day∧yI w' z 10 x.leaves∧yJ w' z 11 C Z cb∧w'.cell? ⟨z,12,none⟩=some (.bool x.closed))∧(yI w' h 0 id∧yI w' h 1 b4∧yI w' h 2 aC∧yI w' h 3 au∧w'.cell? ⟨h,4,none⟩=some (.bool lev)∧yI w' h 5 af∧yI w' h 6 ag∧yI w' h 7 (f:Int)∧yI w' h 8 (t:Int)∧yI w' h 9 aD))from fun w' hX=>⟨(fun hX=>(⟨(F _ hX).cell rfl,(F _ hX).cell rfl,(F _ hX).cell rfl,(F _ hX).cell rfl,(F _ hX).cell rfl,(F _ hX).cell rfl,(F _ hX).cell rfl,(F _ hX).cell rfl,(F _ hX).cell rfl,(F _ hX).cell rfl,(F _ hX).cell rfl,(F _ hX).cell rfl,(F _ hX).cell rfl⟩)) hX,(I _ hX).cell rfl,(I _ hX).cell rfl,(I _ hX).cell rfl,(I _ hX).cell rfl,(I _ hX).cell rfl,(I _ hX).cell rfl,(I _ hX).cell rfl,(I _ hX).cell rfl,(I _ hX).cell rfl,(I _ hX).cell rfl⟩);have bY:=ae.size;have V:yw W1 W1:=J4 _ _;clear hH ae;go_upto_region 1 with(fail);go_cut [22] (fun p wx=>p=.bool tv∧yw W1 wx)
 case first=>as_aux_lemma=>
  have HC:=yh (ap (.slice A3 n3 c3) W1 ((F _ V).cell rfl) ((F _ V).cell rfl));go_wp2_with (refine yV (.tmp 3) (I _ V) underlying63 ?_);refine yM HC fun w2 ad=>?_;have h1:yI w2 h 1 b4:=(I _ ad).cell rfl;have b1:w2.cell? ⟨z,12,none⟩=some (.bool x.closed):=(F _ ad).cell rfl;cases lb
  ·by_cases q1:b4=2
   ·obtain rfl:tv=x.closed:=by rw[ar.out,J2 q1];simp
    subst q1;go_wp2_with fail;go_meet;exact⟨rfl,ad⟩
   ·obtain rfl:tv=false:=by rw[ar.out,J3 q1];rfl
    have q2:(b4==2)=false:=by simpa using q1
    clear q1;go_wp2_with fail;go_meet;exact⟨rfl,ad⟩
  ·obtain rfl:tv=true:=by rw[ar.out];rfl
   go_wp2_with fail;go_meet;exact⟨rfl,ad⟩
 obtain⟨rfl,ad⟩:=hcut;replace V:=V.trans (ad.mono V.size);clear ad ap;cases tv;rotate_left
 ·obtain rfl:r=4:=by rw[HR.out];rfl
  go_wp2_with fail;go_ret;exact⟨rfl,fun h=>absurd h (by decide),aE _ V⟩
 obtain⟨W2,rfl⟩:=yE wc;go_upto_region 3 with(fail);have b3:yw W1 W2.drew:=V.drew;refine yZ (S:=(fun w'=>(yI w' z 0 x.ship.legs∧yI w' z 1 x.ship.souls∧yJ w' z 2 A n cap∧yJ w' z 3 B m ac∧yJ w' z 4 D nd cd∧yI w' z 5 x.fares.alone∧yI w' z 6 x.fares.third∧yJ w' z 7 E ne ce∧yI w' z 8 x.fares.down∧yI w' z 9 x.day∧yI w' z 10 x.leaves∧yJ w' z 11 C Z cb∧w'.cell? ⟨z,12,none⟩=some (.bool x.closed))∧(yI w' h 0 id∧yI w' h 1 b4∧yI w' h 2 aC∧yI w' h 3 au∧w'.cell? ⟨h,4,none⟩=some (.bool lev)∧yI w' h 5 af∧yI w' h 6 ag∧yI w' h 7 (f:Int)∧yI w' h 8 (t:Int)∧yI w' h 9 aD))) (ai _ b3) fun aa=>?_;refine yT [0,1,2,3,4,5] ?_;iterate 6 (refine yS ?_;simp only[yU])
 refine yR 6 fun K hK=>?_;go_simp
 (go_at_call 141;refine(aH _ (aJ.bel (HT _ b3)).bks).mono ?_;rintro e w3 ⟨i,rfl,_,_,ak⟩;replace b3:=b3.trans (ak.mono b3.size);clear ak)
 go_wp2_with fail;refine hK.out _ _ (ai _ b3) fun aa=>?_;clear hK K
 try simp only[yU]
 refine yT [7,8,9,10,11] ?_;iterate 5 (refine yS ?_;simp only[yU])
 refine yD ?_;clear V;cases hi;rotate_left
 ·obtain rfl:r=6:=by rw[HR.out];rfl
  go_wp2_with fail;go_ret;exact⟨rfl,fun h=>absurd h (by decide),aE _ b3⟩
 have bM:yJ w3 z 11 C Z cb:=(F _ b3).cell rfl;by_cases hn16:Z=16
 ·obtain rfl:r=2:=by rw[HR.out];simp[hn16]
  subst hn16;go_wp2_with fail;go_ret;exact⟨rfl,fun h=>absurd h (by decide),aE _ b3⟩
 have bA:=yh (show r=rm by rw[HR.out];simp[hn16])
 have bX:((Z:Int)==16)=false:=by simp;omega
 have bv:=yh hn16;have h6:yI w3 h 6 ag:=(I _ b3).cell rfl;have h1:yI w3 h 1 b4:=(I _ b3).cell rfl;clear hn16;go_upto_if 45 with(fail);obtain⟨W3,bE⟩:=yE w3;subst bE;go_cut [7] (fun p wx=>p=.int .i64 (k:Int)∧yw W3 wx)
 case first=>as_aux_lemma=>
  by_cases q1:b4=1
  ·obtain⟨c0,cl⟩:=bu q1;obtain⟨cn,rfl⟩:∃j:Nat,af=j:=⟨af.toNat,by omega⟩
   have bH:cn<m:=by omega
   obtain⟨ab,bL,nm,bB,bR,lv,rfl,bm,y0,y1,y2,y3⟩:=((aJ.bel (HT _ b3)).cabs).cab bH
   have al:(k:Int)=bB:=by
    rw[a5.out];unfold VMa;rw[M3 q1];simp only[Int.toNat_natCast,bm]
   have aF:=yh al;have z3:yJ W3 z 3 (some ⟨ab,bL,none⟩) m ac:=(F _ b3).cell rfl;have h5:yI W3 h 5 (cn:Int):=(I _ b3).cell rfl
   have q2:(0:Int)≤(cn:Int):=by omega
   have q3:(cn:Int)<(m:Int):=by omega
   subst q1;clear al bm cl c0;go_upto_region 10 with(fail);go_quiet (fail);go_wp2_with fail;go_meet;exact⟨by rw[aF.out],below_drewN (J4 _ _) _⟩
  ·have al:(k:Int)=ag:=by
    rw[a5.out];unfold VMa;rw[M2 q1]
   have aF:=yh al;clear al
   have q2:(b4==1)=false:=by simpa using q1
   clear q1;go_wp2_with fail;go_meet;exact⟨by rw[aF.out],J4 _ _⟩
 obtain⟨rfl,ak⟩:=hcut;have V:=b3.trans (ak.mono b3.size);clear b3 ak bM h6 h1;obtain⟨W4,rfl⟩:=yE wc;go_upto_region 11 with(fail);go_cut [3] (fun p wx=>yp p h∧∃q,Blk wx h (Qk fb (.slice (some ⟨q,0,none⟩) 1 1)) 63∧Blk wx q #[.int .i64 x.day,.int .i64 1,.int .i64 pr] 140∧q≠h∧Kept (fun k=>k=h) W4 wx)
 case first=>
  have b3:yw W1 W4.drew:=V.drew;have aM:Kept (fun k=>k=h) W4 W4.drew:=(Kept.refl _ _).drew;refine yZ (S:=(fun w'=>(yI w' z 0 x.ship.legs∧yI w' z 1 x.ship.souls∧yJ w' z 2 A n cap∧yJ w' z 3 B m ac∧yJ w' z 4 D nd cd∧yI w' z 5 x.fares.alone∧yI w' z 6 x.fares.third∧yJ w' z 7 E ne ce∧yI w' z 8 x.fares.down∧yI w' z 9 x.day∧yI w' z 10 x.leaves∧yJ w' z 11 C Z cb∧w'.cell? ⟨z,12,none⟩=some (.bool x.closed))∧(yI w' h 0 id∧yI w' h 1 b4∧yI w' h 2 aC∧yI w' h 3 au∧w'.cell? ⟨h,4,none⟩=some (.bool lev)∧yI w' h 5 af∧yI w' h 6 ag∧yI w' h 7 (f:Int)∧yI w' h 8 (t:Int)∧yI w' h 9 aD))) (ai _ b3) fun aa=>?_;refine yT [0,1,2,3,4,5,6,7,8,9,10,11,12,13,14] ?_;iterate 15 (refine yS ?_;simp only[yU])
  refine yR 15 fun K hK=>?_;go_simp
  (go_at_call 124;refine yM (aq _ (aJ.bel (HT _ b3)).fares) fun w5 aO=>?_;have bZ:=b3.size;have aM:=aM.trans (Kept.of_below aO (fun k hk bW=>by omega));replace b3:=b3.trans (aO.mono b3.size);clear aO)
  go_wp2_with fail;refine hK.out _ _ (ai _ b3) fun aa=>?_;clear hK K
  try simp only[yU]
  refine yT [16] ?_;iterate 1 (refine yS ?_;simp only[yU])
  refine yR 17 fun K hK=>?_;go_simp;refine hK.out _ _ (ai _ (b3.alloc b3.size _)) fun aa=>?_;clear hK K
  try simp only[yU]
  have a0:=Xmb b3 #[.int .i64 x.day,.int .i64 1,.int .i64 pr] 140;have U:=I _ (b3.alloc b3.size (.cells #[.int .i64 x.day,.int .i64 1,.int .i64 pr] 140));have J:=F _ (b3.alloc b3.size (.cells #[.int .i64 x.day,.int .i64 1,.int .i64 pr] 140));have bV:=(I _ b3).lt
  have an:w5.heap.size≠h:=by omega
  have bl:=U.free 10;have bo:=U.cell (j:=10) rfl;have be:=aM.alloc (.cells #[.int .i64 x.day,.int .i64 1,.int .i64 pr] 140);obtain⟨qn,b5⟩:=yE w5.heap.size;rw[←b5]at a0 an ⊢;obtain⟨w6,a3⟩:=yE (w5.alloc (.cells #[.int .i64 x.day,.int .i64 1,.int .i64 pr] 140));rw[←a3]at a0 U J bo bl be aa ⊢;have bO:=yh b5;have bQ:=yh a3;clear b5 a3;refine yT [18] ?_;iterate 1 (refine yS ?_;simp only[yU])
  refine yR 19 fun K hK=>?_;go_simp;refine hK.out _ _ (⟨⟨(J.other (p:=⟨h,10,none⟩) (fun e=>Q e.symm) _).cell rfl,(J.other (p:=⟨h,10,none⟩) (fun e=>Q e.symm) _).cell rfl,(J.other (p:=⟨h,10,none⟩) (fun e=>Q e.symm) _).cell rfl,(J.other (p:=⟨h,10,none⟩) (fun e=>Q e.symm) _).cell rfl,(J.other (p:=⟨h,10,none⟩) (fun e=>Q e.symm) _).cell rfl,(J.other (p:=⟨h,10,none⟩) (fun e=>Q e.symm) _).cell rfl,(J.other (p:=⟨h,10,none⟩) (fun e=>Q e.symm) _).cell rfl,(J.other (p:=⟨h,10,none⟩) (fun e=>Q e.symm) _).cell rfl,(J.other (p:=⟨h,10,none⟩) (fun e=>Q e.symm) _).cell rfl,(J.other (p:=⟨h,10,none⟩) (fun e=>Q e.symm) _).cell rfl,(J.other (p:=⟨h,10,none⟩) (fun e=>Q e.symm) _).cell rfl,(J.other (p:=⟨h,10,none⟩) (fun e=>Q e.symm) _).cell rfl,(J.other (p:=⟨h,10,none⟩) (fun e=>Q e.symm) _).cell rfl⟩,(U.set _).cell rfl,(U.set _).cell rfl,(U.set _).cell rfl,(U.set _).cell rfl,(U.set _).cell rfl,(U.set _).cell rfl,(U.set _).cell rfl,(U.set _).cell rfl,(U.set _).cell rfl,(U.set _).cell rfl⟩) fun aa=>?_;clear hK K
  try simp only[yU]
  have p1:=U.set (j:=10) (.slice (some ⟨qn,0,none⟩) 1 1);have p2:=a0.other (p:=⟨h,10,none⟩) (fun e=>an e.symm) (.slice (some ⟨qn,0,none⟩) 1 1);have p3:=be.setCell (p:=⟨h,10,none⟩) (.inl rfl) (.slice (some ⟨qn,0,none⟩) 1 1);refine yD ?_;clear bl bo;go_wp2_with fail;go_meet;exact⟨rfl,_,by rw[b7.out];exact p1,p2,an,p3⟩
 obtain⟨rfl,q,Y,hQ,an,hK⟩:=hcut;obtain⟨W5,rfl⟩:=yE wc;have aR:=HT _ V;have az:yw w W5:=aR.trans (hK.below (B:=w.heap.size) aR.size (fun k hk e=>by omega));have J:Blk W5 z (Qa x ⟨A,n,cap,B,m,ac,D,nd,cd,E,ne,ce,C,Z,cb⟩) 230:=(F _ V).kept hK (fun e=>Q e);have bf:SaiW w0 b0 W5 base x ⟨A,n,cap,B,m,ac,D,nd,cd,E,ne,ce,C,Z,cb⟩:=aG.bel az;have bh:base≤W5.heap.size:=Nat.le_trans ay az.size
 have bj:Sl Qm 3 W5 All (some ⟨q,0,none⟩) 1 1 fb.fol:=by
  rw[br.out];have hd:=bq.out;have hp:=bz.out;exact ZQa hQ (.of (by omega) (by omega)) (.of (by decide) (by decide)) (.of (by omega) (by omega))
 have a7:=yh (show ∀j,(Value.slice C Z cb).ownBlock=some j→j<w.heap.size∧j≠z from fun j hj=>by
  obtain⟨_,_,_,_,_,xs,a6⟩:=aG.out
  exact⟨(a6.lt j hj).2,fun e=>a6.neTy hZ (by decide) (by rw[←e];exact hj)⟩)
 have a8:=yh (show ∀X,yw W5 X→((fun w'=>yI w' h 0 fb.id∧yI w' h 1 fb.kind∧yI w' h 2 fb.state∧yI w' h 3 fb.gst∧w'.cell? ⟨h,4,none⟩=some (.bool fb.lev)∧yI w' h 5 fb.cab∧yI w' h 6 fb.cat∧yI w' h 7 fb.frm∧yI w' h 8 fb.upto∧yI w' h 9 fb.til∧yJ w' h 10 (some ⟨q,0,none⟩) 1 1)) X from fun w' hX=>⟨(Y.bel hX).cell rfl,(Y.bel hX).cell rfl,(Y.bel hX).cell rfl,(Y.bel hX).cell rfl,(Y.bel hX).cell rfl,(Y.bel hX).cell rfl,(Y.bel hX).cell rfl,(Y.bel hX).cell rfl,(Y.bel hX).cell rfl,(Y.bel hX).cell rfl,(Y.bel hX).cell rfl⟩);have a9:=yh (show ∀X,Blk X h (Qk fb (.slice (some ⟨q,0,none⟩) 1 1)) 63→((fun w'=>yI w' h 0 fb.id∧yI w' h 1 fb.kind∧yI w' h 2 fb.state∧yI w' h 3 fb.gst∧w'.cell? ⟨h,4,none⟩=some (.bool fb.lev)∧yI w' h 5 fb.cab∧yI w' h 6 fb.cat∧yI w' h 7 fb.frm∧yI w' h 8 fb.upto∧yI w' h 9 fb.til∧yJ w' h 10 (some ⟨q,0,none⟩) 1 1)) X from fun w' hX=>⟨hX.cell rfl,hX.cell rfl,hX.cell rfl,hX.cell rfl,hX.cell rfl,hX.cell rfl,hX.cell rfl,hX.cell rfl,hX.cell rfl,hX.cell rfl,hX.cell rfl⟩);have ah:yw W5 W5.drew:=(J4 _ _).drew;have HW:=yh (ba q W5.drew (bf.bel ah) bh (bj.bel ah));have bb:=yh (J.bel ah);have bt:=yh (Y.bel ah);have bp:=yh az;clear az;clear Y hQ an hK aR J bf bj V;go_upto_region 12 with(fail);go_cut [0] (fun p wx=>yp p z∧∃p',Blk wx z (Qa (Q4 x fb) p') 230∧SaiW w0 b0 wx base (Q4 x fb) p'∧Below base w wx)
 case first=>
  refine yZ (S:=((fun w'=>yI w' h 0 fb.id∧yI w' h 1 fb.kind∧yI w' h 2 fb.state∧yI w' h 3 fb.gst∧w'.cell? ⟨h,4,none⟩=some (.bool fb.lev)∧yI w' h 5 fb.cab∧yI w' h 6 fb.cat∧yI w' h 7 fb.frm∧yI w' h 8 fb.upto∧yI w' h 9 fb.til∧yJ w' h 10 (some ⟨q,0,none⟩) 1 1))) (a8 _ ah) fun aa=>?_;refine yT [0,1,2,3,5] ?_;iterate 5 (refine yS ?_;simp only[yU])
  refine yR 4 fun K hK=>?_
  (refine wp_load_row 32 (.tmp 79) rfl z rfl 230 _ (0,0) _ bb underlying32 rfl (by kernel_rfl) ?_)
  refine hK.out _ _ (a8 _ ah) fun aa=>?_;clear hK K
  try simp only[yU]
  refine yR 6 fun K hK=>?_;go_simp
  (go_at_call 142;refine HW.mono ?_;rintro e w6 ⟨p',rfl,bg,aP,aL⟩;have aK:=bt.kept aL (fun e=>by have:=(a7 _ e).1;omega);have av:=bb.kept aL (fun e=>(a7 _ e).2 rfl))
  go_wp2_with fail;refine hK.out _ _ (a9 _ aK) fun aa=>?_;clear hK K
  try simp only[yU]
  refine yT [7,8] ?_;iterate 2 (refine yS ?_;simp only[yU])
  have bG:h≠z:=fun e=>Q e.symm;refine yR 9 fun K hK=>?_
  (refine wp_store_row 32 (.tmp 84) (.tmp 82) rfl z (Qa (Q4 x fb) p') rfl rfl 230 _ av (by kernel_rfl) rfl (by simp[Value.oneCell']) ?_)
  refine hK.out _ _ (a9 _ (aK.rowOther bG _)) fun aa=>?_;clear hK K
  try simp only[yU]
  have aN:Kept (fun k=>k=z) w6 (w6.setRow z (Qa (Q4 x fb) p')):=(yk z w6).setRow (.inl rfl) _;have aw:=av.row (Qa (Q4 x fb) p');have aj:=bg.keepZ av (by decide) (by decide) bK aN
  have bU:base≤z:=by obtain⟨a1,a2,_⟩:=aG.out;omega
  have ax:Below base w (w6.setRow z (Qa (Q4 x fb) p')):=((bp.mono ay).drew.trans aP).trans (aN.below (B:=base) (Nat.le_trans bh aP.size) (fun k hk e=>by omega));refine yD ?_;clear aK av bg aL aP aN;go_wp2_with fail;go_meet;exact⟨rfl,p',aw,aj,ax⟩
 obtain⟨rfl,p',aw,aj,ax⟩:=hcut;have HC:=yh (aI p' _ aj.sai (by rw[bw.out];exact fun e=>by have h:=bv.out;rw[e]at h;simp at h));have bc:=yh aw;have bx:=yh aj;clear aj;have a4:=yh ax;clear ax;clear aw;go_wp2_with (refine wpList_load_row rfl 32 (.tmp 87) rfl z rfl 230 _ (0,0) _ bc underlying32 rfl (by kernel_rfl) ?_);refine yM HC fun w8 aQ=>?_;go_wp2_with fail;go_ret;exact⟨by rw[bA.out];rfl,fun _=>⟨p',bc.bel aQ,bx.bel aQ⟩,a4.trans (aQ.mono (Nat.le_trans ay a4.size))⟩
def Qf:Sai:=⟨⟨0,0,[],[]⟩,⟨[],0,0,[],0⟩,0,0,[],false⟩
abbrev Qg:SaiV:=⟨none,0,0,none,0,0,none,0,0,none,0,0,none,0,0⟩
def okS (e:Int) (x:Sai):Sai:=if e=0 then x else Qf
theorem Uf (x:Sai):okS 0 x=x:=rfl
theorem Ul {e:Int}(h:¬e=0)(x:Sai):okS e x=Qf:=M2 h
theorem UJ:InI 0:=.of (by decide) (by decide)
theorem Vw (w:World)(base:Nat)(h:base≤w.heap.size):SaiO w base Qf Qg:=
 ⟨w,base,J5 _,h,J5 _,fun _ _ _=>rfl,⟨⟨[],Own.nil _ _ _ _ _⟩,⟨[],Own.nil _ _ _ _ _⟩,⟨[],Own.nil _ _ _ _ _⟩,⟨[],Own.nil _ _ _ _ _⟩,UJ,UJ,UJ⟩,[],Own.nil _ _ _ _ _⟩
theorem UA (w:World):SaiR w Qf Qg:=(Vw w 0 (M0 _)).sai
theorem Blk.ret2 {D:Func}{k u:Tmp}{ty t:TypeId}(J:D.results=#[.cell k ty,.tmp u]){A:Array Value}{w:World}{g:Nat}{cs:Array Value}{d:TypeDesc}(O:Blk w g cs t)(U:A.getD k undef=.pointer (some ⟨g,0,none⟩)){e:Value}(I:A.getD u undef=e)
  (V:Tryz.prog.underlying ty=some d) (F:(match d with | .struct _ | .array _ _=>true|_=>false)=true) (Q:(Tryz.prog.info? ty).map (·.size)=some cs.size):(results D A).run prog w=.ok (.tuple #[.agg cs,e]) w:=by
 have E:w.heap[g]? = some (.cells cs t (0,0)):=O;rw[results_cell_tmp (p:=k) (u:=u) (ty:=ty) J,U,I]
 cases d<;>first|simp[asAddr,run_loadVar_row w g t ty cs (0,0) _ E V rfl Q,Sem.run_pure]|simp at F
noncomputable def ZPa (x:Sai) (b:Bkg) (kind:Int):Int:=if b.kind≠kind∨b.state=3 then 7 else if 0<b.fol.length∨kind=2∧b.cab≠-1 then 1 else if ofE x.ship b≠0 then ofE x.ship b else VSa x b
noncomputable def U6 (x:Sai) (b:Bkg) (kind:Int):Int:=if QD x≠0 then QD x else ZPa x b kind
def U7 (x:Sai) (b:Bkg):Sai:=Q4 x (UU x b)
def YM (w':World) (base:Nat) (E:Int) (X:Sai) (e:Ending):Prop:=∃y p',e=.returned (.tuple #[.agg (Qa y p'),.int .i64 E])∧y=okS E X∧SaiO w' base y p'
theorem Qeb (x:Sai)(p:SaiV)(b:Bkg)(A3:Option Addr)(O c3:Nat)(ac:Int)(w:World)(hS:SaiR w x p)(hf:Sl Qm 3 w All A3 O c3 b.fol)(hI:BkIn b) :
  Calls prog 94 #[.agg (Qa x p),.agg (Qk b (.slice A3 O c3)),.int .i64 ac] w fun e w'=>YM w' w.heap.size (U6 x b ac) (U7 x b) e∧yw w w':=by
 have ao:=yh (fun X hX=>UG x p X hX);have aN:=yh (fun X h ho=>UI x p X h ho);have ai:=yh (fun w0 b0 p base z X h1 W h3 h4 ho hk=>Yib w0 b0 x p b A3 O c3 base z X h1 W h3 h4 ho hI hk);have ah:=yh (fun X hc hb ho hf=>QBa x.ship p.A p.n p.cap p.B p.m p.cap2 b A3 O c3 X hc hb ho hf);obtain⟨r,hr⟩:=yE (QD x);obtain⟨R,hR⟩:=yE (U6 x b ac);obtain⟨oe,am⟩:=yE (ofE x.ship b);obtain⟨pe,au⟩:=yE (VSa x b);obtain⟨Y,hY⟩:=yE (U7 x b);have aG:=hf.len;have HR:=yh (show R=if r≠0 then r else if b.kind≠ac∨b.state=3 then 7 else if 0<O∨ac=2∧b.cab≠-1 then 1 else if oe≠0 then oe else pe by rw[hR,hr,am,au,←aG];rfl);rw[←hr]at ao;rw[←am]at ah;rw[←au]at ai;rw[←hR,←hY];have aR:=yh (show Q4 x (UU x b)=Y from hY.symm);rw[aR.out]at ai;have aO:=yh hr;have aL:=yh am;have HS:=yh hS;have HF:=yh hf;clear hr hR am au hY aG;obtain⟨A,n,cap,B,m,az,D,nd,cd,E,ne,ce,C,nb,cb⟩:=p;obtain⟨id,ab,an,aV,lev,aa,aS,aU,upto,bf,aT⟩:=b;simp only at ah HR;clear hS hf hI;go_enter func94,ntmps94;go_upto_region 0 with(fail);go_cut [3,4,6,7] (fun p p2 Z p4 V=>∃g h z,yp p g∧yp p2 h∧yp Z z∧p4=.int .i64 0∧w.heap.size≤g∧w.heap.size≤h∧w.heap.size≤z∧Blk V g (Qa x ⟨A,n,cap,B,m,az,D,nd,cd,E,ne,ce,C,nb,cb⟩) 32∧Blk V h (Qk ⟨id,ab,an,aV,lev,aa,aS,aU,upto,bf,aT⟩ (.slice A3 O c3)) 63∧Blk V z M9 32∧yw w V)
 case first=>as_aux_lemma=>
  go_wp2_with fail;go_meet;exact⟨_,_,_,rfl,rfl,rfl,rfl,J5 _,by omega,by omega,Vc _ _ _ _,Vd _ _ _ _,Ve _ _ _ _,X0 _ _ _ _⟩
 obtain⟨g,h,z,rfl,rfl,rfl,rfl,hg,hh,hz,hG,hH,hZ,ak⟩:=hcut;obtain⟨J,rfl⟩:=yE wc;have HT:=yh (fun X (hX:yw J X)=>ak.trans (hX.mono ak.size));have F:=yh (fun X (hX:yw J X)=>hG.bel hX);have I:=yh (fun X (hX:yw J X)=>hH.bel hX);have HZ:=yh (fun X (hX:yw J X)=>hZ.bel hX);have aj:=yh (fun X (hX:yw J X)=>HS.bel (HT X hX));have aK:=yh (fun X (hX:yw J X)=>HF.bel (HT X hX))
 have ad:=yh (show ∀(E':Int) X,¬E'=0→yw J X→YM (X.setRow z (Qa Qf Qg)) w.heap.size E' Y (.returned (.tuple #[.agg (Qa Qf Qg),.int .i64 E']))∧yw w (X.setRow z (Qa Qf Qg))from fun E' X h0 hX=>by
  have al:yw w (X.setRow z (Qa Qf Qg)):=((HT X hX).trans (((yk z X).setRow (.inl rfl) _).below (B:=w.heap.size) (HT X hX).size (fun k hk e=>by omega)))
  exact⟨⟨Qf,Qg,rfl,(Ul h0 _).symm,Vw _ _ al.size⟩,al⟩)
 have hb:yw J J:=J4 _ _;have a5:=ak.size;clear hG hH hZ ak;have Q:=yh (ao _ (aj _ hb));go_wp2_with (first|(refine yV (.tmp 3) (F _ hb) underlying32 ?_)|(refine yV (.tmp 4) (I _ hb) underlying63 ?_)|(refine yX 32 (.tmp 6) (.tmp 46) z (Qa Qf Qg) (HZ _ hb) ?_)|(refine yX 32 (.tmp 6) (.tmp 57) z (Qa Qf Qg) (HZ _ hb) ?_));refine yM Q fun w1 ag=>?_;replace hb:=hb.trans (ag.mono hb.size);clear ag Q ao;by_cases q0:r=0;rotate_left
 ·obtain rfl:R=r:=by rw[HR.out,M3 q0]
  have a7:(R !=0)=true:=by simpa using q0
  have Q0:=yh q0;clear q0;go_wp2_with (first|(refine yV (.tmp 3) (F _ hb) underlying32 ?_)|(refine yV (.tmp 4) (I _ hb) underlying63 ?_)|(refine yX 32 (.tmp 6) (.tmp 46) z (Qa Qf Qg) (HZ _ hb) ?_)|(refine yX 32 (.tmp 6) (.tmp 57) z (Qa Qf Qg) (HZ _ hb) ?_));refine yq2 (.tuple #[.agg (Qa Qf Qg),.int .i64 R]) (k:=6) (u:=7) ((HZ _ hb).row _) underlying32 ?_;exact ad _ _ Q0 hb
 have ap:=yh (Zm (aO.symm.trans q0));have aq:=yh (HR.trans (M2 (by rw[q0];simp)));subst q0;have h1:yI w1 h 1 ab:=(I _ hb).cell rfl;have W:yI w1 h 2 an:=(I _ hb).cell rfl;have h5:yI w1 h 5 aa:=(I _ hb).cell rfl;have aW:yJ w1 h 10 A3 O c3:=(I _ hb).cell rfl;by_cases q1:ab=ac;rotate_left
 ·obtain rfl:R=7:=by rw[aq.out,M3 (.inl q1)]
  have a8:(ab !=ac)=true:=by simpa using q1
  clear q1;go_wp2_with (first|(refine yV (.tmp 3) (F _ hb) underlying32 ?_)|(refine yV (.tmp 4) (I _ hb) underlying63 ?_)|(refine yX 32 (.tmp 6) (.tmp 46) z (Qa Qf Qg) (HZ _ hb) ?_)|(refine yX 32 (.tmp 6) (.tmp 57) z (Qa Qf Qg) (HZ _ hb) ?_));refine yq2 (.tuple #[.agg (Qa Qf Qg),.int .i64 7]) (k:=6) (u:=7) ((HZ _ hb).row _) underlying32 ?_;exact ad _ _ (by decide) hb
 by_cases q2:an=3
 ·obtain rfl:R=7:=by rw[aq.out,M3 (.inr q2)]
  subst q1 q2;go_wp2_with (first|(refine yV (.tmp 3) (F _ hb) underlying32 ?_)|(refine yV (.tmp 4) (I _ hb) underlying63 ?_)|(refine yX 32 (.tmp 6) (.tmp 46) z (Qa Qf Qg) (HZ _ hb) ?_)|(refine yX 32 (.tmp 6) (.tmp 57) z (Qa Qf Qg) (HZ _ hb) ?_));refine yq2 (.tuple #[.agg (Qa Qf Qg),.int .i64 7]) (k:=6) (u:=7) ((HZ _ hb).row _) underlying32 ?_;exact ad _ _ (by decide) hb
 have aw:=yh (aq.trans (M2 (by simp[q1,q2])))
 have a9:(an==3)=false:=by simpa using q2
 subst q1;clear q2;obtain⟨tv,aI⟩:=yE (decide (0<O) || (decide (ab=2) && decide (aa≠-1)));have af:=yh aI;clear aI;go_upto_region 6 with(fail);go_cut [30] (fun p V=>p=.bool tv∧V=w1)
 case first=>as_aux_lemma=>
  by_cases q3:0<O
  ·obtain rfl:tv=true:=by rw[af.out,J2 q3];rfl
   have a2:decide (0<O)=true:=J2 q3;clear q3;go_wp2_with fail;go_meet;exact⟨rfl,rfl⟩
  have a2:decide (0<O)=false:=J3 q3;by_cases q4:ab=2
  ·obtain rfl:tv=decide (aa≠-1):=by rw[af.out,J3 q3,J2 q4];simp
   clear q3;subst q4;by_cases q5:aa=-1
   ·subst q5;go_wp2_with fail;go_meet;exact⟨by simp,rfl⟩
   ·have bb:(aa != -1)=true:=by simpa using q5
    have U:decide (aa≠-1)=true:=J2 q5;have Q6:=yh U;clear q5 U;go_wp2_with fail;go_meet;exact⟨by rw[Q6.out],rfl⟩
  ·obtain rfl:tv=false:=by rw[af.out,J3 q3,J3 q4];rfl
   have ba:(ab==2)=false:=by simpa using q4
   clear q3 q4;go_wp2_with fail;go_meet;exact⟨rfl,rfl⟩
 obtain⟨rfl,rfl⟩:=hcut;cases tv;rotate_left
 ·obtain rfl:R=1:=by
   rw[aw.out];have h:=af.out;refine M3 ?_;by_cases q3:0<O
   ·exact .inl q3
   ·rw[J3 q3]at h;simp only[Bool.false_or]at h;have h4:=Bool.and_eq_true_iff.1 h.symm;exact .inr ⟨of_decide_eq_true h4.1,of_decide_eq_true h4.2⟩
  go_wp2_with (first|(refine yV (.tmp 3) (F _ hb) underlying32 ?_)|(refine yV (.tmp 4) (I _ hb) underlying63 ?_)|(refine yX 32 (.tmp 6) (.tmp 46) z (Qa Qf Qg) (HZ _ hb) ?_)|(refine yX 32 (.tmp 6) (.tmp 57) z (Qa Qf Qg) (HZ _ hb) ?_));refine yq2 (.tuple #[.agg (Qa Qf Qg),.int .i64 1]) (k:=6) (u:=7) ((HZ _ hb).row _) underlying32 ?_;exact ad _ _ (by decide) hb
 have ax:=yh (show R=if oe≠0 then oe else pe from aw.trans (M2 (by
  have h:=af.out;intro W;rcases W with W|⟨W,h3⟩
  ·rw[J2 W]at h;cases h
  ·rw[J2 W,J2 h3]at h;simp at h)))
 have g0:yI wc g 0 x.ship.legs:=(F _ hb).cell rfl;have g1:yI wc g 1 x.ship.souls:=(F _ hb).cell rfl;have g2:yJ wc g 2 A n cap:=(F _ hb).cell rfl;have g3:yJ wc g 3 B m az:=(F _ hb).cell rfl;have Q:=yh (ah _ (aj _ hb).cats (aj _ hb).cabs ap.bs.ship (aK _ hb));clear h1 W h5 aW;go_wp2_with (first|(refine yV (.tmp 3) (F _ hb) underlying32 ?_)|(refine yV (.tmp 4) (I _ hb) underlying63 ?_)|(refine yX 32 (.tmp 6) (.tmp 46) z (Qa Qf Qg) (HZ _ hb) ?_)|(refine yX 32 (.tmp 6) (.tmp 57) z (Qa Qf Qg) (HZ _ hb) ?_));refine yM Q fun w2 ag=>?_;replace hb:=hb.trans (ag.mono hb.size);clear ag Q ah g0 g1 g2 g3;by_cases U:oe=0;rotate_left
 ·obtain rfl:R=oe:=by rw[ax.out,M3 U]
  have bc:(R !=0)=true:=by simpa using U
  have Q6:=yh U;clear U;go_wp2_with (first|(refine yV (.tmp 3) (F _ hb) underlying32 ?_)|(refine yV (.tmp 4) (I _ hb) underlying63 ?_)|(refine yX 32 (.tmp 6) (.tmp 46) z (Qa Qf Qg) (HZ _ hb) ?_)|(refine yX 32 (.tmp 6) (.tmp 57) z (Qa Qf Qg) (HZ _ hb) ?_));refine yq2 (.tuple #[.agg (Qa Qf Qg),.int .i64 R]) (k:=6) (u:=7) ((HZ _ hb).row _) underlying32 ?_;exact ad _ _ Q6 hb
 have aJ:=yh (ZZa (aL.symm.trans U))
 obtain rfl:R=pe:=by rw[ax.out,M2 (by rw[U];simp)]
 subst U;have Q:=yh (aN _ (aj _ hb) ap);have aZ:=hb.size;go_upto_region 10 with(fail);go_cut [9] (fun q V=>∃(y:Nat) (Z:SaiV) (w0:World) (b0:Nat),yp q y∧Blk V y (Qa x Z) 230∧SaiW w0 b0 V w2.heap.size x Z∧w0.heap.size≤y∧yw w2 V)
 case first=>
  go_wp2_with (first|(refine yV (.tmp 3) (F _ hb) underlying32 ?_)|(refine yV (.tmp 4) (I _ hb) underlying63 ?_)|(refine yX 32 (.tmp 6) (.tmp 46) z (Qa Qf Qg) (HZ _ hb) ?_)|(refine yX 32 (.tmp 6) (.tmp 57) z (Qa Qf Qg) (HZ _ hb) ?_));refine Q.mono ?_;rintro e w3 ⟨Z,rfl,aX,ae⟩;obtain⟨w0,b0,aB⟩:=aX;have ay:=yh aB;clear aB;have av:=yh ae;clear ae;go_wp2_with fail;go_meet;exact⟨_,Z,w0,b0,rfl,Zk _ _,ay.bel (Qi _ _),by obtain⟨_,_,a3,_⟩:=ay.out;exact a3,av.trans ((Qi _ _).mono av.size)⟩
 obtain⟨y,Z,w0,b0,rfl,aF,aC,a1,ae⟩:=hcut;obtain⟨w4,rfl⟩:=yE wc;have a0:=ae.size;replace hb:=hb.trans (ae.mono hb.size);have Q:=yh (ai w0 b0 Z _ y w4 aC a0 aF a1 ap aJ);clear aC aF ae ai;go_wp2_with (first|(refine yV (.tmp 3) (F _ hb) underlying32 ?_)|(refine yV (.tmp 4) (I _ hb) underlying63 ?_)|(refine yX 32 (.tmp 6) (.tmp 46) z (Qa Qf Qg) (HZ _ hb) ?_)|(refine yX 32 (.tmp 6) (.tmp 57) z (Qa Qf Qg) (HZ _ hb) ?_));refine Q.mono ?_;rintro e w5 ⟨rfl,aH,ar⟩;have a4:Below w2.heap.size w4 w5:=ar;replace hb:=hb.trans (ar.mono (show J.heap.size≤w2.heap.size from aZ));clear ar Q;have aM:=yh aH;clear aH;by_cases q7:R=0;rotate_left
 ·have bd:(R !=0)=true:=by simpa using q7
  have Q7:=yh q7;clear q7;go_wp2_with (first|(refine yV (.tmp 3) (F _ hb) underlying32 ?_)|(refine yV (.tmp 4) (I _ hb) underlying63 ?_)|(refine yX 32 (.tmp 6) (.tmp 46) z (Qa Qf Qg) (HZ _ hb) ?_)|(refine yX 32 (.tmp 6) (.tmp 57) z (Qa Qf Qg) (HZ _ hb) ?_));refine yq2 (.tuple #[.agg (Qa Qf Qg),.int .i64 R]) (k:=6) (u:=7) ((HZ _ hb).row _) underlying32 ?_;exact ad _ _ Q7 hb
 obtain⟨p9,aE,aD⟩:=aM q7;subst q7;have aQ:=yh aE;have aP:=yh aD;clear aD;clear aE;go_wp2_with (first|(refine wpList_load_row rfl 32 (.tmp 61) rfl y rfl 230 _ (0,0) _ aQ underlying32 rfl (by kernel_rfl) ?_)|(refine yX 32 (.tmp 6) (.tmp 62) z (Qa Y p9) (HZ _ hb) ?_));refine yq2 (.tuple #[.agg (Qa Y p9),.int .i64 0]) (k:=6) (u:=7) ((HZ _ hb).row _) underlying32 ?_;have aA:Kept (fun k=>k=z) w5 (w5.setRow z (Qa Y p9)):=(yk z w5).setRow (.inl rfl) _;have a6:z<J.heap.size:=(HZ J (J4 _ _)).lt;have al:=((HT _ hb).trans (aA.below (B:=w.heap.size) (HT _ hb).size (fun k hk e=>by omega)));have aY:SaiO w5 w2.heap.size Y p9:=⟨w0,b0,aP⟩;exact⟨⟨Y,p9,rfl,(Uf _).symm,(aY.kept aA (fun k hk e=>by omega)).mono (by omega)⟩,al⟩
theorem Uyb (x:Sai)(p:SaiV)(b:Bkg)(A3:Option Addr)(F c3:Nat)(w:World)(hS:SaiR w x p)(hf:Sl Qm 3 w All A3 F c3 b.fol)(hI:BkIn b) :
  Calls prog 31 #[.agg (Qa x p),.agg (Qk b (.slice A3 F c3))] w fun e w'=>YM w' w.heap.size (U6 x b 1) (U7 x b) e∧yw w w':=by
 have aa:=yh (fun X h1 h2=>Qeb x p b A3 F c3 1 X h1 h2 hI);obtain⟨A,n,cap,B,m,ac,D,nd,cd,E,ne,ce,C,nb,cb⟩:=p;obtain⟨id,aj,ak,ag,lev,ab,ad,af,upto,al,ae⟩:=b;go_enter func31,ntmps31;go_upto_region 0 with(fail);go_cut [2,3,4,5] (fun p p2 p3 p4 J=>∃g h z,yp p g∧yp p2 h∧yp p3 z∧p4=.int .i64 0∧w.heap.size≤z∧Blk J g (Qa x ⟨A,n,cap,B,m,ac,D,nd,cd,E,ne,ce,C,nb,cb⟩) 32∧Blk J h (Qk ⟨id,aj,ak,ag,lev,ab,ad,af,upto,al,ae⟩ (.slice A3 F c3)) 63∧Blk J z M9 32∧yw w J)
 case first=>as_aux_lemma=>
  go_wp2_with fail;go_meet;exact⟨_,_,_,rfl,rfl,rfl,rfl,by omega,Vc _ _ _ _,Vd _ _ _ _,Ve _ _ _ _,X0 _ _ _ _⟩
 obtain⟨g,h,z,rfl,rfl,rfl,rfl,hz,hG,Y,O,hb⟩:=hcut;have V:=yh (aa _ (hS.bel hb) (hf.bel hb));go_wp2_with (first|(refine yV (.tmp 2) hG underlying32 ?_)|(refine yV (.tmp 3) Y underlying63 ?_));refine V.mono ?_;rintro e U ⟨⟨y,I,rfl,hy,hO⟩,Q⟩;have ah:=O.bel Q;have am:=O.lt;have ai:=hb.size;replace hb:=hb.trans (Q.mono hb.size);have W:=yh ah;have HO:=yh hO;clear hO;have HY:=yh hy;clear hy;clear hG Y O Q V;go_wp2_with (refine yX 32 (.tmp 4) (.tmp 9) z (Qa y I) W ?_);refine yq2 (.tuple #[.agg (Qa y I),.int .i64 _]) (k:=4) (u:=5) (W.row _) underlying32 ?_;have Z:Kept (fun k=>k=z) U (U.setRow z (Qa y I)):=(yk z U).setRow (.inl rfl) _;exact⟨⟨y,I,rfl,HY,(HO.kept Z (fun k hk e=>by omega)).mono ai⟩,hb.trans (Z.below (B:=w.heap.size) hb.size (fun k hk e=>by omega))⟩
theorem Yna (x:Sai)(p:SaiV)(b:Bkg)(A3:Option Addr)(F c3:Nat)(w:World)(hS:SaiR w x p)(hf:Sl Qm 3 w All A3 F c3 b.fol)(hI:BkIn b) :
  Calls prog 33 #[.agg (Qa x p),.agg (Qk b (.slice A3 F c3))] w fun e w'=>YM w' w.heap.size (U6 x b 2) (U7 x b) e∧yw w w':=by
 have aa:=yh (fun X h1 h2=>Qeb x p b A3 F c3 2 X h1 h2 hI);obtain⟨A,n,cap,B,m,ac,D,nd,cd,E,ne,ce,C,nb,cb⟩:=p;obtain⟨id,aj,ak,ag,lev,ab,ad,af,upto,al,ae⟩:=b;go_enter func33,ntmps33;go_upto_region 0 with(fail);go_cut [2,3,4,5] (fun p p2 p3 p4 J=>∃g h z,yp p g∧yp p2 h∧yp p3 z∧p4=.int .i64 0∧w.heap.size≤z∧Blk J g (Qa x ⟨A,n,cap,B,m,ac,D,nd,cd,E,ne,ce,C,nb,cb⟩) 32∧Blk J h (Qk ⟨id,aj,ak,ag,lev,ab,ad,af,upto,al,ae⟩ (.slice A3 F c3)) 63∧Blk J z M9 32∧yw w J)
 case first=>as_aux_lemma=>
  go_wp2_with fail;go_meet;exact⟨_,_,_,rfl,rfl,rfl,rfl,by omega,Vc _ _ _ _,Vd _ _ _ _,Ve _ _ _ _,X0 _ _ _ _⟩
 obtain⟨g,h,z,rfl,rfl,rfl,rfl,hz,hG,Y,O,hb⟩:=hcut;have V:=yh (aa _ (hS.bel hb) (hf.bel hb));go_wp2_with (first|(refine yV (.tmp 2) hG underlying32 ?_)|(refine yV (.tmp 3) Y underlying63 ?_));refine V.mono ?_;rintro e U ⟨⟨y,I,rfl,hy,hO⟩,Q⟩;have ah:=O.bel Q;have am:=O.lt;have ai:=hb.size;replace hb:=hb.trans (Q.mono hb.size);have W:=yh ah;have HO:=yh hO;clear hO;have HY:=yh hy;clear hy;clear hG Y O Q V;go_wp2_with (refine yX 32 (.tmp 4) (.tmp 9) z (Qa y I) W ?_);refine yq2 (.tuple #[.agg (Qa y I),.int .i64 _]) (k:=4) (u:=5) (W.row _) underlying32 ?_;have Z:Kept (fun k=>k=z) U (U.setRow z (Qa y I)):=(yk z U).setRow (.inl rfl) _;exact⟨⟨y,I,rfl,HY,(HO.kept Z (fun k hk e=>by omega)).mono ai⟩,hb.trans (Z.below (B:=w.heap.size) hb.size (fun k hk e=>by omega))⟩
def NewSame (w w' V:World):Prop:=∀b,w.heap.size≤b→b<w'.heap.size→V.heap[b]? = w'.heap[b]?
def Qia (K:World→Prop) (w w':World) (E:Int) (X:Sai) (e:Ending):Prop:=∃y p',e=.returned (.tuple #[.agg (Qa y p'),.int .i64 E])∧y=okS E X∧∀V,K V→NewSame w w' V→SaiR V y p'
theorem Ypa (K:World→Prop)(x:Sai)(p:SaiV)(b:Bkg)(A3:Option Addr)(n3 c3:Nat)(aj:Int)(L:List (List Value))(w:World)(bt:∀V V',K V→yw V V'→K V')(aR:∀V,K V→SaiR V x p)(br:∀V,K V→Pts ZP V L x.bks)(aS:K w)(bw:Sl (ZY 11) 11 w All p.C p.nb p.cb L)
  (hf:Sl Qm 3 w All A3 n3 c3 b.fol) (hI:BkIn b) (ho:OkSai x) :
  Calls prog 30 #[.agg (Qa x p),.agg (Qk b (.slice A3 n3 c3)),.int .i64 aj] w fun e w'=>Qia K w w' (ZPa x b aj) (U7 x b) e∧yw w w':=by
 have hS:=aR w aS;have bc:=yh bt;have b1:=yh aR;have b0:=yh br;have bf:=yh aS;have az:=yh (fun X hc hb hf=>Vm x.ship p.A p.n p.cap p.B p.m p.cap2 b A3 n3 c3 X hc hb ho.bs.ship hf);have aI:=yh (fun X hl=>XL x p b.id X hl);have aN:=yh (fun(hk:OkBk x.ship b)=>QJa (Vz ho.fares) ho.bs.ship hk);have bi:=yh (fun(hk:OkBk x.ship b)=>Vka (Vz ho.fares) ho.bs.ship hk);have aY:=Vz ho.fares;have aL:=yh (fun(k f t gn:Nat) L e4 e5 e6 e7 e8 g1 g4 X hF=>Yma p.D p.nd p.cd x.fares p.E p.ne p.ce k f t gn L X hF e4 e5 e6 e7 e8 aY.a aY.t g1 g4);have b2:=yh bw;have bo:=yh (fun K q X h1 h2 h3 h4 h5 hn=>VLa K x p (UU x b) (some ⟨q,0,none⟩) 1 1 L X h1 h2 h3 h4 h5 ⟨hI.id,hI.kind,hI.state,hI.gst,hI.cab,hI.cat,hI.frm,hI.upto,hI.til⟩ (QP ho.bs.rise) hn ho.bs.len)
 have bn:=yh (fun p X (h:SaiR X (U7 x b) p) (cG:x.bks.length≠16) (hk:OkBk x.ship b)=>Yg (U7 x b) p X h ho.bs.ship (fun c hc=>by
  rcases Uva hc with rfl|hc
  ·show OkBk x.ship _
   exact Yca ho hk
  ·exact ho.bs.bk c hc) (by rw[show(U7 x b).bks=XS x.bks (UU x b)from rfl,XZa];have:=ho.bs.len;omega))
 have be:=yh (fun(hk:OkBk x.ship b) (h1:b.kind=1)=>(show 0≤b.cab∧b.cab.toNat<p.m from by
  have h:=hk.kindE;unfold kindE at h;rw[M2 (by omega)]at h;unfold YY at h;by_cases h4:Qc b.cab 0 ((x.ship.cabs.length:Int)-1)=false
  ·rw[M3 h4]at h;omega
  have h5:=Ql.1 (Ub h4);have:=hS.cabs.len
  omega))
 have bT:=yh (Ql.1 ho.day);obtain⟨R,hR⟩:=yE (ZPa x b aj);obtain⟨oe,aG⟩:=yE (ofE x.ship b);obtain⟨pe,a0⟩:=yE (VSa x b);obtain⟨tl,a5⟩:=yE (XYb x b);obtain⟨hi,aF⟩:=yE (ZA x.bks b.id);obtain⟨ai,av⟩:=yE (atI x.bks b.id);obtain⟨rm,a4⟩:=yE (QX (U7 x b));obtain⟨pr,a1⟩:=yE (QIa x b);obtain⟨Y,hY⟩:=yE (U7 x b);obtain⟨fb,am⟩:=yE (UU x b);have bJ:=hf.len;have aZ:x.bks.length=p.nb:=hS.bks.len;have HR:=yh (show R=if b.kind≠aj∨b.state=3 then 7 else if 0<n3∨aj=2∧b.cab≠-1 then 1 else if oe≠0 then oe else pe by rw[hR,aG,a0,←bJ];rfl);have ao:=yh (show pe=if tl=true then 4 else if hi=true then 6 else if p.nb=16 then 2 else rm by rw[a0,a5,aF,a4,←aZ];rfl);have al:=yh (show tl=(Xna x b || (decide (b.kind=2) && x.closed))from a5);have ak:=yh (show Xna x b=(decide (x.leaves≤x.day) || (decide (b.state=1) && (decide (b.til<x.day) || decide (x.leaves≤b.til))))from rfl);have bR:=yh (show decide (0≤ai)=hi by rw[av,aF];exact VH);have bb:=yh (show ZA x.bks (UU x b).id=hi from aF.symm);have ba:=yh (show ∀v,Qk fb v=#[.int .i64 b.id,.int .i64 b.kind,.int .i64 b.state,.int .i64 b.gst,.bool b.lev,.int .i64 b.cab,.int .i64 b.cat,.int .i64 b.frm,.int .i64 b.upto,.int .i64 b.til,v]by intro v;rw[am];rfl);have bU:=yh (show fb.fol=[⟨x.day,1,pr⟩]by rw[am,a1];rfl);have cX:=yh (show Q4 x fb=Y by rw[hY,am];rfl);rw[←aG]at az;rw[←av]at aI;rw[←am]at bo;rw[←a4,←hY]at bn;rw[←a1]at bi aN;rw[←hR,←hY];rw[←am]at bb;have b4:=yh aG;have HS:=yh hS;have HF:=yh hf;have bh:=yh aZ;have cu:=hS.cabs.bd;have cp:=hS.cabs.le;clear hR aG a0 a5 aF av a4 a1 hY am bJ hS hf hI ho aY aZ bw bt aR br aS;obtain⟨A,n,cap,B,m,aP,D,nd,cd,E,ne,ce,C,nb,cb⟩:=p;obtain⟨id,W,ad,aQ,lev,aa,au,ci,upto,ac,ch⟩:=b;simp only at az HR ao al ak ba be cu cp aN aL bh;go_enter func30,ntmps30;go_upto_region 0 with(fail);go_cut [3,4,6,7] (fun p U p3 p4 Q=>∃g h z,yp p g∧yp U h∧yp p3 z∧p4=.int .i64 0∧w.heap.size≤g∧w.heap.size≤h∧w.heap.size≤z∧g≠h∧h≠z∧Blk Q g (Qa x ⟨A,n,cap,B,m,aP,D,nd,cd,E,ne,ce,C,nb,cb⟩) 32∧Blk Q h (Qk ⟨id,W,ad,aQ,lev,aa,au,ci,upto,ac,ch⟩ (.slice A3 n3 c3)) 63∧Blk Q z M9 32∧yw w Q)
 case first=>as_aux_lemma=>
  go_wp2_with fail;go_meet;exact⟨_,_,_,rfl,rfl,rfl,rfl,J5 _,by omega,by omega,by omega,by omega,Vc _ _ _ _,Vd _ _ _ _,Ve _ _ _ _,X0 _ _ _ _⟩
 obtain⟨g,h,z,rfl,rfl,rfl,rfl,hg,hh,hz,ah,cq,hG,hH,hZ,aU⟩:=hcut;obtain⟨J,rfl⟩:=yE wc;have HT:=yh (fun X (hX:yw J X)=>aU.trans (hX.mono aU.size));have I:=yh (fun X (hX:yw J X)=>hG.bel hX);have HH:=yh (fun X (hX:yw J X)=>hH.bel hX);have HZ:=yh (fun X (hX:yw J X)=>hZ.bel hX);have ap:=yh (fun X (hX:yw J X)=>HS.bel (HT X hX));have bV:=yh (fun X (hX:yw J X)=>HF.bel (HT X hX))
 have ae:=yh (show ∀(E':Int) X,¬E'=0→yw J X→Qia K w (X.setRow z (Qa Qf Qg)) E' Y (.returned (.tuple #[.agg (Qa Qf Qg),.int .i64 E']))∧yw w (X.setRow z (Qa Qf Qg))from fun E' X h0 hX=>
  ⟨⟨Qf,Qg,rfl,(Ul h0 _).symm,fun V _ _=>UA V⟩,(HT X hX).trans (((yk z X).setRow (.inl rfl) _).below (B:=w.heap.size) (HT X hX).size (fun k hk e=>by omega))⟩)
 have hb:yw J J:=J4 _ _;clear hG hH hZ aU;have h1:yI J h 1 W:=(HH _ hb).cell rfl;have h2:yI J h 2 ad:=(HH _ hb).cell rfl;have h5:yI J h 5 aa:=(HH _ hb).cell rfl;have cm:yJ J h 10 A3 n3 c3:=(HH _ hb).cell rfl;by_cases q1:W=aj;rotate_left
 ·obtain rfl:R=7:=by rw[HR.out,M3 (.inl q1)]
  have cL:(W !=aj)=true:=by simpa using q1
  clear q1;go_wp2_with (first|(refine yV (.tmp 3) (I _ hb) underlying32 ?_)|(refine yV (.tmp 4) (HH _ hb) underlying63 ?_)|(refine yX 32 (.tmp 6) (.tmp 20) z (Qa Qf Qg) (HZ _ hb) ?_));refine yq2 (.tuple #[.agg (Qa Qf Qg),.int .i64 7]) (k:=6) (u:=7) ((HZ _ hb).row _) underlying32 ?_;exact ae _ _ (by decide) hb
 by_cases F:ad=3
 ·obtain rfl:R=7:=by rw[HR.out,M3 (.inr F)]
  subst q1 F;go_wp2_with (first|(refine yV (.tmp 3) (I _ hb) underlying32 ?_)|(refine yV (.tmp 4) (HH _ hb) underlying63 ?_)|(refine yX 32 (.tmp 6) (.tmp 20) z (Qa Qf Qg) (HZ _ hb) ?_));refine yq2 (.tuple #[.agg (Qa Qf Qg),.int .i64 7]) (k:=6) (u:=7) ((HZ _ hb).row _) underlying32 ?_;exact ae _ _ (by decide) hb
 have bl:=yh (HR.trans (M2 (by simp[q1,F])))
 have cM:(ad==3)=false:=by simpa using F
 subst q1;clear F;obtain⟨tv,bP⟩:=yE (decide (0<n3) || (decide (W=2) && decide (aa≠-1)));have ar:=yh bP;clear bP;go_upto_region 3 with(fail);go_cut [33] (fun p Q=>p=.bool tv∧J=Q)
 case first=>as_aux_lemma=>
  by_cases O:0<n3
  ·obtain rfl:tv=true:=by rw[ar.out,J2 O];rfl
   have cC:decide (0<n3)=true:=J2 O;clear O;go_wp2_with fail;go_meet;exact⟨rfl,rfl⟩
  have cC:decide (0<n3)=false:=J3 O;by_cases q4:W=2
  ·obtain rfl:tv=decide (aa≠-1):=by rw[ar.out,J3 O,J2 q4];simp
   clear O;subst q4;by_cases q5:aa=-1
   ·subst q5;go_wp2_with fail;go_meet;exact⟨by simp,rfl⟩
   ·have cO:(aa != -1)=true:=by simpa using q5
    have q6:decide (aa≠-1)=true:=J2 q5;have Q6:=yh q6;clear q5 q6;go_wp2_with fail;go_meet;exact⟨by rw[Q6.out],rfl⟩
  ·obtain rfl:tv=false:=by rw[ar.out,J3 O,J3 q4];rfl
   have cN:(W==2)=false:=by simpa using q4
   clear O q4;go_wp2_with fail;go_meet;exact⟨rfl,rfl⟩
 obtain⟨rfl,rfl⟩:=hcut;cases tv;rotate_left
 ·obtain rfl:R=1:=by
   rw[bl.out];have h:=ar.out;refine M3 ?_;by_cases O:0<n3
   ·exact .inl O
   ·rw[J3 O]at h;simp only[Bool.false_or]at h;have h4:=Bool.and_eq_true_iff.1 h.symm;exact .inr ⟨of_decide_eq_true h4.1,of_decide_eq_true h4.2⟩
  go_wp2_with (first|(refine yV (.tmp 3) (I _ hb) underlying32 ?_)|(refine yV (.tmp 4) (HH _ hb) underlying63 ?_)|(refine yX 32 (.tmp 6) (.tmp 34) z (Qa Qf Qg) (HZ _ hb) ?_));refine yq2 (.tuple #[.agg (Qa Qf Qg),.int .i64 1]) (k:=6) (u:=7) ((HZ _ hb).row _) underlying32 ?_;exact ae _ _ (by decide) hb
 have bm:=yh (show R=if oe≠0 then oe else pe from bl.trans (M2 (by
  have h:=ar.out;intro h2;rcases h2 with h2|⟨h2,h3⟩
  ·rw[J2 h2]at h;cases h
  ·rw[J2 h2,J2 h3]at h;simp at h)))
 have g0:yI J g 0 x.ship.legs:=(I _ hb).cell rfl;have g1:yI J g 1 x.ship.souls:=(I _ hb).cell rfl;have g2:yJ J g 2 A n cap:=(I _ hb).cell rfl;have g3:yJ J g 3 B m aP:=(I _ hb).cell rfl;have HC:=yh (az _ (ap _ hb).cats (ap _ hb).cabs (bV _ hb));clear h1 h2 h5 cm;go_wp2_with (first|(refine yV (.tmp 3) (I _ hb) underlying32 ?_)|(refine yV (.tmp 4) (HH _ hb) underlying63 ?_));refine yM HC fun w2 aw=>?_;replace hb:=hb.trans (aw.mono hb.size);clear aw HC az g0 g1 g2 g3;by_cases q6:oe=0;rotate_left
 ·obtain rfl:R=oe:=by rw[bm.out,M3 q6]
  have cP:(R !=0)=true:=by simpa using q6
  have Q6:=yh q6;clear q6;go_wp2_with (first|(refine yV (.tmp 3) (I _ hb) underlying32 ?_)|(refine yV (.tmp 4) (HH _ hb) underlying63 ?_)|(refine yX 32 (.tmp 6) (.tmp 41) z (Qa Qf Qg) (HZ _ hb) ?_));refine yq2 (.tuple #[.agg (Qa Qf Qg),.int .i64 R]) (k:=6) (u:=7) ((HZ _ hb).row _) underlying32 ?_;exact ae _ _ Q6 hb
 have bC:=ZZa (b4.symm.trans q6);have an:=yh bC
 obtain rfl:R=pe:=by rw[bm.out,M2 (by rw[q6];simp)]
 subst q6;clear bC;have g9:yI w2 g 9 x.day:=(I _ hb).cell rfl;have cj:yI w2 g 10 x.leaves:=(I _ hb).cell rfl;have cY:w2.cell? ⟨g,12,none⟩=some (.bool x.closed):=(I _ hb).cell rfl;have h2:yI w2 h 2 ad:=(HH _ hb).cell rfl;have h9:yI w2 h 9 ac:=(HH _ hb).cell rfl;go_upto_region 8 with(fail);go_cut [74] (fun p Q=>p=.bool tl∧w2=Q)
 case first=>as_aux_lemma=>
  have cU:W=2∨(W==2)=false:=by by_cases q:W=2;exact .inl q;exact .inr (by simpa using q)
  by_cases q1:x.leaves≤x.day
  ·obtain rfl:tl=true:=by rw[al.out,ak.out,J2 q1];rfl
   have d1:decide (x.leaves≤x.day)=true:=J2 q1;clear q1 cU;go_wp2_with fail;go_meet;exact⟨rfl,rfl⟩
  have d1:decide (x.leaves≤x.day)=false:=J3 q1;by_cases F:ad=1
  ·by_cases O:ac<x.day
   ·obtain rfl:tl=true:=by rw[al.out,ak.out,d1,J2 F,J2 O];rfl
    have d3:decide (ac<x.day)=true:=J2 O;subst F;clear q1 O cU;go_wp2_with fail;go_meet;exact⟨rfl,rfl⟩
   have d3:decide (ac<x.day)=false:=J3 O;by_cases q4:x.leaves≤ac
   ·obtain rfl:tl=true:=by rw[al.out,ak.out,d1,J2 F,d3,J2 q4];rfl
    have d4:decide (x.leaves≤ac)=true:=J2 q4;subst F;clear q1 O q4 cU;go_wp2_with fail;go_meet;exact⟨rfl,rfl⟩
   have d4:decide (x.leaves≤ac)=false:=J3 q4;have aq:=yh (show tl=(decide (W=2) && x.closed)by rw[al.out,ak.out,d1,d3,d4];simp);subst F;clear q1 O q4;rcases cU with rfl|d5
   ·obtain rfl:tl=x.closed:=by rw[aq.out];simp
    go_wp2_with fail;go_meet;exact⟨rfl,rfl⟩
   ·obtain rfl:tl=false:=by rw[aq.out,J3 (by simpa using d5)];rfl
    go_wp2_with fail;go_meet;exact⟨rfl,rfl⟩
  ·have d2:(ad==1)=false:=by simpa using F
   have aq:=yh (show tl=(decide (W=2) && x.closed)by rw[al.out,ak.out,d1,J3 F];simp);clear q1 F;rcases cU with rfl|d5
   ·obtain rfl:tl=x.closed:=by rw[aq.out];simp
    go_wp2_with fail;go_meet;exact⟨rfl,rfl⟩
   ·obtain rfl:tl=false:=by rw[aq.out,J3 (by simpa using d5)];rfl
    go_wp2_with fail;go_meet;exact⟨rfl,rfl⟩
 obtain⟨rfl,rfl⟩:=hcut;clear g9 cj cY h2 h9;cases tl;rotate_left
 ·obtain rfl:R=4:=by rw[ao.out];rfl
  go_wp2_with (first|(refine yV (.tmp 3) (I _ hb) underlying32 ?_)|(refine yV (.tmp 4) (HH _ hb) underlying63 ?_)|(refine yX 32 (.tmp 6) (.tmp 75) z (Qa Qf Qg) (HZ _ hb) ?_));refine yq2 (.tuple #[.agg (Qa Qf Qg),.int .i64 4]) (k:=6) (u:=7) ((HZ _ hb).row _) underlying32 ?_;exact ae _ _ (by decide) hb
 have h0:yI w2 h 0 id:=(HH _ hb).cell rfl;have HC:=yh (aI _ (ap _ hb).bks);go_wp2_with (first|(refine yV (.tmp 3) (I _ hb) underlying32 ?_)|(refine yV (.tmp 4) (HH _ hb) underlying63 ?_));refine yM HC fun w3 aw=>?_;replace hb:=hb.trans (aw.mono hb.size);have av:=bR.out;clear aw HC aI h0;cases hi;rotate_left
 ·obtain rfl:R=6:=by rw[ao.out];rfl
  go_wp2_with (first|(refine yV (.tmp 3) (I _ hb) underlying32 ?_)|(refine yV (.tmp 4) (HH _ hb) underlying63 ?_)|(refine yX 32 (.tmp 6) (.tmp 81) z (Qa Qf Qg) (HZ _ hb) ?_));refine yq2 (.tuple #[.agg (Qa Qf Qg),.int .i64 6]) (k:=6) (u:=7) ((HZ _ hb).row _) underlying32 ?_;exact ae _ _ (by decide) hb
 have ck:yJ w3 g 11 C nb cb:=(I _ hb).cell rfl;by_cases hn16:nb=16
 ·obtain rfl:R=2:=by rw[ao.out];simp[hn16]
  subst hn16;go_wp2_with (first|(refine yV (.tmp 3) (I _ hb) underlying32 ?_)|(refine yV (.tmp 4) (HH _ hb) underlying63 ?_)|(refine yX 32 (.tmp 6) (.tmp 86) z (Qa Qf Qg) (HZ _ hb) ?_));refine yq2 (.tuple #[.agg (Qa Qf Qg),.int .i64 2]) (k:=6) (u:=7) ((HZ _ hb).row _) underlying32 ?_;exact ae _ _ (by decide) hb
 have ca:=yh (show R=rm by rw[ao.out];simp[hn16])
 have cI:((nb:Int)==16)=false:=by simp;omega
 have b3:=yh hn16;clear hn16;obtain⟨k,f,t,L,e1,e2,e3,e4,e5,e6,e7,e8,e9⟩:=aN an;have bH:=an.gst;simp only at e2 e3 e9 bH;obtain⟨gn,rfl⟩:∃j:Nat,aQ=j:=⟨aQ.toNat,by omega⟩;subst e2 e3;have HP:=yh (fun X hF=>aL k f t gn L e4 e5 e6 e7 e8 (by omega) (by omega) X hF);rw[←e9]at HP;have a9:=yh e1;clear e1 e4 e5 e6 e7 e8 e9 bH aL;have h6:yI w3 h 6 au:=(HH _ hb).cell rfl;go_upto_if 90 with(fail);obtain⟨W3,cZ⟩:=yE w3;subst cZ;go_cut [9] (fun p Q=>p=.int .i64 (k:Int)∧W3=Q)
 case first=>as_aux_lemma=>
  by_cases q1:W=1
  ·obtain⟨c0,cl⟩:=be an q1;obtain⟨cn,rfl⟩:∃j:Nat,aa=j:=⟨aa.toNat,by omega⟩
   have ct:cn<m:=by omega
   obtain⟨ab,cB,nm,cg,cF,lv,rfl,bG,y0,y1,y2,y3⟩:=(ap _ hb).cabs.cab ct
   have aK:=yh (show(k:Int)=cg by
    rw[←a9.out];unfold VMa;rw[M3 q1]
    simp only[Int.toNat_natCast,bG])
   have z3:yJ W3 g 3 (some ⟨ab,cB,none⟩) m aP:=(I _ hb).cell rfl;have h5:yI W3 h 5 (cn:Int):=(HH _ hb).cell rfl
   have F:(0:Int)≤(cn:Int):=by omega
   have O:(cn:Int)<(m:Int):=by omega
   subst q1;clear bG cl c0;go_wp2_with fail;go_meet;exact⟨by rw[aK.out],rfl⟩
  ·have aK:=yh (show(k:Int)=au by
    rw[←a9.out];unfold VMa
    rw[M2 q1])
   have F:(W==1)=false:=by simpa using q1
   clear q1;go_wp2_with fail;go_meet;exact⟨by rw[aK.out],rfl⟩
 obtain⟨rfl,rfl⟩:=hcut;clear ck h6 av;obtain⟨W4,co⟩:=yE W3;subst co;have aM:=yh (show ∀w',yw J w'→((yJ w' g 4 D nd cd∧yI w' g 5 x.fares.alone∧yI w' g 6 x.fares.third∧yJ w' g 7 E ne ce∧yI w' g 8 x.fares.down∧yI w' g 9 x.day)∧(yI w' h 0 id∧yI w' h 1 W∧yI w' h 2 ad∧yI w' h 3 (gn:Int)∧w'.cell? ⟨h,4,none⟩=some (.bool lev)∧yI w' h 5 aa∧yI w' h 6 au∧yI w' h 7 (f:Int)∧yI w' h 8 (t:Int)∧yI w' h 9 ac))from fun w' hX=>⟨⟨(I _ hX).cell rfl,(I _ hX).cell rfl,(I _ hX).cell rfl,(I _ hX).cell rfl,(I _ hX).cell rfl,(I _ hX).cell rfl⟩,(HH _ hX).cell rfl,(HH _ hX).cell rfl,(HH _ hX).cell rfl,(HH _ hX).cell rfl,(HH _ hX).cell rfl,(HH _ hX).cell rfl,(HH _ hX).cell rfl,(HH _ hX).cell rfl,(HH _ hX).cell rfl,(HH _ hX).cell rfl⟩);go_upto_region 17 with(fail);go_cut [4] (fun p Q=>yp p h∧∃q,Blk Q h (Qk fb (.slice (some ⟨q,0,none⟩) 1 1)) 63∧Blk Q q #[.int .i64 x.day,.int .i64 1,.int .i64 pr] 140∧q≠h∧¬q<W4.heap.size∧Kept (fun k=>k=h) W4 Q)
 case first=>
  have cS:yw J W4.drew:=hb.drew;have aD:Kept (fun k=>k=h) W4 W4.drew:=(Kept.refl _ _).drew;refine yZ (S:=(fun w'=>(yJ w' g 4 D nd cd∧yI w' g 5 x.fares.alone∧yI w' g 6 x.fares.third∧yJ w' g 7 E ne ce∧yI w' g 8 x.fares.down∧yI w' g 9 x.day)∧(yI w' h 0 id∧yI w' h 1 W∧yI w' h 2 ad∧yI w' h 3 (gn:Int)∧w'.cell? ⟨h,4,none⟩=some (.bool lev)∧yI w' h 5 aa∧yI w' h 6 au∧yI w' h 7 (f:Int)∧yI w' h 8 (t:Int)∧yI w' h 9 ac))) (aM _ cS) fun aC=>?_;refine yT [0,1,2,3,4,5,6,7,8] ?_;iterate 9 (refine yS ?_;simp only[yU])
  refine yR 9 fun K hK=>?_;go_simp
  (go_at_call 92;refine yM (HP _ (ap _ cS).fares) fun w5 aV=>?_;have cJ:=cS.size;have aD:=aD.trans (Kept.of_below aV (fun k hk cU=>absurd cU (by omega)));replace cS:=cS.trans (aV.mono cS.size);clear aV)
  go_wp2_with fail;refine hK.out _ _ (aM _ cS) fun aC=>?_;clear hK K
  try simp only[yU]
  refine yT [10] ?_;iterate 1 (refine yS ?_;simp only[yU])
  refine yR 11 fun K hK=>?_;go_simp;refine hK.out _ _ (aM _ (cS.alloc cS.size _)) fun aC=>?_;clear hK K
  try simp only[yU]
  have a2:=Xmb cS #[.int .i64 x.day,.int .i64 1,.int .i64 pr] 140;have Z:=HH _ (cS.alloc cS.size (.cells #[.int .i64 x.day,.int .i64 1,.int .i64 pr] 140));have cT:=I _ (cS.alloc cS.size (.cells #[.int .i64 x.day,.int .i64 1,.int .i64 pr] 140));have cH:=(HH _ cS).lt
  have ay:w5.heap.size≠h:=by omega
  have bF:=Z.free 10;have bQ:=Z.cell (j:=10) rfl;have bu:=aD.alloc (.cells #[.int .i64 x.day,.int .i64 1,.int .i64 pr] 140);obtain⟨qn,a3⟩:=yE w5.heap.size;rw[←a3]at a2 ay ⊢;obtain⟨w6,a6⟩:=yE (w5.alloc (.cells #[.int .i64 x.day,.int .i64 1,.int .i64 pr] 140));rw[←a6]at a2 Z cT bQ bF bu aC ⊢;have b9:=yh a3;have cE:=yh a6;clear a3 a6;refine yT [12] ?_;iterate 1 (refine yS ?_;simp only[yU])
  refine yR 13 fun K hK=>?_;go_simp;refine hK.out _ _ (⟨⟨(cT.other (p:=⟨h,10,none⟩) (fun e=>ah e.symm) _).cell rfl,(cT.other (p:=⟨h,10,none⟩) (fun e=>ah e.symm) _).cell rfl,(cT.other (p:=⟨h,10,none⟩) (fun e=>ah e.symm) _).cell rfl,(cT.other (p:=⟨h,10,none⟩) (fun e=>ah e.symm) _).cell rfl,(cT.other (p:=⟨h,10,none⟩) (fun e=>ah e.symm) _).cell rfl,(cT.other (p:=⟨h,10,none⟩) (fun e=>ah e.symm) _).cell rfl⟩,(Z.set _).cell rfl,(Z.set _).cell rfl,(Z.set _).cell rfl,(Z.set _).cell rfl,(Z.set _).cell rfl,(Z.set _).cell rfl,(Z.set _).cell rfl,(Z.set _).cell rfl,(Z.set _).cell rfl,(Z.set _).cell rfl⟩) fun aC=>?_;clear hK K
  try simp only[yU]
  have p1:=Z.set (j:=10) (.slice (some ⟨qn,0,none⟩) 1 1);have U:=a2.other (p:=⟨h,10,none⟩) (fun e=>ay e.symm) (.slice (some ⟨qn,0,none⟩) 1 1);have p3:=bu.setCell (p:=⟨h,10,none⟩) (.inl rfl) (.slice (some ⟨qn,0,none⟩) 1 1);refine yD ?_;clear bF bQ;go_wp2_with fail;go_meet;exact⟨rfl,_,by rw[ba.out];exact p1,U,ay,by rw[b9.out];have:=aD.size;omega,p3⟩
 obtain⟨rfl,q,bq,hQ,ay,cz,hK⟩:=hcut;obtain⟨W5,rfl⟩:=yE wc;have aE:=HT _ hb;have ax:yw w W5:=aE.trans (hK.below (B:=w.heap.size) aE.size (fun k hk e=>by omega));have cT:=(I _ hb).kept hK ah;have bA:=(HZ _ hb).kept hK (fun e=>cq e.symm);have cD:=yh (HS.bel ax)
 have bE:∀X,Blk X q #[.int .i64 x.day,.int .i64 1,.int .i64 pr] 140→Sl Qm 3 X All (some ⟨q,0,none⟩) 1 1 fb.fol:=fun X hX=>by
  rw[bU.out];have hd:=bT.out;have hp:=bi an;exact ZQa hX (.of (by omega) (by omega)) (.of (by decide) (by decide)) (.of (by omega) (by omega))
 have HC:=yh (bo (fun X=>K X∧Blk X q #[.int .i64 x.day,.int .i64 1,.int .i64 pr] 140) q W5 (fun X hX=>b1 X hX.1) (fun X hX=>b0 X hX.1) (fun X hX=>bE X hX.2) ⟨bc w W5 bf ax,hQ⟩ (b2.bel ax) bb);have b8:=yh (show w.heap.size≤q by have:=aE.size;omega);have bN:q≠z:=fun e=>cz (e ▸ (HZ _ hb).lt);have b5:=yh hQ;rw[cX.out]at HC;have bW:=yh cT;have bX:=yh bq;have aO:=yh bA;have aJ:=yh ax;clear ax;clear bq hQ ay hK aE cT bA bE hb;go_upto_region 18 with(fail);go_cut [10] (fun p Q=>∃y U F,yp p y∧W5.heap.size≤y∧Blk Q y (Qa Y U) 32∧W5.heap.size≤F∧F<Q.heap.size∧(∀X,K X→Blk X q #[.int .i64 x.day,.int .i64 1,.int .i64 pr] 140→X.heap[F]? = Q.heap[F]?→SaiR X Y U)∧yw W5 Q)
 case first=>
  go_wp2_with (first|(refine yV (.tmp 3) bW underlying32 ?_)|(refine yV (.tmp 4) bX underlying63 ?_));refine HC.mono ?_;rintro e w6 ⟨q6,p6,rfl,bL,bM,bx,af⟩;have cV:=yh bx;have aA:=yh bL;have b6:=yh bM;have aH:=yh af;clear af;clear bx bL bM;go_wp2_with (refine yX 32 (.tmp 10) (.tmp 114) w6.heap.size (Qa Y p6) (Blk.new w6 M9 32) ?_);go_meet;have cr:Kept (fun k=>k=w6.heap.size) (w6.alloc (.cells M9 32)) ((w6.alloc (.cells M9 32)).setRow w6.heap.size (Qa Y p6)):=(Kept.refl (fun k=>k=w6.heap.size) _).setRow (.inl rfl) _;have aW:yw w6 ((w6.alloc (.cells M9 32)).setRow w6.heap.size (Qa Y p6)):=(Qi w6 _).trans (cr.below (B:=w6.heap.size) (by simp) (fun k hk e=>by omega));have bI:q6<w6.heap.size:=b6.out;exact⟨_,p6,q6,rfl,aH.size,(Blk.new w6 _ _).row _,aA,Nat.lt_of_lt_of_le bI aW.size,fun X h1 h2 h3=>cV X ⟨h1,h2⟩ (h3.trans (aW.block q6 bI)),aH.trans (aW.mono aH.size)⟩
 obtain⟨y,U,F,rfl,hy,bz,cv,bK,aT,af⟩:=hcut;obtain⟨W6,rfl⟩:=yE wc;have bB:=aO.bel af;have aX:=aJ.trans (af.mono aJ.size);have aA:=yh (b5.bel af);have HC:=yh (bn U W6 (aT W6 (bc w W6 bf aX) aA rfl) (by rw[bh.out];exact b3) an)
 have cx:F≠z:=fun e=>by have:=aO.lt;omega
 have cK:y≠z:=fun e=>by have:=aO.lt;omega
 have bp:=yh bz;have cc:=yh aT;have cf:=yh bB;have a7:=yh aX;clear aX;clear bz aT bB af;go_wp2_with (refine yV (.tmp 10) bp underlying32 ?_);refine yM HC fun w8 ag=>?_;have cW:=yh (bp.bel ag);have aB:=yh (cf.bel ag);have bj:=yh (aA.bel ag);have bS:=yh ag.size;have bY:=yh (ag.block F bK);have bD:=a7.trans (ag.mono a7.size);have a8:=yh bD;clear bD;clear ag HC;obtain rfl:R=rm:=ca.out;have bv:=fun(us:Array Value)=>(yk z w8).setRow (.inl rfl) us;have bg:=yh (fun(us:Array Value)=>a8.trans ((bv us).below (B:=w.heap.size) a8.size (fun k hk e=>by omega)));clear bv;by_cases q9:R=0;rotate_left
 ·have cQ:(R !=0)=true:=by simpa using q9
  have Q9:=yh q9;clear q9;go_wp2_with (refine yX 32 (.tmp 6) (.tmp 119) z (Qa Qf Qg) aB ?_);refine yq2 (.tuple #[.agg (Qa Qf Qg),.int .i64 R]) (k:=6) (u:=7) (aB.row _) underlying32 ?_;exact⟨⟨Qf,Qg,rfl,(Ul Q9 _).symm,fun V _ _=>UA V⟩,bg _⟩
 subst q9;go_wp2_with (first|(refine yV (.tmp 10) cW underlying32 ?_)|(refine yX 32 (.tmp 6) (.tmp 121) z (Qa Y U) aB ?_));refine yq2 (.tuple #[.agg (Qa Y U),.int .i64 0]) (k:=6) (u:=7) (aB.row _) underlying32 ?_;have cy:=(bj.rowOther bN (Qa Y U)).lt;have cA:w.heap.size≤q:=b8.out;have cw:F<(w8.setRow z (Qa Y U)).heap.size:=Nat.lt_of_lt_of_le bK (Nat.le_trans bS (Kept.setRow (yk z w8) (.inl rfl) (Qa Y U)).size);have b7:=yh (show Blk (w8.setRow z (Qa Y U)) q #[.int .i64 x.day,.int .i64 1,.int .i64 pr] 140 from bj.rowOther bN (Qa Y U));have bZ:=yh (show(w8.setRow z (Qa Y U)).heap[F]? = W6.heap[F]? from(setRow_other _ _ _ _ cx).trans bY);exact⟨⟨Y,U,rfl,(Uf _).symm,fun V hV bO=>cc V hV ((bO q cA cy).trans b7) ((bO F (Nat.le_trans aJ.size cv) cw).trans bZ)⟩,bg _⟩
theorem Y7b (l:List Bkg)(t:Int):ZXa l t (Ze l t):=fun q b F A=>by
 have I:=(J0.1 A).1;have h:=List.not_of_lt_findIdx (p:=fun b:Bkg=>decide (t≤b.id)) (xs:=l) F;have E:=(J0.1 A).2;rw[E]at h
 have D:b.id<t:=by simpa using h
 exact D
theorem Xrb {l:List Bkg}(I:Xj l)(t:Int):Xh l t (Ze l t):=fun q c Q A=>by
 have O:=(J0.1 A).1
 have D:Ze l t<l.length:=by omega
 have h:=List.findIdx_getElem (p:=fun b:Bkg=>decide (t≤b.id)) (xs:=l) (w:=D);have E:=of_decide_eq_true h;rcases Nat.lt_or_ge (Ze l t) q with F|F
 ·have:=I _ _ _ _ F (J1 D) A;have J:t≤(l[Ze l t]'D).id:=E;omega
 ·obtain rfl:q=Ze l t:=by omega
  rw[J1 D]at A;injection A with A;rw[←A];exact E
theorem Z2b {l:List Bkg}(I:Xj l){t:Int}(E:ZA l t=false):∀(q:Nat) (c:Bkg),Ze l t≤q→l[q]? = some c→t<c.id:=fun q c F A=>by
 have J:=Xrb I t q c F A;have D:=List.any_eq_false.1 E c (J6 A);simp only[decide_eq_true_eq]at D;omega
theorem Xtb {l:List Bkg}{b:Bkg}(F:Xj l)(J:ZA l b.id=false):Xj (XS l b):=by
 rw[VZ];have O:=VZ.1 F;unfold XS;rw[List.pairwise_append,List.pairwise_cons];refine⟨O.sublist (List.take_sublist _ _),⟨fun c A=>?_,O.sublist (List.drop_sublist _ _)⟩,fun a U c A=>?_⟩
 ·obtain⟨q,E⟩:=List.getElem?_of_mem A;rw[List.getElem?_drop]at E;exact Z2b F J _ c (by omega) E
 ·obtain⟨i,D⟩:=List.getElem?_of_mem U;rw[List.getElem?_take]at D
  have I:i<Ze l b.id:=by
   by_cases h:i<Ze l b.id
   ·exact h
   ·rw[M2 h]at D;cases D
  rw[M3 I]at D;have Q:=Y7b l b.id i a I D;rcases List.mem_cons.1 A with rfl|A
  ·exact Q
  ·obtain⟨q,E⟩:=List.getElem?_of_mem A;rw[List.getElem?_drop]at E;have:=Z2b F J _ c (by omega) E;omega
theorem QPc {x:Sai}{b:Bkg}(F:QD x=0)(U:ofE x.ship b=0)(Z:ZA x.bks b.id=false)(hl:x.bks.length<16)(V:Vj x.closed b=false)(hr:QX (Q4 x b)=0):QD (Q4 x b)=0:=by
 have E:=Zm F;have aa:=XRb (X2 F).2;have ab:=Xtb (QP E.bs.rise) Z;have ac:=XZa x.bks b
 have W:Xy (Q4 x b)=0:=by
  unfold Xy
  have X:Qn (Vb (Q4 x b)) (Q4 x b).bks.length=0:=XE fun i Y=>by
   have J:i<(XS x.bks b).length:=Y;have A:=J1 J;rw[Yi (x:=Q4 x b) A]
   have O:ofE (Q4 x b).ship ((XS x.bks b)[i])=0:=by
    show ofE x.ship _=0
    rcases Uva (List.getElem_mem J)with h|h
    ·rw[h];exact U
    ·obtain⟨q,hq⟩:=List.getElem?_of_mem h;exact aa q _ hq
   rw[O,M2 (by simp),M2];rintro⟨h1,D⟩
   have I:i-1<(XS x.bks b).length:=by omega
   have h4:=ab (i-1) i _ _ (by omega) (J1 I) A
   have Q:((Q4 x b).bks.getD (i-1) default)=(XS x.bks b)[i-1]:=by
    show(XS x.bks b).getD (i-1) default=_
    rw[J7,J1 I];rfl
   rw[Q]at D;omega
  rw[M2 (by show ¬16<(XS x.bks b).length;omega),X,M2 (by simp),M2];intro h;obtain⟨c,A,D⟩:=List.any_eq_true.1 h;rcases Uva A with rfl|A
  ·rw[show(Q4 x c).closed=x.closed from rfl,V]at D;cases D
  ·have:=List.any_eq_false.1 E.bs.bad c A;exact this D
 have hs:Z9 x.ship=0:=(X2 F).1;unfold QD;rw[show(Q4 x b).ship=x.ship from rfl,hs,M2 (by simp),show(Q4 x b).fares=x.fares from rfl,E.fares,M2 (by simp),show(Q4 x b).day=x.day from rfl,show(Q4 x b).leaves=x.leaves from rfl,E.day,E.leaves,M2 (by simp),W,M2 (by simp),hr]
 rfl
theorem Vra {x:Sai}{b:Bkg}{k:Int}(h:U6 x b k=0):QD x=0∧b.fol=[]∧ZA x.bks b.id=false∧QD (U7 x b)=0:=by
 unfold U6 at h;by_cases h0:QD x=0
 ·rw[M2 (by simp[h0])]at h;unfold ZPa at h;by_cases h1:b.kind≠k∨b.state=3
  ·rw[M3 h1]at h;omega
  rw[M2 h1]at h;by_cases h2:0<b.fol.length∨k=2∧b.cab≠-1
  ·rw[M3 h2]at h;omega
  rw[M2 h2]at h;by_cases h3:ofE x.ship b=0
  ·rw[M2 (by simp[h3])]at h;unfold VSa at h;by_cases h4:XYb x b=true
   ·rw[M3 h4]at h;omega
   rw[M2 h4]at h;by_cases h5:ZA x.bks b.id=true
   ·rw[M3 h5]at h;omega
   rw[M2 h5]at h;by_cases h6:x.bks.length=16
   ·rw[M3 h6]at h;omega
   rw[M2 h6]at h
   have A:ZA x.bks b.id=false:=by cases q:ZA x.bks b.id;rfl;exact absurd q h5
   have D:=Zm h0;have I:b.fol=[]:=List.eq_nil_of_length_eq_zero (by omega);have O:=Yca D (ZZa h3);refine⟨h0,I,A,QPc h0 ?_ A (by have:=D.bs.len;omega) ?_ h⟩
   ·have:=Qjc (x:=x.ship) (b:=b) (f:=(UU x b).fol) (ZZa h3).fol O.fol;rw[h3]at this;exact this
   ·simp only[not_or,not_and]at h1 h2;unfold XYb at h4;unfold Vj;by_cases hk:b.kind=2
    ·have J:k=2:=by omega
     have E:b.cab=-1:=by have:=h2.2 J;omega
     have F:x.closed=false:=by
      cases q:x.closed
      ·rfl
      ·rw[q,J2 hk]at h4;simp at h4
     show(decide (b.kind=2) && (QB (UU x b) && (decide (b.cab<0)==x.closed)))=false
     rw[F,E];simp
    ·show(decide (b.kind=2) && _)=false
     rw[J3 hk];rfl
  ·rw[M3 h3]at h;exact absurd h h3
 ·rw[M3 h0]at h;exact absurd h h0
end Go.Proofs.YtjdcokpmgionjaaGreat
