/-
  Words, laws and contracts: Elem, StockZ, SellA, SellB, SellC.
-/
import Derived.Test.YtjdcokpmgionjaaGreatBun20
import Derived.Deep.MidRow
import Derived.BigQuiet
set_option linter.unusedSimpArgs false
set_option linter.unusedVariables false
set_option maxRecDepth 100000
set_option maxHeartbeats 20000000
namespace Go.Proofs.YtjdcokpmgionjaaGreat
open Go.RowKit Go.Shelf
theorem Zuc {n:Nat}{a w:World}(_:Below n a w)(A:Array Value)(t:TypeId):Blk (w.alloc (.cells A t)) w.heap.size A t:=Blk.new w A t
section
variable {α:Type} {c:Cod α} {size:Nat} {e:TypeId} {w w':World} {base g n cap:Nat} {l:List α} {xs:List Value}
theorem Own.len (h:Own c size e w base (.slice (some ⟨g,0,none⟩) n cap) l xs):n=l.length:=by
 rcases h.row.2 with⟨A,_⟩ | ⟨F,D,E,A,_⟩
 ·cases A
 ·injection A
theorem Zxc {i L k s:Nat}(A:i < L)(D:k < s):i*s+k < L*s:=by
 have:(i+1)*s≤L*s:=Nat.mul_le_mul_right _ A;rw[Nat.add_mul]at this;omega
theorem XLb {i k s j:Nat}(A:k < i)(D:j < s):k*s+j < i*s:=by
 have:(k+1)*s≤i*s:=Nat.mul_le_mul_right _ A;rw[Nat.add_mul]at this;omega
end
theorem ZF {n:Nat}{a w:World}(_:Below n a w)(A:Array Value)(t:TypeId):∀g,g=w.heap.size→Blk (w.alloc (.cells A t)) g A t:=fun g D=>by subst D;exact Blk.new w A t
theorem V9 {a w:World}(h:yw a w):∀g,g=w.heap.size→a.heap.size≤g:=fun g A=>by subst A;exact h.size
theorem YZ {P:Program}{V:Array Oper}{A:Oper}{a:Act}{w:World}{K:Act→World→Prop}{Q:Exit→Act→World→Prop}{E:Prop}(I:A.guard=none)(ty:TypeId)(x:Operand)(O:A.op=.load ty x)
  (b o:Nat) (U:a.eval x=.pointer (some ⟨b,o,none⟩)) (D:List Value) (d:TypeDesc) (W:w.rangeAt b o D) (X:P.underlying ty=some d) (F:d.isRow=true) (J:(P.info? ty).map (·.size)=some D.length)
  (h:K (a.put A.dst (.agg D.toArray)) w):if Region.wanted A (yielded V a.tmps)=true then Oper.wp P A a w K Q else E:=by
 rw[if_pos (by simp[Region.wanted,I])];exact wp_load_mid ty x O b o U D d W X F J h
def ZYb (x:Sai) (b:Bkg):Bool:=decide (x.leaves≤x.day) || (decide (b.state=1) && (decide (b.til < x.day) || decide (x.leaves≤b.til)))
def Yia (x:Sai) (b:Bkg):Int:=if b.kind=1 then (x.ship.cabs.getD b.cab.toNat default).cat else b.cat
def Zpa (x:Sai) (b:Bkg):Int:=ofV x.fares (Yia x b) ⟨b.frm,b.upto⟩ b.gst
def U6 (x:Sai) (b:Bkg):Bkg:={ b with fol:=[⟨x.day,1,Zpa x b⟩] }
def QNc (x:Sai) (b:Bkg):Bool:=ZYb x b || (decide (b.kind=2) && x.closed)
noncomputable def XPa (x:Sai) (b:Bkg):Int:=if QNc x b=true then 4 else if ZI x.bks b.id=true then 6 else if x.bks.length=16 then 2 else QQ (QN x (U6 x b))
theorem Xqb {x:Sai}{b:Bkg}(F:OkShp x.ship)(A:OkBk x.ship b):0≤Yia x b∧Yia x b < x.ship.cats.length:=by
 unfold Yia
 by_cases h1:b.kind=1
 ·rw[if_pos h1]
  have h:=A.kindE;unfold kindE at h;rw[if_neg (by omega)]at h;unfold Y9 at h
  by_cases h4:Qc b.cab 0 ((x.ship.cabs.length:Int) - 1)=false
  ·rw[if_pos h4]at h;omega
  have D:=Qj.1 (Ue h4);have E:=QEb F (k:=b.cab.toNat) (by omega);exact⟨E.1,E.2.1⟩
 ·rw[if_neg h1]
  have I:=Qj.1 A.kind;have h:=A.kindE;unfold kindE at h;rw[if_pos (by omega)]at h;unfold QTa at h
  by_cases h2:Qc b.cat 0 ((x.ship.cats.length:Int) - 1)=false
  ·rw[if_pos h2]at h;omega
  have D:=Qj.1 (Ue h2);exact⟨D.1,by omega⟩
theorem U2a {x:Sai}{b:Bkg}(A:FareOk x.fares x.ship.cats.length x.ship.legs)(O:OkShp x.ship)(F:OkBk x.ship b) :
  ∃(k f t:Nat) (L:List Int),Yia x b=k∧b.frm=f∧b.upto=t∧x.fares.leg[k]? = some L∧f < t∧t≤L.length∧L.length≤7∧(∀v∈L,0≤v∧v≤100000)∧Zpa x b=YWa x.fares (seg L f t).sum b.gst:=by
 obtain⟨U,X⟩:=Xqb O F;obtain⟨W,s1,s2⟩:=Qva O F;obtain⟨k,J⟩:=Int.eq_ofNat_of_zero_le U;obtain⟨f,I⟩:=Int.eq_ofNat_of_zero_le W;obtain⟨t,Q⟩:=Int.eq_ofNat_of_zero_le (show 0≤b.upto by omega)
 have V:k < x.fares.leg.length:=by have:=A.len;omega
 have D:=List.getElem?_eq_getElem V;have E:=List.mem_of_getElem? D;have Y:=A.lens _ E;have Z:=A.mr;refine⟨k,f,t,_,J,I,Q,D,by omega,by omega,by omega,A.leg _ E,?_⟩;unfold Zpa ofV;rw[J,I,Q];simp only[Int.toNat_natCast,D,Option.getD_some]
theorem YZa {x:Sai}{b:Bkg}(A:FareOk x.fares x.ship.cats.length x.ship.legs)(W:OkShp x.ship)(E:OkBk x.ship b):0≤Zpa x b∧Zpa x b≤100000000:=by
 obtain⟨k,f,t,L,Y,Z,e3,e4,e5,e6,e7,O,Q⟩:=U2a A W E;rw[Q]
 have V:∀v∈seg L f t,0≤v∧v≤((100000:Nat):Int):=fun v D=>O v (by
  unfold seg at D
  first | exact List.mem_of_mem_drop (List.mem_of_mem_take D) | exact List.mem_of_mem_take (List.mem_of_mem_drop D))
 have U:(seg L f t).length≤7:=by unfold seg;simp only[List.length_take,List.length_drop];omega
 obtain⟨F,s1⟩:=YIb V
 have s2:(seg L f t).sum≤700000:=by
  have:(seg L f t).length*100000≤7*100000:=Nat.mul_le_mul_right _ U;omega
 obtain⟨I,J⟩:=A.a;obtain⟨X,t1⟩:=A.t;have p1:=QRa F (by omega) I J;have p2:=QRa F (by omega) X (show x.fares.third≤200 by omega);have hg:=E.gst;unfold YWa
 rcases(show b.gst=1∨b.gst=2∨b.gst=3∨b.gst=4 by omega)with h | h | h | h<;>rw[h]
 ·rw[if_pos rfl];omega
 ·rw[if_neg (by decide)];omega
 ·rw[if_neg (by decide)];omega
 ·rw[if_neg (by decide)];omega
theorem YCb {d p:Int}(F:Qc d 0 9999=true)(I:0≤p∧p≤100000000):Qe [⟨d,1,p⟩]=0:=by
 have e:=Qj.1 F
 have A:Zj ⟨d,1,p⟩=0:=by
  unfold Zj;rw[if_neg (by simp only;omega),if_neg (by simp only;omega),if_neg (by simp only;omega)]
 have D:Zk [⟨d,1,p⟩] 0=0:=by
  unfold Zk
  simp[A]
 have E:Uz [⟨d,1,p⟩] 0=0:=by
  unfold Uz Vh ZR ZS
  simp
  omega
 unfold Qe
 simp[Qo,D,E]
theorem Unb {x:Sai}{b:Bkg}(D:OkSai x)(A:OkBk x.ship b):OkBk x.ship (U6 x b):=
 ⟨A.kind,A.state,A.id,A.gst,A.span,A.kindE,A.til,A.opt,YCb D.day (YZa (YG D.fares) D.bs.ship A)⟩
theorem Yga {w w':World}{S:Nat→Prop}{z:Nat}{zs:Array Value}{t:TypeId}{x:Bkg}{D:List Value}(h:Vj w S x D)(J:Blk w z zs t)(Q:t≠140)(O:Kept (fun k=>k=z) w w'):Vj w' S x D:=by
 obtain⟨v,rfl,⟨xs,A,I⟩,F⟩:=h;exact⟨v,rfl,⟨xs,A.keepB Uc (fun k E=>O.block k (A.lt k E).2 (fun e=>A.neTy J Q (by rw[E,e]))),I⟩,F⟩
theorem SaiW.keepZ {E:World}{F:Nat}{w w':World}{base:Nat}{x:Sai}{p:SaiV}{z:Nat}{zs:Array Value}{t:TypeId}(h:SaiW E F w base x p)(I:Blk w z zs t)(h1:t≠140)(h2:t≠63)(hz:E.heap.size≤z)
  (D:Kept (fun k=>k=z) w w'):SaiW E F w' base x p:=by
 obtain⟨Q,U,V,W,X,xs,A⟩:=h;have hv:=A.neTy I h2;refine⟨Q,U,Nat.le_trans V D.size,fun k aa ab=>(D.block k (by omega) (by omega)).trans (W k aa ab),X,xs,⟨⟨A.row.1,?_⟩,fun i y hy=>?_⟩⟩
 ·rcases A.row.2 with h0 | ⟨g,cap,Z,O,hb,J,r⟩
  ·exact .inl h0
  ·exact .inr ⟨g,cap,Z,O,hb,(D.block g (Array.getElem?_eq_some_iff.1 J).1 (fun e=>hv (by rw[O,e];rfl))).trans J,r⟩
 ·obtain⟨Y,hc,r⟩:=A.el i y hy
  exact⟨Y,Yga hc I h1 D,r⟩
theorem SaiW.bel {E:World}{D:Nat}{w w':World}{base:Nat}{x:Sai}{p:SaiV}(h:SaiW E D w base x p)(A:yw w w'):SaiW E D w' base x p:=by
 obtain⟨F,I,J,O,Q,xs,U⟩:=h;exact⟨F,I,Nat.le_trans J A.size,fun k V W=>(A.block k (by omega)).trans (O k V W),Q,xs,U.bel A⟩
theorem SaiW.sai {D:World}{A:Nat}{w:World}{base:Nat}{x:Sai}{p:SaiV}(h:SaiW D A w base x p):SaiR w x p:=SaiO.sai ⟨D,A,h⟩
theorem XRb (x:Sai)(b:Bkg)(v:Value)(z:Nat)(w:World)(h9:yI w z 9 x.day)(Z:yI w z 10 x.leaves) :
  Calls Tryz.prog 226 #[.pointer (some ⟨z,0,none⟩),.agg (Qz b v)] w fun e w'=>e=.returned (.bool (ZYb x b))∧yw w w':=by
 obtain⟨id,aa,E,Y,lev,Q,U,X,upto,A,W⟩:=b;obtain⟨r,O⟩:∃r,r=ZYb x ⟨id,aa,E,Y,lev,Q,U,X,upto,A,W⟩:=⟨_,rfl⟩;rw[←O];have F:=yh (show r=(decide (x.leaves≤x.day) || (decide (E=1) && (decide (A < x.day) || decide (x.leaves≤A))))from O);clear O
 go_enter Tryz.func226,Tryz.ntmps226
 go_upto_region 0 with(fail)
 go_cut [3,4] (fun p _ wx=>∃h,p=.pointer (some ⟨h,0,none⟩)∧Blk wx h (Qz ⟨id,aa,E,Y,lev,Q,U,X,upto,A,W⟩ v) 63∧yw w wx)
 case first=>as_aux_lemma=>
  go_wp2_with fail
  go_meet
  exact⟨_,rfl,Za _ _,Qf _ _⟩
 obtain⟨h,rfl,J,D⟩:=hcut;replace h9:=Qg D h9;replace Z:=Qg D Z;have h2:yI wc h 2 E:=J.cell rfl;have h3:yI wc h 9 A:=J.cell rfl;clear J
 go_upto_region 1 with(fail)
 by_cases q1:x.leaves≤x.day
 ·obtain rfl:r=true:=by rw[F.out,decide_eq_true q1];rfl
  have I:decide (x.leaves≤x.day)=true:=decide_eq_true q1;clear q1
  go_quiet (fail)
  go_wp2_with fail
  go_ret
  exact⟨rfl,below_drewN D _⟩
 have I:decide (x.leaves≤x.day)=false:=decide_eq_false q1
 by_cases q2:E=1
 rotate_left
 ·obtain rfl:r=false:=by rw[F.out,I,decide_eq_false q2];rfl
  have d2:(E == 1)=false:=by simpa using q2
  clear q1 q2
  go_quiet (fail)
  go_wp2_with fail
  go_ret
  exact⟨rfl,below_drewN D _⟩
 subst q2
 by_cases q3:A < x.day
 ·obtain rfl:r=true:=by rw[F.out,I,decide_eq_true q3];rfl
  have V:decide (A < x.day)=true:=decide_eq_true q3;clear q1 q3
  go_quiet (fail)
  go_wp2_with fail
  go_ret
  exact⟨rfl,below_drewN D _⟩
 have V:decide (A < x.day)=false:=decide_eq_false q3;obtain⟨u,hu⟩:∃u,decide (x.leaves≤A)=u:=⟨_,rfl⟩
 obtain rfl:r=u:=by rw[F.out,I,V,hu];simp
 clear q1 q3
 go_quiet (fail)
 go_wp2_with fail
 go_ret
 exact⟨rfl,below_drewN D _⟩
theorem Zja {x:Sai}(D:OkSai x):∀b∈x.bks,1≤b.id∧b.id≤999999:=fun b A=>Qj.1 (D.bs.bk b A).id
theorem VGb {w:World}{e:Nat}{a b c:Int}(h:Blk w e #[.int .i64 a,.int .i64 b,.int .i64 c] 140)(D:InI a)(E:InI b)(F:InI c):Sl Qw 3 w All (some ⟨e,0,none⟩) 1 1 [⟨a,b,c⟩]:=
 Sl.ofBlk (c:=Qw) (size:=3) h ([⟨a,b,c⟩]:List Entry) (by simp) trivial fun i x A=>by
  rcases i with _ | i
  ·simp at A;subst A;exact⟨[.int .i64 a,.int .i64 b,.int .i64 c],⟨rfl,D,E,F⟩,rfl,fun j u I=>by simpa using I⟩
  ·simp at A
def Zkc (r:Int) (P:Prop):Prop:=r=0→P
theorem XIa {l:List Bkg}{b c:Bkg}(h:c∈XM l b):c=b∨c∈l:=by
 unfold XM at h
 rcases List.mem_append.1 h with h | h
 ·exact .inr (List.mem_of_mem_take h)
 ·rcases List.mem_cons.1 h with h | h
  ·exact .inl h
  ·exact .inr (List.mem_of_mem_drop h)
theorem ZZb (l:List Bkg)(b:Bkg):(XM l b).length=l.length+1:=by
 unfold XM;have:ZG l b.id≤l.length:=List.findIdx_le_length;rw[List.length_append,List.length_cons,List.length_take,List.length_drop];omega
theorem QGc {x:Shp}{b:Bkg}{f:List Entry}(h:Qe b.fol=0)(A:Qe f=0):ofE x { b with fol:=f } = ofE x b:=by
 unfold ofE kindE QTa Y9;rw[h,A]
 rfl
theorem YGb (w0:World)(b0:Nat)(x:Sai)(p:SaiV)(b:Bkg)(A3:Option Addr)(n3 c3:Nat)(base z:Nat)(w:World)(hO:SaiW w0 b0 w base x p)(ay:base≤w.heap.size)(hZ:Blk w z (Qa x p) 230)(bO:w0.heap.size≤z)(O:OkSai x)
  (hI:BkIn b) (hk:OkBk x.ship b) :
  Calls Tryz.prog 178 #[.pointer (some ⟨z,0,none⟩),.agg (Qz b (.slice A3 n3 c3))] w fun e w'=>e=.returned (.int .i64 (XPa x b))∧Zkc (XPa x b) (∃p',Blk w' z (Qa (QN x (U6 x b)) p') 230∧SaiW w0 b0 w' base (QN x (U6 x b)) p')∧Below base w w':=by
 obtain⟨A,n,cap,B,m,ac,D,nd,cd,E,ne,ce,C,nb,cb⟩:=p;have aH:=yh (fun X hl=>Vs x ⟨A,n,cap,B,m,ac,D,nd,cd,E,ne,ce,C,nb,cb⟩ b.id X hl (Zc O.bs.rise) (Zja O) O.bs.len hI.id);have ap:=yh (fun v X h9 bD=>XRb x b v z X h9 bD);obtain⟨k,f,t,L,e1,e2,e3,e4,e5,e6,e7,e8,e9⟩:=U2a (YG O.fares) O.bs.ship hk;have aA:=YG O.fares;have aq:=yh (fun X hF=>Zmc D nd cd x.fares E ne ce k f t b.gst L X hF e4 e5 e6 e7 e8 aA.a aA.t hk.gst);rw[←e9]at aq;have aY:=YZa aA O.bs.ship hk;have bi:=Qj.1 O.day;have ba:=yh (fun q W h1 h2 hf=>Yy w0 b0 x ⟨A,n,cap,B,m,ac,D,nd,cd,E,ne,ce,C,nb,cb⟩ (U6 x b) (some ⟨q,0,none⟩) 1 1 base W h1 h2 (Zc O.bs.rise) (Zja O) O.bs.len hf (by omega) ⟨hI.id,hI.kind,hI.state,hI.gst,hI.cab,hI.cat,hI.frm,hI.upto,hI.til⟩ (Qj.1 hk.id))
 have bn:∀c∈XM x.bks (U6 x b),OkBk x.ship c:=fun c hc=>by
  rcases XIa hc with rfl | hc
  ·exact Unb O hk
  ·exact O.bs.bk c hc
 have bN:=O.bs.len;have aI:=yh (fun p W (h:SaiR W (QN x (U6 x b)) p) (bX:x.bks.length≠16)=>Uta (QN x (U6 x b)) p W h O.bs.ship bn (by rw[show(QN x (U6 x b)).bks=XM x.bks (U6 x b)from rfl,ZZb];omega))
 have aU:b.kind=1→0≤b.cab∧b.cab.toNat < m:=fun h1=>by
  have h:=hk.kindE;unfold kindE at h;rw[if_neg (by omega)]at h;unfold Y9 at h
  by_cases h4:Qc b.cab 0 ((x.ship.cabs.length:Int) - 1)=false
  ·rw[if_pos h4]at h;omega
  have h5:=Qj.1 (Ue h4);have:=hO.sai.cabs.len;simp only at this;omega
 obtain⟨r,hr⟩:∃r,r=XPa x b:=⟨_,rfl⟩;obtain⟨lb,aW⟩:∃r,r=ZYb x b:=⟨_,rfl⟩;obtain⟨hi,aT⟩:∃r,r=ZI x.bks b.id:=⟨_,rfl⟩;obtain⟨rm,aB⟩:∃r,r=QQ (QN x (U6 x b)):=⟨_,rfl⟩;obtain⟨tv,b9⟩:∃r,r=QNc x b:=⟨_,rfl⟩;obtain⟨pr,aZ⟩:∃r,r=Zpa x b:=⟨_,rfl⟩;obtain⟨ct,aS⟩:∃r,r=Yia x b:=⟨_,rfl⟩;obtain⟨fb,am⟩:∃r,r=U6 x b:=⟨_,rfl⟩;have aX:x.bks.length=nb:=hO.sai.bks.len;have HR:=yh (show r=if tv=true then 4 else if hi=true then 6 else if nb=16 then 2 else rm by rw[hr,b9,aT,aB,←aX];rfl);have ar:=yh (show tv=(lb || (decide (b.kind=2) && x.closed))by rw[b9,aW];rfl);rw[←aW]at ap;rw[←aT]at aH;rw[←aZ]at aq aY;rw[←aS]at e1;rw[←am]at ba aI aB;rw[←aB]at aI;rw[←hr,←am];have ca:=yh (show ∀v,Qz fb v=#[.int .i64 b.id,.int .i64 b.kind,.int .i64 b.state,.int .i64 b.gst,.bool b.lev,.int .i64 b.cab,.int .i64 b.cat,.int .i64 b.frm,.int .i64 b.upto,.int .i64 b.til,v]by intro v;rw[am];rfl);have br:=yh (show fb.fol=[⟨x.day,1,pr⟩]by rw[am,aZ];rfl);have a5:=yh aS;have bw:=yh aX;clear hr aW aT aB b9 aZ am bn e9 bN aS;subst e1;have aG:=yh hO;have ao:=hO.sai;have aJ:=yh ao;have bT:=yh (show m=x.ship.cabs.length from ao.cabs.len.symm);have bM:=ao.cabs.bd;simp only at bM;have bJ:=ao.cabs.le;simp only at bJ;obtain⟨id,b7,aC,au,lev,af,ag,bW,upto,aD,bC⟩:=b;simp only at e2 e3 aq ar ca aU ap aH;subst e2 e3;have aV:=Qj.1 hk.kind;simp only at aV;have bR:=yh aV;clear aV;have bu:=yh aU;clear aU;have bq:=yh bi;have bz:=yh aY;clear hk hI e4 e5 e6 e7 e8 hO ao bi aY aX O aA
 go_enter Tryz.func178,Tryz.ntmps178
 go_upto_region 0 with(fail)
 go_cut [3,4] (fun p _ wx=>∃h,p=.pointer (some ⟨h,0,none⟩)∧w.heap.size≤h∧Blk wx h (Qz ⟨id,b7,aC,au,lev,af,ag,(f:Int),(t:Int),aD,bC⟩ (.slice A3 n3 c3)) 63∧yw w wx)
 case first=>as_aux_lemma=>
  go_wp2_with fail
  go_meet
  exact⟨_,rfl,Nat.le_refl _,Za _ _,Qf _ _⟩
 obtain⟨h,rfl,hh,hH,ae⟩:=hcut;obtain⟨W1,bE⟩:∃V,V=wc:=⟨_,rfl⟩;subst bE;have b4:=hZ.lt
 have Q:z≠h:=by omega
 have F:=yh (fun X (hX:yw W1 X)=>(hZ.bel ae).bel hX);have I:=yh (fun X (hX:yw W1 X)=>hH.bel hX);have HT:=yh (fun X (hX:yw W1 X)=>ae.trans (hX.mono ae.size));have aE:=yh (fun X (hX:yw W1 X)=>(ae.trans (hX.mono ae.size)).mono ay);have ai:=yh (show ∀w',yw W1 w'→((yI w' z 0 x.ship.legs∧yI w' z 1 x.ship.souls∧yJ w' z 2 A n cap∧yJ w' z 3 B m ac∧yJ w' z 4 D nd cd∧yI w' z 5 x.fares.alone∧yI w' z 6 x.fares.third∧yJ w' z 7 E ne ce∧yI w' z 8 x.fares.down∧yI w' z 9 x.day∧yI w' z 10 x.leaves∧yJ w' z 11 C nb cb∧w'.cell? ⟨z,12,none⟩=some (.bool x.closed))∧(yI w' h 0 id∧yI w' h 1 b7∧yI w' h 2 aC∧yI w' h 3 au∧w'.cell? ⟨h,4,none⟩=some (.bool lev)∧yI w' h 5 af∧yI w' h 6 ag∧yI w' h 7 (f:Int)∧yI w' h 8 (t:Int)∧yI w' h 9 aD))from fun w' hX=>⟨(fun hX=>(⟨(F.out _ hX).cell rfl,(F.out _ hX).cell rfl,(F.out _ hX).cell rfl,(F.out _ hX).cell rfl,(F.out _ hX).cell rfl,(F.out _ hX).cell rfl,(F.out _ hX).cell rfl,(F.out _ hX).cell rfl,(F.out _ hX).cell rfl,(F.out _ hX).cell rfl,(F.out _ hX).cell rfl,(F.out _ hX).cell rfl,(F.out _ hX).cell rfl⟩)) hX,(I.out _ hX).cell rfl,(I.out _ hX).cell rfl,(I.out _ hX).cell rfl,(I.out _ hX).cell rfl,(I.out _ hX).cell rfl,(I.out _ hX).cell rfl,(I.out _ hX).cell rfl,(I.out _ hX).cell rfl,(I.out _ hX).cell rfl,(I.out _ hX).cell rfl⟩);have b2:=ae.size;have hb:yw W1 W1:=Below.refl _ _;clear hH ae
 go_upto_region 1 with(fail)
 go_cut [22] (fun p wx=>p=.bool tv∧yw W1 wx)
 case first=>as_aux_lemma=>
  have HC:=yh (ap.out (.slice A3 n3 c3) W1 ((F.out _ hb).cell rfl) ((F.out _ hb).cell rfl))
  go_wp2_with (refine wpList_load_row rfl 63 (.tmp 3) rfl h rfl 63 _ (0,0) _ (I.out _ hb) Tryz.underlying63 rfl (by kernel_rfl) ?_)
  refine HC.out.mono ?_;rintro e w2 ⟨rfl,ad⟩;have h1:yI w2 h 1 b7:=(I.out _ ad).cell rfl;have b5:w2.cell? ⟨z,12,none⟩=some (.bool x.closed):=(F.out _ ad).cell rfl
  cases lb
  ·by_cases q1:b7=2
   ·obtain rfl:tv=x.closed:=by rw[ar.out,decide_eq_true q1];simp
    subst q1
    go_wp2_with fail
    go_meet
    exact⟨rfl,ad⟩
   ·obtain rfl:tv=false:=by rw[ar.out,decide_eq_false q1];rfl
    have q2:(b7 == 2)=false:=by simpa using q1
    clear q1
    go_wp2_with fail
    go_meet
    exact⟨rfl,ad⟩
  ·obtain rfl:tv=true:=by rw[ar.out];rfl
   go_wp2_with fail
   go_meet
   exact⟨rfl,ad⟩
 obtain⟨rfl,ad⟩:=hcut;replace hb:=hb.trans (ad.mono hb.size);clear ad ap
 cases tv
 rotate_left
 ·obtain rfl:r=4:=by rw[HR.out];rfl
  go_wp2_with fail
  go_ret
  exact⟨rfl,fun h=>absurd h (by decide),aE.out _ hb⟩
 obtain⟨W2,bF⟩:∃V,V=wc:=⟨_,rfl⟩;subst bF
 go_upto_region 3 with(fail)
 have b6:yw W1 W2.drew:=hb.drew;refine wp_region_held_drew (S:=(fun w'=>(yI w' z 0 x.ship.legs∧yI w' z 1 x.ship.souls∧yJ w' z 2 A n cap∧yJ w' z 3 B m ac∧yJ w' z 4 D nd cd∧yI w' z 5 x.fares.alone∧yI w' z 6 x.fares.third∧yJ w' z 7 E ne ce∧yI w' z 8 x.fares.down∧yI w' z 9 x.day∧yI w' z 10 x.leaves∧yJ w' z 11 C nb cb∧w'.cell? ⟨z,12,none⟩=some (.bool x.closed))∧(yI w' h 0 id∧yI w' h 1 b7∧yI w' h 2 aC∧yI w' h 3 au∧w'.cell? ⟨h,4,none⟩=some (.bool lev)∧yI w' h 5 af∧yI w' h 6 ag∧yI w' h 7 (f:Int)∧yI w' h 8 (t:Int)∧yI w' h 9 aD))) (by kernel_rfl) (ai.out _ b6) (fun aa=>?_);refine yT [0,1,2,3,4,5] (by kernel_rfl) (by assumption) ?_
 iterate 6 (refine yS (v:=?_) (gA rfl) (fun _ _ _ h=>h) rfl ?_ ?_;rotate_left;(focus (intro w Z;(try dsimp only at Z);go_simp<;>with_reducible rfl));simp only[yP,yA,yB,yC])
 refine yR 6 (by kernel_rfl) (gA rfl) fun K hK=>?_
 go_simp
 (go_at_call 141;refine(aH.out _ (aJ.out.bel (HT.out _ b6)).bks).mono ?_;rintro e w3 ⟨i,rfl,_,_,ak⟩;replace b6:=b6.trans (ak.mono b6.size);clear ak)
 go_wp2_with fail
 refine hK.out _ _ (ai.out _ b6) fun aa=>?_
 clear hK K
 try simp only[yP,yQ,yA,yB,yC]
 refine yT [7,8,9,10,11] (by kernel_rfl) (by assumption) ?_
 iterate 5 (refine yS (v:=?_) (gA rfl) (fun _ _ _ h=>h) rfl ?_ ?_;rotate_left;(focus (intro w Z;(try dsimp only at Z);go_simp<;>with_reducible rfl));simp only[yP,yA,yB,yC])
 refine wpAnyH_done (by kernel_rfl) ?_ _;clear hb
 cases hi
 rotate_left
 ·obtain rfl:r=6:=by rw[HR.out];rfl
  go_wp2_with fail
  go_ret
  exact⟨rfl,fun h=>absurd h (by decide),aE.out _ b6⟩
 have bQ:yJ w3 z 11 C nb cb:=(F.out _ b6).cell rfl
 by_cases hn16:nb=16
 ·obtain rfl:r=2:=by rw[HR.out];simp[hn16]
  subst hn16
  go_wp2_with fail
  go_ret
  exact⟨rfl,fun h=>absurd h (by decide),aE.out _ b6⟩
 have bA:=yh (show r=rm by rw[HR.out];simp[hn16])
 have b1:((nb:Int) == 16)=false:=by simp;omega
 have bv:=yh hn16;have h6:yI w3 h 6 ag:=(I.out _ b6).cell rfl;have h1:yI w3 h 1 b7:=(I.out _ b6).cell rfl;clear hn16
 go_upto_if 45 with(fail)
 obtain⟨W3,bG⟩:∃V,V=w3:=⟨_,rfl⟩;subst bG
 go_cut [7] (fun p wx=>p=.int .i64 (k:Int)∧yw W3 wx)
 case first=>as_aux_lemma=>
  by_cases q1:b7=1
  ·obtain⟨c0,cl⟩:=bu.out q1
   obtain⟨cn,rfl⟩:∃j:Nat,af=j:=⟨af.toNat,by omega⟩
   have bL:cn < m:=by omega
   obtain⟨ab,bP,nm,bB,bV,lv,rfl,bm,y0,y1,y2,y3⟩:=((aJ.out.bel (HT.out _ b6)).cabs).cab bL
   have al:(k:Int)=bB:=by
    rw[a5.out];unfold Yia;rw[if_pos q1];simp only[Int.toNat_natCast,bm]
   have aF:=yh al;have z3:yJ W3 z 3 (some ⟨ab,bP,none⟩) m ac:=(F.out _ b6).cell rfl;have h5:yI W3 h 5 (cn:Int):=(I.out _ b6).cell rfl
   have q2:(0:Int)≤(cn:Int):=by omega
   have q3:(cn:Int) < (m:Int):=by omega
   subst q1;clear al bm cl c0
   go_upto_region 10 with(fail)
   go_quiet (fail)
   go_wp2_with fail
   go_meet
   exact⟨by rw[aF.out],below_drewN (Below.refl _ _) _⟩
  ·have al:(k:Int)=ag:=by
    rw[a5.out];unfold Yia;rw[if_neg q1]
   have aF:=yh al;clear al
   have q2:(b7 == 1)=false:=by simpa using q1
   clear q1
   go_wp2_with fail
   go_meet
   exact⟨by rw[aF.out],Below.refl _ _⟩
 obtain⟨rfl,ak⟩:=hcut;have hb:=b6.trans (ak.mono b6.size);clear b6 ak bQ h6 h1;obtain⟨W4,bH⟩:∃V,V=wc:=⟨_,rfl⟩;subst bH
 go_upto_region 11 with(fail)
 go_cut [3] (fun p wx=>p=.pointer (some ⟨h,0,none⟩)∧∃q,Blk wx h (Qz fb (.slice (some ⟨q,0,none⟩) 1 1)) 63∧Blk wx q #[.int .i64 x.day,.int .i64 1,.int .i64 pr] 140∧q≠h∧Kept (fun k=>k=h) W4 wx)
 case first=>
  have b6:yw W1 W4.drew:=hb.drew;have aM:Kept (fun k=>k=h) W4 W4.drew:=(Kept.refl _ _).drew;refine wp_region_held_drew (S:=(fun w'=>(yI w' z 0 x.ship.legs∧yI w' z 1 x.ship.souls∧yJ w' z 2 A n cap∧yJ w' z 3 B m ac∧yJ w' z 4 D nd cd∧yI w' z 5 x.fares.alone∧yI w' z 6 x.fares.third∧yJ w' z 7 E ne ce∧yI w' z 8 x.fares.down∧yI w' z 9 x.day∧yI w' z 10 x.leaves∧yJ w' z 11 C nb cb∧w'.cell? ⟨z,12,none⟩=some (.bool x.closed))∧(yI w' h 0 id∧yI w' h 1 b7∧yI w' h 2 aC∧yI w' h 3 au∧w'.cell? ⟨h,4,none⟩=some (.bool lev)∧yI w' h 5 af∧yI w' h 6 ag∧yI w' h 7 (f:Int)∧yI w' h 8 (t:Int)∧yI w' h 9 aD))) (by kernel_rfl) (ai.out _ b6) (fun aa=>?_);refine yT [0,1,2,3,4,5,6,7,8,9,10,11,12,13,14] (by kernel_rfl) (by assumption) ?_
  iterate 15 (refine yS (v:=?_) (gA rfl) (fun _ _ _ h=>h) rfl ?_ ?_;rotate_left;(focus (intro w Z;(try dsimp only at Z);go_simp<;>with_reducible rfl));simp only[yP,yA,yB,yC])
  refine yR 15 (by kernel_rfl) (gA rfl) fun K hK=>?_
  go_simp
  (go_at_call 124;refine(aq.out _ (aJ.out.bel (HT.out _ b6)).fares).mono ?_;rintro e w5 ⟨rfl,aO⟩;have b3:=b6.size;have aM:=aM.trans (Kept.of_below aO (fun k hk cc=>by omega));replace b6:=b6.trans (aO.mono b6.size);clear aO)
  go_wp2_with fail
  refine hK.out _ _ (ai.out _ b6) fun aa=>?_
  clear hK K
  try simp only[yP,yQ,yA,yB,yC]
  refine yT [16] (by kernel_rfl) (by assumption) ?_
  iterate 1 (refine yS (v:=?_) (gA rfl) (fun _ _ _ h=>h) rfl ?_ ?_;rotate_left;(focus (intro w Z;(try dsimp only at Z);go_simp<;>with_reducible rfl));simp only[yP,yA,yB,yC])
  refine yR 17 (by kernel_rfl) (gA rfl) fun K hK=>?_
  go_simp
  refine hK.out _ _ (ai.out _ (b6.alloc b6.size _)) fun aa=>?_
  clear hK K
  try simp only[yP,yQ,yA,yB,yC]
  have a0:=Zuc b6 #[.int .i64 x.day,.int .i64 1,.int .i64 pr] 140;have U:=I.out _ (b6.alloc b6.size (.cells #[.int .i64 x.day,.int .i64 1,.int .i64 pr] 140));have J:=F.out _ (b6.alloc b6.size (.cells #[.int .i64 x.day,.int .i64 1,.int .i64 pr] 140));have bZ:=(I.out _ b6).lt
  have an:w5.heap.size≠h:=by omega
  have bl:=U.free 10;have bo:=U.cell (j:=10) rfl;have be:=aM.alloc (.cells #[.int .i64 x.day,.int .i64 1,.int .i64 pr] 140);obtain⟨qn,b8⟩:∃q,q=w5.heap.size:=⟨_,rfl⟩;rw[←b8]at a0 an ⊢;obtain⟨w6,a3⟩:∃V,V=w5.alloc (.cells #[.int .i64 x.day,.int .i64 1,.int .i64 pr] 140):=⟨_,rfl⟩;rw[←a3]at a0 U J bo bl be aa ⊢;have bS:=yh b8;have bU:=yh a3;clear b8 a3;refine yT [18] (by kernel_rfl) (by assumption) ?_
  iterate 1 (refine yS (v:=?_) (gA rfl) (fun _ _ _ h=>h) rfl ?_ ?_;rotate_left;(focus (intro w Z;(try dsimp only at Z);go_simp<;>with_reducible rfl));simp only[yP,yA,yB,yC])
  refine yR 19 (by kernel_rfl) (gA rfl) fun K hK=>?_
  go_simp
  refine hK.out _ _ (⟨⟨(J.other (p:=⟨h,10,none⟩) (fun e=>Q e.symm) _).cell rfl,(J.other (p:=⟨h,10,none⟩) (fun e=>Q e.symm) _).cell rfl,(J.other (p:=⟨h,10,none⟩) (fun e=>Q e.symm) _).cell rfl,(J.other (p:=⟨h,10,none⟩) (fun e=>Q e.symm) _).cell rfl,(J.other (p:=⟨h,10,none⟩) (fun e=>Q e.symm) _).cell rfl,(J.other (p:=⟨h,10,none⟩) (fun e=>Q e.symm) _).cell rfl,(J.other (p:=⟨h,10,none⟩) (fun e=>Q e.symm) _).cell rfl,(J.other (p:=⟨h,10,none⟩) (fun e=>Q e.symm) _).cell rfl,(J.other (p:=⟨h,10,none⟩) (fun e=>Q e.symm) _).cell rfl,(J.other (p:=⟨h,10,none⟩) (fun e=>Q e.symm) _).cell rfl,(J.other (p:=⟨h,10,none⟩) (fun e=>Q e.symm) _).cell rfl,(J.other (p:=⟨h,10,none⟩) (fun e=>Q e.symm) _).cell rfl,(J.other (p:=⟨h,10,none⟩) (fun e=>Q e.symm) _).cell rfl⟩,(U.set _).cell rfl,(U.set _).cell rfl,(U.set _).cell rfl,(U.set _).cell rfl,(U.set _).cell rfl,(U.set _).cell rfl,(U.set _).cell rfl,(U.set _).cell rfl,(U.set _).cell rfl,(U.set _).cell rfl⟩) fun aa=>?_
  clear hK K
  try simp only[yP,yQ,yA,yB,yC]
  have p1:=U.set (j:=10) (.slice (some ⟨qn,0,none⟩) 1 1);have p2:=a0.other (p:=⟨h,10,none⟩) (fun e=>an e.symm) (.slice (some ⟨qn,0,none⟩) 1 1);have p3:=be.setCell (p:=⟨h,10,none⟩) (.inl rfl) (.slice (some ⟨qn,0,none⟩) 1 1);refine wpAnyH_done (by kernel_rfl) ?_ _;clear bl bo
  go_wp2_with fail
  go_meet
  exact⟨rfl,_,by rw[ca.out];exact p1,p2,an,p3⟩
 obtain⟨rfl,q,Y,hQ,an,hK⟩:=hcut;obtain⟨W5,bI⟩:∃V,V=wc:=⟨_,rfl⟩;subst bI;have aR:=HT.out _ hb;have az:yw w W5:=aR.trans (hK.below (B:=w.heap.size) aR.size (fun k hk e=>by omega));have J:Blk W5 z (Qa x ⟨A,n,cap,B,m,ac,D,nd,cd,E,ne,ce,C,nb,cb⟩) 230:=(F.out _ hb).kept hK (fun e=>Q e);have bf:SaiW w0 b0 W5 base x ⟨A,n,cap,B,m,ac,D,nd,cd,E,ne,ce,C,nb,cb⟩:=aG.out.bel az;have bh:base≤W5.heap.size:=Nat.le_trans ay az.size
 have bj:Sl Qw 3 W5 All (some ⟨q,0,none⟩) 1 1 fb.fol:=by
  rw[br.out];have hd:=bq.out;have hp:=bz.out;exact VGb hQ (.of (by omega) (by omega)) (.of (by decide) (by decide)) (.of (by omega) (by omega))
 have a7:=yh (show ∀j,(Value.slice C nb cb).ownBlock=some j→j < w.heap.size∧j≠z from fun j hj=>by
  obtain⟨_,_,_,_,_,xs,a6⟩:=aG.out;exact⟨(a6.lt j hj).2,fun e=>a6.neTy hZ (by decide) (by rw[←e];exact hj)⟩)
 have a8:=yh (show ∀X,yw W5 X→((fun w'=>yI w' h 0 fb.id∧yI w' h 1 fb.kind∧yI w' h 2 fb.state∧yI w' h 3 fb.gst∧w'.cell? ⟨h,4,none⟩=some (.bool fb.lev)∧yI w' h 5 fb.cab∧yI w' h 6 fb.cat∧yI w' h 7 fb.frm∧yI w' h 8 fb.upto∧yI w' h 9 fb.til∧yJ w' h 10 (some ⟨q,0,none⟩) 1 1)) X from fun w' hX=>⟨(Y.bel hX).cell rfl,(Y.bel hX).cell rfl,(Y.bel hX).cell rfl,(Y.bel hX).cell rfl,(Y.bel hX).cell rfl,(Y.bel hX).cell rfl,(Y.bel hX).cell rfl,(Y.bel hX).cell rfl,(Y.bel hX).cell rfl,(Y.bel hX).cell rfl,(Y.bel hX).cell rfl⟩);have a9:=yh (show ∀X,Blk X h (Qz fb (.slice (some ⟨q,0,none⟩) 1 1)) 63→((fun w'=>yI w' h 0 fb.id∧yI w' h 1 fb.kind∧yI w' h 2 fb.state∧yI w' h 3 fb.gst∧w'.cell? ⟨h,4,none⟩=some (.bool fb.lev)∧yI w' h 5 fb.cab∧yI w' h 6 fb.cat∧yI w' h 7 fb.frm∧yI w' h 8 fb.upto∧yI w' h 9 fb.til∧yJ w' h 10 (some ⟨q,0,none⟩) 1 1)) X from fun w' hX=>⟨hX.cell rfl,hX.cell rfl,hX.cell rfl,hX.cell rfl,hX.cell rfl,hX.cell rfl,hX.cell rfl,hX.cell rfl,hX.cell rfl,hX.cell rfl,hX.cell rfl⟩);have ah:yw W5 W5.drew:=(Below.refl _ _).drew;have HW:=yh (ba.out q W5.drew (bf.bel ah) bh (bj.bel ah));have bb:=yh (J.bel ah);have bt:=yh (Y.bel ah);have bp:=yh az;clear az;clear Y hQ an hK aR J bf bj hb
 go_upto_region 12 with(fail)
 go_cut [0] (fun p wx=>p=.pointer (some ⟨z,0,none⟩)∧∃p',Blk wx z (Qa (QN x fb) p') 230∧SaiW w0 b0 wx base (QN x fb) p'∧Below base w wx)
 case first=>
  refine wp_region_held_drew (S:=((fun w'=>yI w' h 0 fb.id∧yI w' h 1 fb.kind∧yI w' h 2 fb.state∧yI w' h 3 fb.gst∧w'.cell? ⟨h,4,none⟩=some (.bool fb.lev)∧yI w' h 5 fb.cab∧yI w' h 6 fb.cat∧yI w' h 7 fb.frm∧yI w' h 8 fb.upto∧yI w' h 9 fb.til∧yJ w' h 10 (some ⟨q,0,none⟩) 1 1))) (by kernel_rfl) (a8.out _ ah) (fun aa=>?_);refine yT [0,1,2,3,5] (by kernel_rfl) (by assumption) ?_
  iterate 5 (refine yS (v:=?_) (gA rfl) (fun _ _ _ h=>h) rfl ?_ ?_;rotate_left;(focus (intro w Z;(try dsimp only at Z);go_simp<;>with_reducible rfl));simp only[yP,yA,yB,yC])
  refine yR 4 (by kernel_rfl) (gA rfl) fun K hK=>?_
  (refine wp_load_row 32 (.tmp 79) rfl z rfl 230 _ (0,0) _ bb.out Tryz.underlying32 rfl (by kernel_rfl) ?_)
  refine hK.out _ _ (a8.out _ ah) fun aa=>?_
  clear hK K
  try simp only[yP,yQ,yA,yB,yC]
  refine yR 6 (by kernel_rfl) (gA rfl) fun K hK=>?_
  go_simp
  (go_at_call 142;refine HW.out.mono ?_;rintro e w6 ⟨p',rfl,bg,aP,aL⟩;have aK:=bt.out.kept aL (fun e=>by have:=(a7.out _ e).1;omega);have av:=bb.out.kept aL (fun e=>(a7.out _ e).2 rfl))
  go_wp2_with fail
  refine hK.out _ _ (a9.out _ aK) fun aa=>?_
  clear hK K
  try simp only[yP,yQ,yA,yB,yC]
  refine yT [7,8] (by kernel_rfl) (by assumption) ?_
  iterate 2 (refine yS (v:=?_) (gA rfl) (fun _ _ _ h=>h) rfl ?_ ?_;rotate_left;(focus (intro w Z;(try dsimp only at Z);go_simp<;>with_reducible rfl));simp only[yP,yA,yB,yC])
  have bK:h≠z:=fun e=>Q e.symm
  refine yR 9 (by kernel_rfl) (gA rfl) fun K hK=>?_
  (refine wp_store_row 32 (.tmp 84) (.tmp 82) rfl z (Qa (QN x fb) p') rfl rfl 230 _ av (by kernel_rfl) rfl (by simp[Value.oneCell']) ?_)
  refine hK.out _ _ (a9.out _ (aK.rowOther bK _)) fun aa=>?_
  clear hK K
  try simp only[yP,yQ,yA,yB,yC]
  have aN:Kept (fun k=>k=z) w6 (w6.setRow z (Qa (QN x fb) p')):=(Kept.refl (fun k=>k=z) w6).setRow (.inl rfl) _;have aw:=av.row (Qa (QN x fb) p');have aj:=bg.keepZ av (by decide) (by decide) bO aN
  have bY:base≤z:=by obtain⟨a1,a2,_⟩:=aG.out;omega
  have ax:Below base w (w6.setRow z (Qa (QN x fb) p')):=((bp.out.mono ay).drew.trans aP).trans (aN.below (B:=base) (Nat.le_trans bh aP.size) (fun k hk e=>by omega));refine wpAnyH_done (by kernel_rfl) ?_ _;clear aK av bg aL aP aN
  go_wp2_with fail
  go_meet
  exact⟨rfl,p',aw,aj,ax⟩
 obtain⟨rfl,p',aw,aj,ax⟩:=hcut;have HC:=yh (aI.out p' _ aj.sai (by rw[bw.out];exact fun e=>by have h:=bv.out;rw[e]at h;simp at h));have bc:=yh aw;have bx:=yh aj;clear aj;have a4:=yh ax;clear ax;clear aw
 go_wp2_with (refine wpList_load_row rfl 32 (.tmp 87) rfl z rfl 230 _ (0,0) _ bc.out Tryz.underlying32 rfl (by kernel_rfl) ?_)
 refine HC.out.mono ?_;rintro e w8 ⟨rfl,aQ⟩
 go_wp2_with fail
 go_ret
 exact⟨by rw[bA.out];rfl,fun _=>⟨p',bc.out.bel aQ,bx.out.bel aQ⟩,a4.out.trans (aQ.mono (Nat.le_trans ay a4.out.size))⟩
def Qr:Sai:=⟨⟨0,0,[],[]⟩,⟨[],0,0,[],0⟩,0,0,[],false⟩
abbrev Qv:SaiV:=⟨none,0,0,none,0,0,none,0,0,none,0,0,none,0,0⟩
def okS (e:Int) (x:Sai):Sai:=if e=0 then x else Qr
theorem UJ (x:Sai):okS 0 x=x:=rfl
theorem Qca {e:Int}(h:¬e=0)(x:Sai):okS e x=Qr:=if_neg h
theorem Vr:InI 0:=.of (by decide) (by decide)
theorem Vx (w:World)(base:Nat)(h:base≤w.heap.size):SaiO w base Qr Qv:=
 ⟨w,base,Nat.le_refl _,h,Nat.le_refl _,fun _ _ _=>rfl,⟨⟨[],Own.nil _ _ _ _ _⟩,⟨[],Own.nil _ _ _ _ _⟩,⟨[],Own.nil _ _ _ _ _⟩,⟨[],Own.nil _ _ _ _ _⟩,Vr,Vr,Vr⟩,[],Own.nil _ _ _ _ _⟩
theorem Blk.ret2 {E:Func}{k u:Tmp}{ty t:TypeId}(O:E.results=#[.cell k ty,.tmp u]){D:Array Value}{w:World}{g:Nat}{A:Array Value}{d:TypeDesc}(Q:Blk w g A t)(V:D.getD k undef=.pointer (some ⟨g,0,none⟩)){e:Value}(J:D.getD u undef=e)
  (W:Tryz.prog.underlying ty=some d) (I:(match d with | .struct _ | .array _ _=>true | _=>false)=true) (U:(Tryz.prog.info? ty).map (·.size)=some A.size):(results E D).run Tryz.prog w=.ok (.tuple #[.agg A,e]) w:=by
 have F:w.heap[g]? = some (.cells A t (0,0)):=Q;rw[results_cell_tmp (p:=k) (u:=u) (ty:=ty) O,V,J]
 cases d<;>first | simp[asAddr,run_loadVar_row w g t ty A (0,0) _ F W rfl U,Sem.run_pure] | simp at I
noncomputable def XVa (x:Sai) (b:Bkg) (kind:Int):Int:=if b.kind≠kind∨b.state=3 then 7 else if 0 < b.fol.length∨kind=2∧b.cab≠-1 then 1 else if ofE x.ship b≠0 then ofE x.ship b else XPa x b
noncomputable def Us (x:Sai) (b:Bkg) (kind:Int):Int:=if Qp x≠0 then Qp x else XVa x b kind
def U5 (x:Sai) (b:Bkg):Sai:=QN x (U6 x b)
def Vz (w':World) (base:Nat) (E:Int) (X:Sai) (e:Ending):Prop:=∃y p',e=.returned (.tuple #[.agg (Qa y p'),.int .i64 E])∧y=okS E X∧SaiO w' base y p'
theorem Qab (x:Sai)(p:SaiV)(b:Bkg)(A3:Option Addr)(O c3:Nat)(ac:Int)(w:World)(hS:SaiR w x p)(hf:Sl Qw 3 w All A3 O c3 b.fol)(hI:BkIn b) :
  Calls Tryz.prog 94 #[.agg (Qa x p),.agg (Qz b (.slice A3 O c3)),.int .i64 ac] w fun e w'=>Vz w' w.heap.size (Us x b ac) (U5 x b) e∧yw w w':=by
 have ao:=yh (fun X hX=>Q8 x p X hX);have aN:=yh (fun X h ho=>ZU x p X h ho);have ai:=yh (fun w0 b0 p base z X h1 W h3 h4 ho hk=>YGb w0 b0 x p b A3 O c3 base z X h1 W h3 h4 ho hI hk);have ah:=yh (fun X hc hb ho hf=>XE x.ship p.A p.n p.cap p.B p.m p.cap2 b A3 O c3 X hc hb ho hf);obtain⟨r,hr⟩:∃r,r=Qp x:=⟨_,rfl⟩;obtain⟨R,hR⟩:∃r,r=Us x b ac:=⟨_,rfl⟩;obtain⟨oe,am⟩:∃r,r=ofE x.ship b:=⟨_,rfl⟩;obtain⟨pe,au⟩:∃r,r=XPa x b:=⟨_,rfl⟩;obtain⟨Y,hY⟩:∃r,r=U5 x b:=⟨_,rfl⟩;have aG:=hf.len;have HR:=yh (show R=if r≠0 then r else if b.kind≠ac∨b.state=3 then 7 else if 0 < O∨ac=2∧b.cab≠-1 then 1 else if oe≠0 then oe else pe by rw[hR,hr,am,au,←aG];rfl);rw[←hr]at ao;rw[←am]at ah;rw[←au]at ai;rw[←hR,←hY];have aR:=yh (show QN x (U6 x b)=Y from hY.symm);rw[aR.out]at ai;have aO:=yh hr;have aL:=yh am;have HS:=yh hS;have HF:=yh hf;clear hr hR am au hY aG;obtain⟨A,n,cap,B,m,az,D,nd,cd,E,ne,ce,C,nb,cb⟩:=p;obtain⟨id,ab,an,aV,lev,aa,aS,aU,upto,a5,aT⟩:=b;simp only at ah HR;clear hS hf hI
 go_enter Tryz.func94,Tryz.ntmps94
 go_upto_region 0 with(fail)
 go_cut [3,4,6,7] (fun p p2 Z p4 wx=>∃g h z,p=.pointer (some ⟨g,0,none⟩)∧p2=.pointer (some ⟨h,0,none⟩)∧Z=.pointer (some ⟨z,0,none⟩)∧p4=.int .i64 0∧w.heap.size≤g∧w.heap.size≤h∧w.heap.size≤z∧Blk wx g (Qa x ⟨A,n,cap,B,m,az,D,nd,cd,E,ne,ce,C,nb,cb⟩) 32∧Blk wx h (Qz ⟨id,ab,an,aV,lev,aa,aS,aU,upto,a5,aT⟩ (.slice A3 O c3)) 63∧Blk wx z #[.int .i64 0,.int .i64 0,.slice none 0 0,.slice none 0 0,.slice none 0 0,.int .i64 0,.int .i64 0,.slice none 0 0,.int .i64 0,.int .i64 0,.int .i64 0,.slice none 0 0,.bool false] 32∧yw w wx)
 case first=>as_aux_lemma=>
  go_wp2_with fail
  go_meet
  exact⟨_,_,_,rfl,rfl,rfl,rfl,Nat.le_refl _,by omega,by omega,Yd _ _ _ _,Ye _ _ _ _,Yf _ _ _ _,Q8a _ _ _ _⟩
 obtain⟨g,h,z,rfl,rfl,rfl,rfl,hg,hh,hz,hG,hH,hZ,ak⟩:=hcut;obtain⟨J,aZ⟩:∃V,V=wc:=⟨_,rfl⟩;subst aZ;have HT:=yh (fun X (hX:yw J X)=>ak.trans (hX.mono ak.size));have F:=yh (fun X (hX:yw J X)=>hG.bel hX);have I:=yh (fun X (hX:yw J X)=>hH.bel hX);have HZ:=yh (fun X (hX:yw J X)=>hZ.bel hX);have aj:=yh (fun X (hX:yw J X)=>HS.out.bel (HT.out X hX));have aK:=yh (fun X (hX:yw J X)=>HF.out.bel (HT.out X hX))
 have ad:=yh (show ∀(E':Int) X,¬E'=0→yw J X→Vz (X.setRow z (Qa Qr Qv)) w.heap.size E' Y (.returned (.tuple #[.agg (Qa Qr Qv),.int .i64 E']))∧yw w (X.setRow z (Qa Qr Qv))from fun E' X h0 hX=>by
  have al:yw w (X.setRow z (Qa Qr Qv)):=((HT.out X hX).trans (((Kept.refl (fun k=>k=z) X).setRow (.inl rfl) _).below (B:=w.heap.size) (HT.out X hX).size (fun k hk e=>by omega)));exact⟨⟨Qr,Qv,rfl,(Qca h0 _).symm,Vx _ _ al.size⟩,al⟩)
 have hb:yw J J:=Below.refl _ _;have a7:=ak.size;clear hG hH hZ ak;have Q:=yh (ao.out _ (aj.out _ hb))
 go_wp2_with (first | (refine wpList_load_row rfl 32 (.tmp 3) rfl g rfl 32 _ (0,0) _ (F.out _ hb) Tryz.underlying32 rfl (by kernel_rfl) ?_) | (refine wpList_load_row rfl 63 (.tmp 4) rfl h rfl 63 _ (0,0) _ (I.out _ hb) Tryz.underlying63 rfl (by kernel_rfl) ?_) | (refine wpList_store_row rfl 32 (.tmp 6) (.tmp 46) rfl z (Qa Qr Qv) rfl rfl 32 _ (HZ.out _ hb) (by kernel_rfl) rfl (by simp[Value.oneCell']) ?_) | (refine wpList_store_row rfl 32 (.tmp 6) (.tmp 57) rfl z (Qa Qr Qv) rfl rfl 32 _ (HZ.out _ hb) (by kernel_rfl) rfl (by simp[Value.oneCell']) ?_))
 refine Q.out.mono ?_;rintro e w1 ⟨rfl,ag⟩;replace hb:=hb.trans (ag.mono hb.size);clear ag Q ao
 by_cases q0:r=0
 rotate_left
 ·obtain rfl:R=r:=by rw[HR.out,if_pos q0]
  have a9:(R != 0)=true:=by simpa using q0
  have Q0:=yh q0;clear q0
  go_wp2_with (first | (refine wpList_load_row rfl 32 (.tmp 3) rfl g rfl 32 _ (0,0) _ (F.out _ hb) Tryz.underlying32 rfl (by kernel_rfl) ?_) | (refine wpList_load_row rfl 63 (.tmp 4) rfl h rfl 63 _ (0,0) _ (I.out _ hb) Tryz.underlying63 rfl (by kernel_rfl) ?_) | (refine wpList_store_row rfl 32 (.tmp 6) (.tmp 46) rfl z (Qa Qr Qv) rfl rfl 32 _ (HZ.out _ hb) (by kernel_rfl) rfl (by simp[Value.oneCell']) ?_) | (refine wpList_store_row rfl 32 (.tmp 6) (.tmp 57) rfl z (Qa Qr Qv) rfl rfl 32 _ (HZ.out _ hb) (by kernel_rfl) rfl (by simp[Value.oneCell']) ?_))
  refine bodyPost_ret (v:=.tuple #[.agg (Qa Qr Qv),.int .i64 R]) (((HZ.out _ hb).row _).ret2 (k:=6) (u:=7) (by kernel_rfl) rfl rfl Tryz.underlying32 (by kernel_rfl) (by kernel_rfl)) rfl ?_;exact ad.out _ _ Q0.out hb
 have ap:=yh (Ze (aO.out.symm.trans q0));have aq:=yh (HR.out.trans (if_neg (by rw[q0];simp)));subst q0;have h1:yI w1 h 1 ab:=(I.out _ hb).cell rfl;have W:yI w1 h 2 an:=(I.out _ hb).cell rfl;have h5:yI w1 h 5 aa:=(I.out _ hb).cell rfl;have aW:yJ w1 h 10 A3 O c3:=(I.out _ hb).cell rfl
 by_cases q1:ab=ac
 rotate_left
 ·obtain rfl:R=7:=by rw[aq.out,if_pos (.inl q1)]
  have ba:(ab != ac)=true:=by simpa using q1
  clear q1
  go_wp2_with (first | (refine wpList_load_row rfl 32 (.tmp 3) rfl g rfl 32 _ (0,0) _ (F.out _ hb) Tryz.underlying32 rfl (by kernel_rfl) ?_) | (refine wpList_load_row rfl 63 (.tmp 4) rfl h rfl 63 _ (0,0) _ (I.out _ hb) Tryz.underlying63 rfl (by kernel_rfl) ?_) | (refine wpList_store_row rfl 32 (.tmp 6) (.tmp 46) rfl z (Qa Qr Qv) rfl rfl 32 _ (HZ.out _ hb) (by kernel_rfl) rfl (by simp[Value.oneCell']) ?_) | (refine wpList_store_row rfl 32 (.tmp 6) (.tmp 57) rfl z (Qa Qr Qv) rfl rfl 32 _ (HZ.out _ hb) (by kernel_rfl) rfl (by simp[Value.oneCell']) ?_))
  refine bodyPost_ret (v:=.tuple #[.agg (Qa Qr Qv),.int .i64 7]) (((HZ.out _ hb).row _).ret2 (k:=6) (u:=7) (by kernel_rfl) rfl rfl Tryz.underlying32 (by kernel_rfl) (by kernel_rfl)) rfl ?_;exact ad.out _ _ (by decide) hb
 by_cases q2:an=3
 ·obtain rfl:R=7:=by rw[aq.out,if_pos (.inr q2)]
  subst q1 q2
  go_wp2_with (first | (refine wpList_load_row rfl 32 (.tmp 3) rfl g rfl 32 _ (0,0) _ (F.out _ hb) Tryz.underlying32 rfl (by kernel_rfl) ?_) | (refine wpList_load_row rfl 63 (.tmp 4) rfl h rfl 63 _ (0,0) _ (I.out _ hb) Tryz.underlying63 rfl (by kernel_rfl) ?_) | (refine wpList_store_row rfl 32 (.tmp 6) (.tmp 46) rfl z (Qa Qr Qv) rfl rfl 32 _ (HZ.out _ hb) (by kernel_rfl) rfl (by simp[Value.oneCell']) ?_) | (refine wpList_store_row rfl 32 (.tmp 6) (.tmp 57) rfl z (Qa Qr Qv) rfl rfl 32 _ (HZ.out _ hb) (by kernel_rfl) rfl (by simp[Value.oneCell']) ?_))
  refine bodyPost_ret (v:=.tuple #[.agg (Qa Qr Qv),.int .i64 7]) (((HZ.out _ hb).row _).ret2 (k:=6) (u:=7) (by kernel_rfl) rfl rfl Tryz.underlying32 (by kernel_rfl) (by kernel_rfl)) rfl ?_;exact ad.out _ _ (by decide) hb
 have aw:=yh (aq.out.trans (if_neg (by simp[q1,q2])))
 have bb:(an == 3)=false:=by simpa using q2
 subst q1;clear q2;obtain⟨tv,aI⟩:∃tv,tv=(decide (0 < O) || (decide (ab=2) && decide (aa≠-1))):=⟨_,rfl⟩;have af:=yh aI;clear aI
 go_upto_region 6 with(fail)
 go_cut [30] (fun p wx=>p=.bool tv∧wx=w1)
 case first=>as_aux_lemma=>
  by_cases q3:0 < O
  ·obtain rfl:tv=true:=by rw[af.out,decide_eq_true q3];rfl
   have a4:decide (0 < O)=true:=decide_eq_true q3;clear q3
   go_wp2_with fail
   go_meet
   exact⟨rfl,rfl⟩
  have a4:decide (0 < O)=false:=decide_eq_false q3
  by_cases q4:ab=2
  ·obtain rfl:tv=decide (aa≠-1):=by rw[af.out,decide_eq_false q3,decide_eq_true q4];simp
   clear q3;subst q4
   by_cases q5:aa=-1
   ·subst q5
    go_wp2_with fail
    go_meet
    exact⟨by simp,rfl⟩
   ·have bd:(aa != -1)=true:=by simpa using q5
    have U:decide (aa≠-1)=true:=decide_eq_true q5;have Q6:=yh U;clear q5 U
    go_wp2_with fail
    go_meet
    exact⟨by rw[Q6.out],rfl⟩
  ·obtain rfl:tv=false:=by rw[af.out,decide_eq_false q3,decide_eq_false q4];rfl
   have bc:(ab == 2)=false:=by simpa using q4
   clear q3 q4
   go_wp2_with fail
   go_meet
   exact⟨rfl,rfl⟩
 obtain⟨rfl,rfl⟩:=hcut
 cases tv
 rotate_left
 ·obtain rfl:R=1:=by
   rw[aw.out];have h:=af.out;refine if_pos ?_
   by_cases q3:0 < O
   ·exact .inl q3
   ·rw[decide_eq_false q3]at h
    simp only[Bool.false_or]at h;have h4:=Bool.and_eq_true_iff.1 h.symm;exact .inr ⟨of_decide_eq_true h4.1,of_decide_eq_true h4.2⟩
  go_wp2_with (first | (refine wpList_load_row rfl 32 (.tmp 3) rfl g rfl 32 _ (0,0) _ (F.out _ hb) Tryz.underlying32 rfl (by kernel_rfl) ?_) | (refine wpList_load_row rfl 63 (.tmp 4) rfl h rfl 63 _ (0,0) _ (I.out _ hb) Tryz.underlying63 rfl (by kernel_rfl) ?_) | (refine wpList_store_row rfl 32 (.tmp 6) (.tmp 46) rfl z (Qa Qr Qv) rfl rfl 32 _ (HZ.out _ hb) (by kernel_rfl) rfl (by simp[Value.oneCell']) ?_) | (refine wpList_store_row rfl 32 (.tmp 6) (.tmp 57) rfl z (Qa Qr Qv) rfl rfl 32 _ (HZ.out _ hb) (by kernel_rfl) rfl (by simp[Value.oneCell']) ?_))
  refine bodyPost_ret (v:=.tuple #[.agg (Qa Qr Qv),.int .i64 1]) (((HZ.out _ hb).row _).ret2 (k:=6) (u:=7) (by kernel_rfl) rfl rfl Tryz.underlying32 (by kernel_rfl) (by kernel_rfl)) rfl ?_;exact ad.out _ _ (by decide) hb
 have ax:=yh (show R=if oe≠0 then oe else pe from aw.out.trans (if_neg (by
  have h:=af.out;intro W
  rcases W with W | ⟨W,h3⟩
  ·rw[decide_eq_true W]at h;cases h
  ·rw[decide_eq_true W,decide_eq_true h3]at h;simp at h)))
 have g0:yI wc g 0 x.ship.legs:=(F.out _ hb).cell rfl;have g1:yI wc g 1 x.ship.souls:=(F.out _ hb).cell rfl;have g2:yJ wc g 2 A n cap:=(F.out _ hb).cell rfl;have g3:yJ wc g 3 B m az:=(F.out _ hb).cell rfl;have Q:=yh (ah.out _ (aj.out _ hb).cats (aj.out _ hb).cabs ap.out.bs.ship (aK.out _ hb));clear h1 W h5 aW
 go_wp2_with (first | (refine wpList_load_row rfl 32 (.tmp 3) rfl g rfl 32 _ (0,0) _ (F.out _ hb) Tryz.underlying32 rfl (by kernel_rfl) ?_) | (refine wpList_load_row rfl 63 (.tmp 4) rfl h rfl 63 _ (0,0) _ (I.out _ hb) Tryz.underlying63 rfl (by kernel_rfl) ?_) | (refine wpList_store_row rfl 32 (.tmp 6) (.tmp 46) rfl z (Qa Qr Qv) rfl rfl 32 _ (HZ.out _ hb) (by kernel_rfl) rfl (by simp[Value.oneCell']) ?_) | (refine wpList_store_row rfl 32 (.tmp 6) (.tmp 57) rfl z (Qa Qr Qv) rfl rfl 32 _ (HZ.out _ hb) (by kernel_rfl) rfl (by simp[Value.oneCell']) ?_))
 refine Q.out.mono ?_;rintro e w2 ⟨rfl,ag⟩;replace hb:=hb.trans (ag.mono hb.size);clear ag Q ah g0 g1 g2 g3
 by_cases U:oe=0
 rotate_left
 ·obtain rfl:R=oe:=by rw[ax.out,if_pos U]
  have be:(R != 0)=true:=by simpa using U
  have Q6:=yh U;clear U
  go_wp2_with (first | (refine wpList_load_row rfl 32 (.tmp 3) rfl g rfl 32 _ (0,0) _ (F.out _ hb) Tryz.underlying32 rfl (by kernel_rfl) ?_) | (refine wpList_load_row rfl 63 (.tmp 4) rfl h rfl 63 _ (0,0) _ (I.out _ hb) Tryz.underlying63 rfl (by kernel_rfl) ?_) | (refine wpList_store_row rfl 32 (.tmp 6) (.tmp 46) rfl z (Qa Qr Qv) rfl rfl 32 _ (HZ.out _ hb) (by kernel_rfl) rfl (by simp[Value.oneCell']) ?_) | (refine wpList_store_row rfl 32 (.tmp 6) (.tmp 57) rfl z (Qa Qr Qv) rfl rfl 32 _ (HZ.out _ hb) (by kernel_rfl) rfl (by simp[Value.oneCell']) ?_))
  refine bodyPost_ret (v:=.tuple #[.agg (Qa Qr Qv),.int .i64 R]) (((HZ.out _ hb).row _).ret2 (k:=6) (u:=7) (by kernel_rfl) rfl rfl Tryz.underlying32 (by kernel_rfl) (by kernel_rfl)) rfl ?_;exact ad.out _ _ Q6.out hb
 have aJ:=yh (UAa (aL.out.symm.trans U))
 obtain rfl:R=pe:=by rw[ax.out,if_neg (by rw[U];simp)]
 subst U;have Q:=yh (aN.out _ (aj.out _ hb) ap.out);have a0:=hb.size
 go_upto_region 10 with(fail)
 go_cut [9] (fun q wx=>∃(y:Nat) (Z:SaiV) (w0:World) (b0:Nat),q=.pointer (some ⟨y,0,none⟩)∧Blk wx y (Qa x Z) 230∧SaiW w0 b0 wx w2.heap.size x Z∧w0.heap.size≤y∧yw w2 wx)
 case first=>
  go_wp2_with (first | (refine wpList_load_row rfl 32 (.tmp 3) rfl g rfl 32 _ (0,0) _ (F.out _ hb) Tryz.underlying32 rfl (by kernel_rfl) ?_) | (refine wpList_load_row rfl 63 (.tmp 4) rfl h rfl 63 _ (0,0) _ (I.out _ hb) Tryz.underlying63 rfl (by kernel_rfl) ?_) | (refine wpList_store_row rfl 32 (.tmp 6) (.tmp 46) rfl z (Qa Qr Qv) rfl rfl 32 _ (HZ.out _ hb) (by kernel_rfl) rfl (by simp[Value.oneCell']) ?_) | (refine wpList_store_row rfl 32 (.tmp 6) (.tmp 57) rfl z (Qa Qr Qv) rfl rfl 32 _ (HZ.out _ hb) (by kernel_rfl) rfl (by simp[Value.oneCell']) ?_))
  refine Q.out.mono ?_;rintro e w3 ⟨Z,rfl,aX,ae⟩;obtain⟨w0,b0,aB⟩:=aX;have ay:=yh aB;clear aB;have av:=yh ae;clear ae
  go_wp2_with fail
  go_meet
  exact⟨_,Z,w0,b0,rfl,Za _ _,ay.out.bel (Qf _ _),by obtain⟨_,_,a3,_⟩:=ay.out;exact a3,av.out.trans ((Qf _ _).mono av.out.size)⟩
 obtain⟨y,Z,w0,b0,rfl,aF,aC,a2,ae⟩:=hcut;obtain⟨w4,bg⟩:∃V,V=wc:=⟨_,rfl⟩;subst bg;have a1:=ae.size;replace hb:=hb.trans (ae.mono hb.size);have Q:=yh (ai.out w0 b0 Z _ y w4 aC a1 aF a2 ap.out aJ.out);clear aC aF ae ai
 go_wp2_with (first | (refine wpList_load_row rfl 32 (.tmp 3) rfl g rfl 32 _ (0,0) _ (F.out _ hb) Tryz.underlying32 rfl (by kernel_rfl) ?_) | (refine wpList_load_row rfl 63 (.tmp 4) rfl h rfl 63 _ (0,0) _ (I.out _ hb) Tryz.underlying63 rfl (by kernel_rfl) ?_) | (refine wpList_store_row rfl 32 (.tmp 6) (.tmp 46) rfl z (Qa Qr Qv) rfl rfl 32 _ (HZ.out _ hb) (by kernel_rfl) rfl (by simp[Value.oneCell']) ?_) | (refine wpList_store_row rfl 32 (.tmp 6) (.tmp 57) rfl z (Qa Qr Qv) rfl rfl 32 _ (HZ.out _ hb) (by kernel_rfl) rfl (by simp[Value.oneCell']) ?_))
 refine Q.out.mono ?_;rintro e w5 ⟨rfl,aH,ar⟩;have a6:Below w2.heap.size w4 w5:=ar;replace hb:=hb.trans (ar.mono (show J.heap.size≤w2.heap.size from a0));clear ar Q;have aM:=yh aH;clear aH
 by_cases q7:R=0
 rotate_left
 ·have bf:(R != 0)=true:=by simpa using q7
  have Q7:=yh q7;clear q7
  go_wp2_with (first | (refine wpList_load_row rfl 32 (.tmp 3) rfl g rfl 32 _ (0,0) _ (F.out _ hb) Tryz.underlying32 rfl (by kernel_rfl) ?_) | (refine wpList_load_row rfl 63 (.tmp 4) rfl h rfl 63 _ (0,0) _ (I.out _ hb) Tryz.underlying63 rfl (by kernel_rfl) ?_) | (refine wpList_store_row rfl 32 (.tmp 6) (.tmp 46) rfl z (Qa Qr Qv) rfl rfl 32 _ (HZ.out _ hb) (by kernel_rfl) rfl (by simp[Value.oneCell']) ?_) | (refine wpList_store_row rfl 32 (.tmp 6) (.tmp 57) rfl z (Qa Qr Qv) rfl rfl 32 _ (HZ.out _ hb) (by kernel_rfl) rfl (by simp[Value.oneCell']) ?_))
  refine bodyPost_ret (v:=.tuple #[.agg (Qa Qr Qv),.int .i64 R]) (((HZ.out _ hb).row _).ret2 (k:=6) (u:=7) (by kernel_rfl) rfl rfl Tryz.underlying32 (by kernel_rfl) (by kernel_rfl)) rfl ?_;exact ad.out _ _ Q7.out hb
 obtain⟨p9,aE,aD⟩:=aM.out q7;subst q7;have aQ:=yh aE;have aP:=yh aD;clear aD;clear aE
 go_wp2_with (first | (refine wpList_load_row rfl 32 (.tmp 61) rfl y rfl 230 _ (0,0) _ aQ.out Tryz.underlying32 rfl (by kernel_rfl) ?_) | (refine wpList_store_row rfl 32 (.tmp 6) (.tmp 62) rfl z (Qa Y p9) rfl rfl 32 _ (HZ.out _ hb) (by kernel_rfl) rfl (by simp[Value.oneCell']) ?_))
 refine bodyPost_ret (v:=.tuple #[.agg (Qa Y p9),.int .i64 0]) (((HZ.out _ hb).row _).ret2 (k:=6) (u:=7) (by kernel_rfl) rfl rfl Tryz.underlying32 (by kernel_rfl) (by kernel_rfl)) rfl ?_;have aA:Kept (fun k=>k=z) w5 (w5.setRow z (Qa Y p9)):=(Kept.refl (fun k=>k=z) w5).setRow (.inl rfl) _;have a8:z < J.heap.size:=(HZ.out J (Below.refl _ _)).lt;have al:=((HT.out _ hb).trans (aA.below (B:=w.heap.size) (HT.out _ hb).size (fun k hk e=>by omega)));have aY:SaiO w5 w2.heap.size Y p9:=⟨w0,b0,aP.out⟩;exact⟨⟨Y,p9,rfl,(UJ _).symm,(aY.kept aA (fun k hk e=>by omega)).mono (by omega)⟩,al⟩
theorem UCb (x:Sai)(p:SaiV)(b:Bkg)(A3:Option Addr)(F c3:Nat)(w:World)(hS:SaiR w x p)(hf:Sl Qw 3 w All A3 F c3 b.fol)(hI:BkIn b) :
  Calls Tryz.prog 31 #[.agg (Qa x p),.agg (Qz b (.slice A3 F c3))] w fun e w'=>Vz w' w.heap.size (Us x b 1) (U5 x b) e∧yw w w':=by
 have aa:=yh (fun X h1 h2=>Qab x p b A3 F c3 1 X h1 h2 hI);obtain⟨A,n,cap,B,m,ac,D,nd,cd,E,ne,ce,C,nb,cb⟩:=p;obtain⟨id,aj,ak,ag,lev,ab,ad,af,upto,al,ae⟩:=b
 go_enter Tryz.func31,Tryz.ntmps31
 go_upto_region 0 with(fail)
 go_cut [2,3,4,5] (fun p p2 p3 p4 J=>∃g h z,p=.pointer (some ⟨g,0,none⟩)∧p2=.pointer (some ⟨h,0,none⟩)∧p3=.pointer (some ⟨z,0,none⟩)∧p4=.int .i64 0∧w.heap.size≤z∧Blk J g (Qa x ⟨A,n,cap,B,m,ac,D,nd,cd,E,ne,ce,C,nb,cb⟩) 32∧Blk J h (Qz ⟨id,aj,ak,ag,lev,ab,ad,af,upto,al,ae⟩ (.slice A3 F c3)) 63∧Blk J z #[.int .i64 0,.int .i64 0,.slice none 0 0,.slice none 0 0,.slice none 0 0,.int .i64 0,.int .i64 0,.slice none 0 0,.int .i64 0,.int .i64 0,.int .i64 0,.slice none 0 0,.bool false] 32∧yw w J)
 case first=>as_aux_lemma=>
  go_wp2_with fail
  go_meet
  exact⟨_,_,_,rfl,rfl,rfl,rfl,by omega,Yd _ _ _ _,Ye _ _ _ _,Yf _ _ _ _,Q8a _ _ _ _⟩
 obtain⟨g,h,z,rfl,rfl,rfl,rfl,hz,hG,Y,O,hb⟩:=hcut;have V:=yh (aa.out _ (hS.bel hb) (hf.bel hb))
 go_wp2_with (first | (refine wpList_load_row rfl 32 (.tmp 2) rfl g rfl 32 _ (0,0) _ hG Tryz.underlying32 rfl (by kernel_rfl) ?_) | (refine wpList_load_row rfl 63 (.tmp 3) rfl h rfl 63 _ (0,0) _ Y Tryz.underlying63 rfl (by kernel_rfl) ?_))
 refine V.out.mono ?_;rintro e U ⟨⟨y,I,rfl,hy,hO⟩,Q⟩;have ah:=O.bel Q;have am:=O.lt;have ai:=hb.size;replace hb:=hb.trans (Q.mono hb.size);have W:=yh ah;have HO:=yh hO;clear hO;have HY:=yh hy;clear hy;clear hG Y O Q V
 go_wp2_with (refine wpList_store_row rfl 32 (.tmp 4) (.tmp 9) rfl z (Qa y I) rfl rfl 32 _ W.out (by kernel_rfl) rfl (by simp[Value.oneCell']) ?_)
 refine bodyPost_ret (v:=.tuple #[.agg (Qa y I),.int .i64 _]) ((W.out.row _).ret2 (k:=4) (u:=5) (by kernel_rfl) rfl rfl Tryz.underlying32 (by kernel_rfl) (by kernel_rfl)) rfl ?_;have Z:Kept (fun k=>k=z) U (U.setRow z (Qa y I)):=(Kept.refl (fun k=>k=z) U).setRow (.inl rfl) _;exact⟨⟨y,I,rfl,HY.out,(HO.out.kept Z (fun k hk e=>by omega)).mono ai⟩,hb.trans (Z.below (B:=w.heap.size) hb.size (fun k hk e=>by omega))⟩
theorem X8a (x:Sai)(p:SaiV)(b:Bkg)(A3:Option Addr)(F c3:Nat)(w:World)(hS:SaiR w x p)(hf:Sl Qw 3 w All A3 F c3 b.fol)(hI:BkIn b) :
  Calls Tryz.prog 33 #[.agg (Qa x p),.agg (Qz b (.slice A3 F c3))] w fun e w'=>Vz w' w.heap.size (Us x b 2) (U5 x b) e∧yw w w':=by
 have aa:=yh (fun X h1 h2=>Qab x p b A3 F c3 2 X h1 h2 hI);obtain⟨A,n,cap,B,m,ac,D,nd,cd,E,ne,ce,C,nb,cb⟩:=p;obtain⟨id,aj,ak,ag,lev,ab,ad,af,upto,al,ae⟩:=b
 go_enter Tryz.func33,Tryz.ntmps33
 go_upto_region 0 with(fail)
 go_cut [2,3,4,5] (fun p p2 p3 p4 J=>∃g h z,p=.pointer (some ⟨g,0,none⟩)∧p2=.pointer (some ⟨h,0,none⟩)∧p3=.pointer (some ⟨z,0,none⟩)∧p4=.int .i64 0∧w.heap.size≤z∧Blk J g (Qa x ⟨A,n,cap,B,m,ac,D,nd,cd,E,ne,ce,C,nb,cb⟩) 32∧Blk J h (Qz ⟨id,aj,ak,ag,lev,ab,ad,af,upto,al,ae⟩ (.slice A3 F c3)) 63∧Blk J z #[.int .i64 0,.int .i64 0,.slice none 0 0,.slice none 0 0,.slice none 0 0,.int .i64 0,.int .i64 0,.slice none 0 0,.int .i64 0,.int .i64 0,.int .i64 0,.slice none 0 0,.bool false] 32∧yw w J)
 case first=>as_aux_lemma=>
  go_wp2_with fail
  go_meet
  exact⟨_,_,_,rfl,rfl,rfl,rfl,by omega,Yd _ _ _ _,Ye _ _ _ _,Yf _ _ _ _,Q8a _ _ _ _⟩
 obtain⟨g,h,z,rfl,rfl,rfl,rfl,hz,hG,Y,O,hb⟩:=hcut;have V:=yh (aa.out _ (hS.bel hb) (hf.bel hb))
 go_wp2_with (first | (refine wpList_load_row rfl 32 (.tmp 2) rfl g rfl 32 _ (0,0) _ hG Tryz.underlying32 rfl (by kernel_rfl) ?_) | (refine wpList_load_row rfl 63 (.tmp 3) rfl h rfl 63 _ (0,0) _ Y Tryz.underlying63 rfl (by kernel_rfl) ?_))
 refine V.out.mono ?_;rintro e U ⟨⟨y,I,rfl,hy,hO⟩,Q⟩;have ah:=O.bel Q;have am:=O.lt;have ai:=hb.size;replace hb:=hb.trans (Q.mono hb.size);have W:=yh ah;have HO:=yh hO;clear hO;have HY:=yh hy;clear hy;clear hG Y O Q V
 go_wp2_with (refine wpList_store_row rfl 32 (.tmp 4) (.tmp 9) rfl z (Qa y I) rfl rfl 32 _ W.out (by kernel_rfl) rfl (by simp[Value.oneCell']) ?_)
 refine bodyPost_ret (v:=.tuple #[.agg (Qa y I),.int .i64 _]) ((W.out.row _).ret2 (k:=4) (u:=5) (by kernel_rfl) rfl rfl Tryz.underlying32 (by kernel_rfl) (by kernel_rfl)) rfl ?_;have Z:Kept (fun k=>k=z) U (U.setRow z (Qa y I)):=(Kept.refl (fun k=>k=z) U).setRow (.inl rfl) _;exact⟨⟨y,I,rfl,HY.out,(HO.out.kept Z (fun k hk e=>by omega)).mono ai⟩,hb.trans (Z.below (B:=w.heap.size) hb.size (fun k hk e=>by omega))⟩
end Go.Proofs.YtjdcokpmgionjaaGreat
