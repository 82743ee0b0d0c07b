/-
  Laws and contracts.
-/
import Derived.Test.YtjdcokpmgionjaaGreatBun1
import Derived.Test.YtjdcokpmgionjaaGreatBun2
import Derived.LaidEqlPtr
import Derived.Laws.ResultCell
import Derived.Deep.RegionWith
set_option linter.unusedSimpArgs false
set_option linter.unusedVariables false
set_option maxRecDepth 100000
set_option maxHeartbeats 20000000
namespace Go.Proofs.YtjdcokpmgionjaaGreat
open Proofs.Tryz Go.RowKit Go.Shelf
def AskAt (w:World) (b:Nat) (x:Ask):Prop:=Blk w b (Zf x) 53
theorem AskAt.bel {w w':World}{b:Nat}{x:Ask}(h:AskAt w b x)(A:yw w w'):AskAt w' b x:=Blk.bel h A
def QXa (x:Ask) (i:Nat) (v:Int):Ask:=
 { x with id:=if i=2 then v else x.id,guests:=if i=3 then v else x.guests,cabin:=if i=5 then v else x.cabin,category:=if i=6 then v else x.category,frm:=if i=7 then v else x.frm,upto:=if i=8 then v else x.upto,til:=if i=9 then v else x.til,amount:=if i=10 then v else x.amount }
def Ysa (lev:Int) (i:Nat) (v:Int):Int:=if i=4 then v else lev
def Vha (x:Ask) (lev:Int) (i:Nat):Int:=if i=4 then lev else fld x i
theorem Xb {k:Int}{p:Part}(h:p∈QP k):p=pId∨p=Xm∨p=Xz∨p=YD∨p=XQ∨p=V2a∨p=pTo∨p=UAa∨p=QOa:=by
 have A:∀p∈QP k,p∈[pId,Xm,Xz,YD,XQ,V2a,pTo,UAa,QOa]:=by
  unfold QP
  repeat' split
  all_goals decide
 simpa using A p h
theorem XAa {w:World}{A D:Nat}{x:Ask}{lev k:Int}{t:TypeId}(E:AskAt w A x)(F:Blk w D #[.int .i64 lev] t){p:Part}(I:p∈QP k) :
  w.cell? (QX A D p.ix)=some (.int .i64 (Vha x lev p.ix))∧w.frozen? (QX A D p.ix)=false:=by
 rcases Xb I with rfl | rfl | rfl | rfl | rfl | rfl | rfl | rfl | rfl
 all_goals first
  | exact⟨E.cell rfl,E.free _⟩
  | exact⟨F.cell rfl,F.free _⟩
theorem Zwb {w:World}{A D:Nat}{x:Ask}{lev k:Int}{t:TypeId}(E:AskAt w A x)(F:Blk w D #[.int .i64 lev] t)(I:A≠D){p:Part}(J:p∈QP k)(v:Int) :
  AskAt (w.setCell (QX A D p.ix) (.int .i64 v)) A (QXa x p.ix v)∧Blk (w.setCell (QX A D p.ix) (.int .i64 v)) D #[.int .i64 (Ysa lev p.ix v)] t:=by
 rcases Xb J with rfl | rfl | rfl | rfl | rfl | rfl | rfl | rfl | rfl
 all_goals first
  | exact⟨E.set _,F.other (p:=⟨A,_,none⟩) I _⟩
  | exact⟨E.other (p:=⟨D,0,none⟩) (fun e=>I e.symm) _,F.set _⟩
def YB (l:List UInt8):Int:=l.foldl (fun n c=>256*n+(c.toNat:Int)) 0
theorem Uxa (l:List UInt8)(c:UInt8):YB (l++[c])=256*YB l+(c.toNat:Int):=by simp[YB]
theorem YAa (l:List UInt8):0≤YB l∧YB l < 256 ^ l.length:=by
 induction h:l.length generalizing l with
 | zero=>obtain rfl:l=[]:=List.length_eq_zero_iff.1 h;exact⟨by decide,by decide⟩
 | succ n ih=>
  rcases List.eq_nil_or_concat l with rfl | ⟨A,c,rfl⟩
  ·simp at h
  ·rw[List.concat_eq_append]at h ⊢;rw[Uxa];have:=ih A (by simp at h;omega)
   have D:(c.toNat:Int) < 256:=by have:=c.toNat_lt;omega
   rw[Int.pow_succ];omega
theorem Xbb {l:List UInt8}(h:l.length≤3):YB l < 16777216:=by
 have A:=(YAa l).2
 have D:l.length=0∨l.length=1∨l.length=2∨l.length=3:=by omega
 rcases D with e | e | e | e<;>rw[e]at A<;>simp at A<;>omega
theorem QJc {N:Int}{c:UInt8}(h:0≤N)(A:N < 16777216):bits .or .i64 (N*256) (c.toNat:Int)=256*N+(c.toNat:Int):=by
 obtain⟨a,rfl⟩:=Int.eq_ofNat_of_zero_le h;have F:=c.toNat_lt;have D:=(bits_nat .i64 40 (by decide) (fun n E A=>by rw[IntKind.wrap_i64];omega) (a*256) c.toNat (by omega) (by omega)).2;rw[show((a:Int)*256)=((a*256:Nat):Int)by simp,D,Nat.mul_comm,←Nat.two_pow_add_eq_or_of_lt (i:=8) (by omega) a];simp
def Xd (r:List UInt8×Bool) (m:Nat):Int×(List UInt8×Bool):=if r.1.length < m then (0,([],true))else (YB (r.1.take m),(r.1.drop m,r.2))
def RdAt (w:World) (b:Nat) (r:List UInt8×Bool):Prop:=Blk w b #[.string ⟨r.1.toArray⟩,.bool r.2] 197
theorem Qea (b:Nat)(r:List UInt8×Bool)(m:Nat)(w:World)(hm:m≤4)(h:RdAt w b r) :
  Calls prog 139 #[.pointer (some ⟨b,0,none⟩),.int .i64 m] w fun e w'=>e=.returned (.int .i64 (Xd r m).1)∧RdAt w' b (Xd r m).2∧Kept (fun k=>k=b) w w':=by
 obtain⟨L,J⟩:=r;have g0:=Blk.cell h (j:=0) rfl;have g1:=Blk.cell h (j:=1) rfl;have f0:=Blk.free h 0;have f1:=Blk.free h 1;by_cases D:L.length < m
 ·have A:=yh (show Xd (L,J) m=(0,([],true))from M3 D);go_enter func139,ntmps139;go_wp2_with fail;go_ret;refine⟨by rw[A.out];rfl,?_,?_⟩
  ·rw[A.out];exact(Blk.set h _).set _
  ·exact((Kept.refl (fun k=>k=b) w).setCell (p:=⟨b,0,none⟩) (.inl rfl) _).setCell (p:=⟨b,1,none⟩) (.inl rfl) _
 ·have A:=yh (show Xd (L,J) m=(YB (L.take m),(L.drop m,J))from M2 D);have kc:=fun(W:World) (s:ByteArray)=>Lib.run_convert_string_bytes (P:=prog) W 9 250 5 s underlying9 underlying250 underlying5
  have ab:(L.take m).length=m:=by rw[J8];omega
  have ag:m≤L.length:=by omega
  go_enter func139,ntmps139;go_wp2_with fail
  go_loopg [5,29] m (fun gk nv i wr=>∃k:Nat,k≤m∧m - k≤gk∧i=.int .i64 k∧nv=.int .i64 (YB (L.take k))∧wr=Lib.bytesWorld w 5 ((⟨L.toArray⟩:ByteArray).extract 0 m))
  case atStart=>exact⟨0,by omega,by omega,rfl,rfl,rfl⟩
  case round=>
   obtain⟨k,hk,ae,rfl,rfl,rfl⟩:=hrel;by_cases hl:k < m
   ·have I:L[k]? = some (L[k]'(by omega)):=J1 _;obtain⟨c,hc⟩:=yE (L[k]'(by omega));rw[←hc]at I
    have O:(⟨L.toArray⟩:ByteArray).extract 0 m=⟨(L.take m).toArray⟩:=by rw[ByteArray.extract_mk];rfl
    have gc:=Lib.bytesWorld_cell w 5 ((⟨L.toArray⟩:ByteArray).extract 0 m) k (by rw[O];show k < (L.take m).toArray.size;rw[List.size_toArray,ab];exact hl)
    rw[show(((⟨L.toArray⟩:ByteArray).extract 0 m).data.toList.getD k 0)=c by
     rw[O];simp[List.getD,hl,I]]at gc
    have F:=Uxa (L.take k) c;rw[←Qo I]at F;have E:=YAa (L.take k)
    have ad:(c.toNat:Int) < 256:=by have:=c.toNat_lt;omega
    have V:YB (L.take k) < 16777216:=Xbb (by rw[J8];omega);obtain⟨N,U⟩:=yE (YB (L.take k));rw[←U]at F E V ⊢;have Y:=yh F;have HN:=yh U;have ac:=E.1;have af:=QJc (c:=c) E.1 V;clear F U E hc I O;go_wp2_with fail;go_roundg (m - (k+1))
    case measure=>omega
    case rel=>exact⟨k+1,by omega,by omega,by go_num,by rw[Y.out],rfl⟩
   ·obtain rfl:k=m:=by omega
    have D:b < w.heap.size:=Blk.lt h;have k0:=(Lib.bytesWorld_old w 5 ((⟨L.toArray⟩:ByteArray).extract 0 k) ⟨b,0,none⟩ D).trans g0;have Q:Blk (Lib.bytesWorld w 5 ((⟨L.toArray⟩:ByteArray).extract 0 k)) b #[.string ⟨L.toArray⟩,.bool J] 197:=(Lib.bytesWorld_at_old _ _ _ _ D).trans h;have f2:=Q.free 0;have X:=yh Q;clear Q;go_wp2_with fail;go_ret
    have Z:(⟨L.toArray⟩:ByteArray).extract k L.length=⟨(L.drop k).toArray⟩:=by rw[ByteArray.extract_mk,M1 (by simp)]
    refine⟨by rw[A.out];rfl,?_,?_⟩
    ·rw[A.out,Z];exact X.set (j:=0) _
    ·have aa:Kept (fun k=>k=b) w (Lib.bytesWorld w 5 ((⟨L.toArray⟩:ByteArray).extract 0 k)):=
      ⟨rfl,rfl,rfl,by rw[Lib.bytesWorld_size];omega,fun j hj _=>Lib.bytesWorld_at_old _ _ _ _ hj⟩
     exact aa.setCell (p:=⟨b,0,none⟩) (.inl rfl) _
def zf (l:List Part) (x:Ask):Ask:=l.foldl (fun y p=>QXa y p.ix 0) x
theorem Y9b (l:List Part)(x:Ask)(p:Part):zf (l++[p]) x=QXa (zf l x) p.ix 0:=by simp[zf]
def Vf (x:Ask):Ask:={ zf (QP x.kind) x with level:=if (QP x.kind).any (fun p=>p.ix == 4)then false else x.level }
def Yc (x:Ask):Bool:=decide (Vf x={ (default:Ask)with number:=x.number,kind:=x.kind })
theorem ZMb (l:List Part)(x:Ask):(zf l x).level=x.level∧(zf l x).number=x.number∧(zf l x).kind=x.kind:=by
 have A:∀(l:List Part) (x y:Ask),y.level=x.level∧y.number=x.number∧y.kind=x.kind→(l.foldl (fun y p=>QXa y p.ix 0) y).level=x.level∧(l.foldl (fun y p=>QXa y p.ix 0) y).number=x.number∧(l.foldl (fun y p=>QXa y p.ix 0) y).kind=x.kind:=by
  intro l
  induction l with
  | nil=>intro x y h;exact h
  | cons p l ih=>intro x y h;rw[List.foldl_cons];exact ih x _ h
 exact A l x x ⟨rfl,rfl,rfl⟩
theorem Z8a (O Q:Nat)(A:Option Addr)(n cap:Nat)(l:List Part)(g:Nat)(lb:Array Value)(p:Part→Bool)(w:World)(h:Sl (UCa O Q) 3 w All A n cap l)
  (eg:∀W w,(callFunc g W).run prog w=.ok (.enter g W) w)
  (X:∀(x:Part) (w1:World),x∈l→yw w w1→Calls prog g (#[.agg #[.int .i64 x.bytes,.int .i64 x.most,.pointer (some (QX O Q x.ix))]]++lb) w1 fun e w'=>e=.returned (.bool (p x))∧yw w1 w') :
  Calls prog 237 #[.slice A n cap,.func (.func g) #[] lb] w fun e w'=>e=.returned (.int .i64 (UV p l))∧yw w w':=by
 have Hp:=yh X;clear X;have aa:=h.bd;go_enter func237,ntmps237;go_wp2_with fail
 go_loopg [8] n (fun gk i wr=>∃k:Nat,k≤n∧n - k≤gk∧i=.int .i64 k∧Aside ((l.take k).any p=false)∧yw w wr)
 case atStart=>exact⟨0,M0 _,by omega,rfl,rfl,J4 _ _⟩
 case round=>
  obtain⟨k,hk,ab,rfl,I,D⟩:=hrel;by_cases hlt:k < n
  ·obtain⟨b,ac,x,c0,c1,c2,rfl,U,F,g0,g1,g2⟩:=(h.below (V9 O Q) (by omega) D).at3 hlt;obtain⟨F,hw⟩:=F;simp only[List.cons.injEq,and_true]at F;obtain⟨rfl,rfl,rfl⟩:=F;have V:=yh U;have Y:=yh (J6 U);clear U;have E:=fun w1 (ae:yw w w1)=>Hp x w1 Y ae
   cases hq:p x with
   | true=>
    rw[hq]at E;have J:=yh hq;clear hq;go_wp2_with (go_at_fn g;refine yM (E _ D) fun w1 ae=>?_;replace ae:=D.trans (ae.mono D.size);clear E);go_ret;exact⟨ZH (Vi I V J).symm,ae⟩
   | false=>
    rw[hq]at E;have J:=yh hq;clear hq;go_wp2_with (go_at_fn g;refine yM (E _ D) fun w1 ae=>?_;replace ae:=D.trans (ae.mono D.size);clear E);go_roundg (n - (k+1))
    case measure=>omega
    case rel=>exact⟨k+1,by omega,by omega,by go_num,by show _=_;rw[Qw V.out,I,J.out];rfl,ae⟩
  ·have:k=n:=by omega
   subst this;have Z:=yh (M1 (Nat.le_of_eq h.len));go_wp2_with fail;go_ret;exact⟨ZH (by rw[ZE (by rw[←Z.out];exact I)]),D⟩
theorem Qra (W D:Nat)(A:Option Addr)(n cap:Nat)(l:List Part)(g:Nat)(lb:Array Value)(p:Part→Bool)(w:World)(h:Sl (UCa W D) 3 w All A n cap l)
  (O:∀E w,(callFunc g E).run prog w=.ok (.enter g E) w)
  (F:∀(x:Part) (w1:World),x∈l→yw w w1→Calls prog g (#[.agg #[.int .i64 x.bytes,.int .i64 x.most,.pointer (some (QX W D x.ix))]]++lb) w1 fun e w'=>e=.returned (.bool (p x))∧yw w1 w') :
  Calls prog 204 #[.slice A n cap,.func (.func g) #[] lb] w fun e w'=>e=.returned (.bool (l.any p))∧yw w w':=by
 have I:=Z8a W D A n cap l g lb p w h O F;clear F;go_enter func204,ntmps204;go_wp2_with fail;refine yM I fun w1 Q=>?_;have J:=yh (Vo (p:=p) (l:=l));have U:=X3 (p:=p) (l:=l) (by have:=h.bd;have:=h.len;omega);go_wp2_with fail;go_ret;exact⟨Un J,Q⟩
theorem AskAt.all {w:World}{b:Nat}{x:Ask}(h:AskAt w b x) :
  yI w b 0 x.number∧yI w b 1 x.kind∧yI w b 2 x.id∧yI w b 3 x.guests∧w.cell? ⟨b,4,none⟩=some (.bool x.level)∧
  yI w b 5 x.cabin∧yI w b 6 x.category∧yI w b 7 x.frm∧yI w b 8 x.upto∧yI w b 9 x.til∧
  yI w b 10 x.amount:=
 ⟨h.cell rfl,h.cell rfl,h.cell rfl,h.cell rfl,h.cell rfl,h.cell rfl,h.cell rfl,h.cell rfl,h.cell rfl,h.cell rfl,h.cell rfl⟩
theorem VOb:∃j,Tryz.prog.info? 3=some j∧j.size≠0:=by
 have E:(Tryz.prog.info? 3).isSome=true:=by kernel_rfl
 have D:((Tryz.prog.info? 3).map fun j=>decide (j.size≠0))=some true:=by kernel_rfl
 obtain⟨j,A⟩:=Option.isSome_iff_exists.1 E;rw[A]at D;exact⟨j,A,by simpa using D⟩
theorem Z2b (D A:Nat)(p:Part)(y:Ask)(w:World)(W:D≠A)(U:AskAt w D y)(V:Blk w A #[.int .i64 0] 3) :
  Calls prog 205 #[.agg #[.int .i64 p.bytes,.int .i64 p.most,.pointer (some (QX D A p.ix))],.pointer (some ⟨A,0,none⟩)] w fun e w'=>e=.returned (.bool (p.ix == 4))∧yw w w':=by
 obtain⟨j,J,Q⟩:=VOb;have E:=U.bel (Qi w (.cells #[.int .i64 p.bytes,.int .i64 p.most,.pointer (some (QX D A p.ix))] 194));have F:=V.bel (Qi w (.cells #[.int .i64 p.bytes,.int .i64 p.most,.pointer (some (QX D A p.ix))] 194));by_cases h:p.ix=4
 ·have I:QX D A p.ix=⟨A,0,none⟩:=by unfold QX;rw[M3 h]
  have O:=yh (show(p.ix == 4)=true by simpa using h);rw[I]at E F ⊢;have X:=run_eql_ptr_same (P:=prog) (w.alloc (.cells #[.int .i64 p.bytes,.int .i64 p.most,.pointer (some ⟨A,0,none⟩)] 194)) ⟨A,0,none⟩ underlying192 J;clear h I E F J Q;go_enter func205,ntmps205;go_wp2_with fail;go_ret;exact⟨Un (by rw[O.out]),Qi _ _⟩
 ·have I:QX D A p.ix=⟨D,p.ix,none⟩:=by unfold QX;rw[M2 h]
  have O:=yh (show(p.ix == 4)=false by simpa using h);rw[I]at E F ⊢;have X:=run_eql_ptr_other (P:=prog) (w.alloc (.cells #[.int .i64 p.bytes,.int .i64 p.most,.pointer (some ⟨D,p.ix,none⟩)] 194)) (a:=⟨D,p.ix,none⟩) (b:=⟨A,0,none⟩) underlying192 J Q (fun e=>W (congrArg Addr.block e)) E F;clear h I E F J Q;go_enter func205,ntmps205;go_wp2_with fail;go_ret;exact⟨Un (by rw[O.out]),Qi _ _⟩
def Veb (a b:Ask):Bool:=decide (a=b)
theorem Qbb (a b:Ask)(W:World):(binOp .eql 53 (.agg (Zf a)) (.agg (Zf b))).run prog W=.ok (.bool (Veb a b)) W:=by
 unfold Veb;obtain⟨A,D,F,I,J,O,Q,U,V,a9,E⟩:=a;obtain⟨X,Y,b2,b3,b4,b5,b6,b7,b8,b9,Z⟩:=b;unfold Zf;simp only[Ask.mk.injEq];go_simp
 repeat' split
 all_goals simp_all
theorem Vib (x:Ask)(w:World):Calls prog 140 #[.agg (Zf x)] w fun e w'=>e=.returned (.bool (Yc x))∧yw w w':=by
 unfold Zf;go_enter func140,ntmps140;go_upto_region 1 with(fail);go_cut [1,3,4] (fun a b c wx=>∃O b1 D,yp a O∧yp b b1∧yp c D∧AskAt wx O x∧AskAt wx b1 x∧Blk wx D #[.int .i64 0] 3∧yw w wx∧w.heap.size≤b1∧w.heap.size≤D∧O≠b1∧O≠D∧b1≠D)
 case first=>as_aux_lemma=>
  go_wp2_with fail;go_meet;exact⟨_,_,_,rfl,rfl,rfl,U6 _ _ _ _,U7 _ _ _ _,U8 _ _ _ _,Yg _ _ _ _,by omega,by omega,by omega,by omega,by omega⟩
 obtain⟨O,b1,D,rfl,rfl,rfl,X,E,J,F,aj,an,ay,az,ah⟩:=hcut;go_wp2_with fail;refine(YN b1 D x.kind _ (E.cell rfl)).mono ?_;rintro e w2 ⟨A,n,cap,rfl,Y,aC⟩;have aw:=Blk.lt E;have ax:=J.lt;replace X:=X.bel aC;replace E:=E.bel aC;replace J:=J.bel aC;replace F:=F.trans (aC.mono F.size);have am:=Blk.lt X;have au:=Blk.lt E;have av:=J.lt;clear aC;obtain⟨I,ad⟩:=yE (QP x.kind);rw[←ad]at Y;have ae:=yh ad;clear ad;have aq:=Y.bd;go_wp2_with fail
 go_loopg [16] n (fun gk i wr=>∃k:Nat,k≤n∧n - k≤gk∧i=.int .i64 k∧AskAt wr b1 (zf (I.take k) x)∧Blk wr D #[.int .i64 0] 3∧Kept (fun j=>j=b1∨j=D) w2 wr)
 case atStart=>exact⟨0,M0 _,by omega,rfl,E,J,Kept.refl _ _⟩
 case round=>
  obtain⟨k,hk,ar,rfl,E,J,hK⟩:=hrel;have ab:=Y.kept hK (fun b _ hT=>by have hT:wc.heap.size≤b:=hT;rintro(rfl | rfl)<;>omega);by_cases hlt:k < n
  ·obtain⟨b,aA,p,c0,c1,c2,rfl,hx,⟨hc,_⟩,g0,g1,g2⟩:=ab.at3 hlt;simp only[List.cons.injEq,and_true]at hc;obtain⟨rfl,rfl,rfl⟩:=hc
   have Z:p∈QP x.kind:=by rw[←ae.out];exact J6 hx
   have aa:=Qi wr (.cells #[.int .i64 p.bytes,.int .i64 p.most,.pointer (some (QX b1 D p.ix))] 194);have hP:=XAa (E.bel aa) (J.bel aa) Z;have ao:=hP.1;have ap:=hP.2;have hN:=Zwb (E.bel aa) (J.bel aa) ah Z 0;have HN:=yh hN;have HZ:=yh (show zf (I.take (k+1)) x=QXa (zf (I.take k) x) p.ix 0 by rw[Qo hx,Y9b]);have HM:=yh Z;clear hx hN hP Z ab;go_wp2_with fail;go_roundg (n - (k+1))
   case measure=>omega
   case rel=>
    refine⟨k+1,by omega,by omega,by go_num,by rw[HZ.out];exact HN.1,?_,?_⟩
    ·have:=HN.2
     rwa [show Ysa 0 p.ix 0=0 by unfold Ysa;split<;>rfl]at this
    ·refine(hK.alloc _).setCell (.inl ?_) _;unfold QX;split
     ·exact .inr rfl
     ·exact .inl rfl
  ·obtain rfl:k=n:=by omega
   have HT:=yh (show I.take k=I from M1 (Nat.le_of_eq Y.len));have al:=hK.below (B:=w.heap.size) F.size (by rintro j hj (rfl | rfl)<;>omega);replace F:=F.trans al;have ag:=Qra b1 D A k cap I 205 #[.pointer (some ⟨D,0,none⟩)] (fun p=>p.ix == 4) wr (ab.all (V9 _ _) (by omega)) (enters_of func205 (by kernel_rfl) rfl) (fun p w1 _ af=>Z2b b1 D p _ w1 ah (E.bel af) (J.bel af));have HC:=yh ag;clear ag;go_wp2_with fail;refine yM HC fun w3 ac=>?_
   have ak:AskAt w3 O x:=(hK.block O am (by rintro(h | h)<;>omega)).trans X |> fun h=>AskAt.bel h ac
   have V:=E.bel ac;rw[HT.out]at V;obtain⟨a0,a1,_⟩:=ak.all
   have U:Vf x={ zf I x with level:=if I.any (fun p=>p.ix == 4)then false else x.level }:=by rw[ae.out];rfl
   replace F:=F.trans (ac.mono F.size)
   cases q:I.any (fun p=>p.ix == 4)with
   | true=>
    rw[M3 q]at U;obtain⟨y,Q⟩:=yE (Vf x);have HB:=yh (show Yc x=Veb y ⟨x.number,x.kind,0,0,false,0,0,0,0,0,0⟩by rw[Q];rfl);have f4:=V.free 4;have g4:=V.cell (j:=4) rfl
    have hC:AskAt (w3.setCell ⟨b1,4,none⟩ (.bool false)) b1 y:=by rw[Q,U];exact V.set _
    obtain⟨c0,c1,c2,c3,c4,c5,c6,c7,c8,c9,ai⟩:=hC.all;have kq:=fun W=>Qbb y ⟨x.number,x.kind,0,0,false,0,0,0,0,0,0⟩ W;dsimp only[Zf]at kq;clear U Q q;go_wp2_with fail;go_ret;exact⟨Un HB.symm,F.setCell (p:=⟨b1,4,none⟩) aj _⟩
   | false=>
    rw[M2 (by simp[q])]at U;obtain⟨y,Q⟩:=yE (Vf x);have HB:=yh (show Yc x=Veb y ⟨x.number,x.kind,0,0,false,0,0,0,0,0,0⟩by rw[Q];rfl)
    have hC:AskAt w3 b1 y:=by
     rw[Q,U,←(ZMb I x).1];exact V
    obtain⟨c0,c1,c2,c3,c4,c5,c6,c7,c8,c9,ai⟩:=hC.all;have kq:=fun W=>Qbb y ⟨x.number,x.kind,0,0,false,0,0,0,0,0,0⟩ W;dsimp only[Zf]at kq;clear U Q q;go_wp2_with fail;go_ret;exact⟨Un HB.symm,F⟩
def Xa (x:Ask) (p:Part):Bool:=Qd (Vha x 0 p.ix) 0 p.most
def Zi (x:Ask):Int:=
 if Qd x.kind 1 8=false then 7 else if Qd x.number 1 65535=false then 3 else if Yc x=false then 1 else if (QP x.kind).all (Xa x)then 0 else 3
theorem Ve {α:Type}{p:α→Bool}{l:List α}{k:Nat}{x:α}(A:l[k]? = some x):(l.take (k+1)).all p=((l.take k).all p && p x):=by rw[Qo A];simp
theorem Xma {α:Type}{p:α→Bool}{l:List α}{k:Nat}{x:α}(D:l[k]? = some x)(A:p x=false):l.all p=false:=by
 rw[List.all_eq_false];exact⟨x,J6 D,by simp[A]⟩
theorem Vg (x:Ask)(w:World):Calls prog 61 #[.agg (Zf x)] w fun e w'=>e=.returned (.int .i64 (Zi x))∧yw w w':=by
 obtain⟨r,hr⟩:=yE (Zi x);rw[←hr];have HR:=yh hr;clear hr;unfold Zf;go_enter func61,ntmps61;go_upto_region 1 with(fail);go_cut [1,3] (fun a b wx=>∃F I,yp a F∧yp b I∧AskAt wx F x∧Blk wx I #[.int .i64 0] 3∧yw w wx∧w.heap.size≤F∧w.heap.size≤I∧F≠I)
 case first=>as_aux_lemma=>
  go_wp2_with fail;go_meet;exact⟨_,_,rfl,rfl,QB _ _ _,QC _ _ _,Zl _ _ _,by omega,by omega,by omega⟩
 obtain⟨F,I,rfl,rfl,J,Q,hb,aj,ak,an⟩:=hcut;go_wp2_with fail;refine(YN F I x.kind _ (J.cell rfl)).mono ?_;rintro e w2 ⟨A,n,cap,rfl,E,V⟩;have E:=E.all (V9 _ _) (by omega);replace J:=J.bel V;replace Q:=Q.bel V;replace hb:=hb.trans (V.mono hb.size);clear V;obtain⟨O,ab⟩:=yE (QP x.kind);rw[←ab]at E;have ae:=yh ab;clear ab;have al:=E.bd;obtain⟨c0,c1,c2,c3,c4,c5,c6,c7,c8,c9,ah⟩:=J.all
 cases q_HK:Qd x.kind 1 8<;>have HK:=yh q_HK<;>clear q_HK
 ·obtain rfl:r=7:=by rw[HR.out];unfold Zi;rw[M3 HK.out]
  go_wp2_with fail;go_ret;exact⟨rfl,hb⟩
 have aq:=yh (show r=if Qd x.number 1 65535=false then 3 else if Yc x=false then 1 else if O.all (Xa x)then 0 else 3 by
  rw[HR.out];unfold Zi;rw[M2 (by rw[HK.out];simp),ae.out])
 by_cases hn1:x.number < 1
 ·obtain rfl:r=3:=by rw[aq.out,M3 (QK (.inl hn1))]
  go_wp2_with fail;go_ret;exact⟨rfl,hb⟩
 by_cases hn2:65535 < x.number
 ·obtain rfl:r=3:=by rw[aq.out,M3 (QK (.inr hn2))]
  go_wp2_with fail;go_ret;exact⟨rfl,hb⟩
 have af:=yh (show r=if Yc x=false then 1 else if O.all (Xa x)then 0 else 3 by
  rw[aq.out,M2 (by rw[Zc (by omega) (by omega)];simp)])
 have aa:=fun W=>Vib x W;dsimp only[Zf]at aa;have ag:=yh aa;clear aa;go_wp2_with fail;refine yM (ag _) fun w3 D=>?_;replace hb:=hb.trans (D.mono hb.size);replace J:=J.bel D;replace Q:=Q.bel D;replace E:=E.bel D;clear D c0 c1 c2 c3 c4 c5 c6 c7 c8 c9 ah hn1 hn2
 cases q_HBB:Yc x<;>have ad:=yh q_HBB<;>clear q_HBB
 ·obtain rfl:r=1:=by rw[af.out,M3 ad.out]
  go_wp2_with fail;go_ret;exact⟨rfl,hb⟩
 have X:=yh (show r=if O.all (Xa x)then 0 else 3 by rw[af.out,M2 (by rw[ad.out];simp)]);go_wp2_with fail
 go_loopg [30] n (fun gk i wr=>∃k:Nat,k≤n∧n - k≤gk∧i=.int .i64 k∧Aside ((O.take k).all (Xa x)=true)∧yw w3 wr)
 case atStart=>exact⟨0,M0 _,by omega,rfl,rfl,J4 _ _⟩
 case round=>
  obtain⟨k,hk,am,rfl,HA,D⟩:=hrel;by_cases hlt:k < n
  ·obtain⟨b,ao,p,d0,d1,d2,rfl,hx,⟨hc,_⟩,g0,g1,g2⟩:=(E.bel D).at3 hlt;simp only[List.cons.injEq,and_true]at hc;obtain⟨rfl,rfl,rfl⟩:=hc
   have ac:p∈QP x.kind:=by rw[←ae.out];exact J6 hx
   have U:=D.alloc D.size (.cells #[.int .i64 p.bytes,.int .i64 p.most,.pointer (some (QX F I p.ix))] 194);have hP:=(XAa (J.bel U) (Q.bel U) ac).1;obtain⟨v,hv⟩:=yE (Vha x 0 p.ix);rw[←hv]at hP;have Z:=yh hx;have Y:=yh (show Xa x p=Qd v 0 p.most by rw[hv];rfl);have HM:=yh ac;clear hx ac hv;by_cases hv0:v < 0
   ·obtain rfl:r=3:=by rw[X.out,M2 (by rw[Xma Z.out (by rw[Y.out];exact QK (.inl hv0))];simp)]
    have hd:decide (v < 0)=true:=J2 hv0;go_wp2_with fail;go_quiet (fail);go_wp2_with fail;go_ret;exact⟨rfl,hb.trans ((below_drewN U _).mono hb.size)⟩
   have hd:decide (v < 0)=false:=J3 hv0;by_cases hv1:p.most < v
   ·obtain rfl:r=3:=by rw[X.out,M2 (by rw[Xma Z.out (by rw[Y.out];exact QK (.inr hv1))];simp)]
    have ai:decide (p.most < v)=true:=J2 hv1;go_wp2_with fail;go_quiet (fail);go_wp2_with fail;go_ret;exact⟨rfl,hb.trans ((below_drewN U _).mono hb.size)⟩
   have ai:decide (p.most < v)=false:=J3 hv1;have HH:=yh (show Xa x p=true by rw[Y.out];exact Zc (by omega) (by omega));go_wp2_with fail;go_quiet (fail);go_wp2_with fail;go_roundg (n - (k+1))
   case measure=>omega
   case rel=>exact⟨k+1,by omega,by omega,by go_num,(show Aside _ from by show _=_;rw[Ve Z.out,HA,HH.out];rfl),below_drewN U _⟩
  ·obtain rfl:k=n:=by omega
   have HT:=yh (show O.take k=O from M1 (Nat.le_of_eq E.len))
   obtain rfl:r=0:=by rw[X.out,M3 (by rw[←HT.out];exact HA)]
   go_wp2_with fail;go_ret;exact⟨rfl,hb.trans (D.mono hb.size)⟩
def Yrb (x:Ask):Int:=if x.level then 1 else 0
theorem VXb (x:Ask){k:Int}{p:Part}(A:p∈QP k):Vha x (Yrb x) p.ix=fld x p.ix:=by
 rcases Xb A with rfl | rfl | rfl | rfl | rfl | rfl | rfl | rfl | rfl<;>rfl
theorem Qha {k:Int}{p:Part}(A:p∈QP k):∃m:Nat,p.bytes=(m:Int)∧1≤m∧m≤4:=by
 rcases Xb A with rfl | rfl | rfl | rfl | rfl | rfl | rfl | rfl | rfl
 all_goals first
  | exact⟨1,rfl,by omega,by omega⟩
  | exact⟨2,rfl,by omega,by omega⟩
  | exact⟨3,rfl,by omega,by omega⟩
  | exact⟨4,rfl,by omega,by omega⟩
def YE (x:Ask) (p:Part):List UInt8:=ZQ (fld x p.ix) p.bytes.toNat
def QFa (x:Ask):List UInt8:=ZQ x.kind 1++ZQ x.number 2
def Udb (x:Ask):List UInt8:=QFa x++(QP x.kind).flatMap (YE x)
theorem ZJb (a b:List UInt8):(⟨a.toArray⟩:ByteArray)++⟨b.toArray⟩=⟨(a++b).toArray⟩:=ByteArray.mk_append_mk a b
theorem VEb (x:Ask)(l:List Part)(h:∀p∈l,p.bytes.toNat≤4):(l.flatMap (YE x)).length≤4*l.length:=by
 induction l with
 | nil=>simp
 | cons p l ih=>
  rw[List.flatMap_cons,J9,List.length_cons];have D:=ih fun q A=>h q (List.mem_cons_of_mem _ A)
  have E:(YE x p).length≤4:=by unfold YE;rw[UB];exact h p (List.mem_cons_self ..)
  omega
theorem Y6a (x:Ask)(w:World):Calls prog 57 #[.agg (Zf x)] w fun e w'=>
  e=.returned (.tuple #[.string ⟨(okL (Zi x) (Udb x)).toArray⟩,.int .i64 (Zi x)])∧yw w w':=by
 obtain⟨r,hr⟩:=yE (Zi x);have ae:=fun W=>Vg x W;rw[←hr]at ae ⊢;dsimp only[Zf]at ae ⊢;have HC:=yh ae;clear ae;clear hr;go_enter func57,ntmps57;go_upto_region 0 with(fail);go_cut [1] (fun a J=>∃I,yp a I∧AskAt J I x∧yw w J∧w.heap.size≤I)
 case first=>as_aux_lemma=>
  go_wp2_with fail;go_meet;exact⟨_,rfl,Zg _ _,Qi _ _,by omega⟩
 obtain⟨I,rfl,D,hb,aA⟩:=hcut;obtain⟨c0,c1,c2,c3,c4,c5,c6,c7,c8,c9,aw⟩:=D.all;go_wp2_with fail;refine yM (HC _) fun w2 E=>?_;replace hb:=hb.trans (E.mono hb.size);replace D:=D.bel E;clear E c0 c1 c2 c3 c4 c5 c6 c7 c8 c9 aw;by_cases h0:¬r=0
 ·have aC:(r != 0)=true:=by simpa using h0
  have H0:=yh h0;clear h0;go_wp2_with fail;go_ret2;exact⟨by rw[YC H0.out];rfl,hb⟩
 have h0:r=0:=by omega
 subst h0;have aq:=hb.alloc hb.size (.cells #[.int .i64 0] 3);have aa:=D.bel (Qi w2 (.cells #[.int .i64 0] 3));obtain⟨_,_,_,_,c4,_⟩:=aa.all;obtain⟨q,hq⟩:=yE x.level;have al:Yrb x=if x.level then 1 else 0:=rfl;rw[←hq]at c4 al;have HL:=yh al;clear al;clear hq;go_upto_if 17 with(fail);go_cut [5] (fun a J=>∃O,yp a O∧AskAt J I x∧Blk J O #[.int .i64 (Yrb x)] 3∧yw w J∧w.heap.size≤O∧I≠O)
 case first=>
  have ar:=Blk.lt D;have au:=hb.size;have hN:=Blk.new w2 #[.int .i64 0] 3;have HB:=yh aa;have HN:=yh hN;clear aa hN;cases q
  ·go_wp2_with fail;go_meet;exact⟨_,rfl,HB,by rw[HL.out];exact HN,aq,au,by omega⟩
  ·go_wp2_with fail;go_meet;exact⟨_,rfl,D.bel (Qi _ _),by rw[show Yrb x=1 by rw[HL.out];rfl];exact Blk.new _ _ _,hb.alloc hb.size _,au,by omega⟩
 clear hb aq D aa c4;obtain⟨O,rfl,D,X,hb,aB,aM⟩:=hcut;obtain⟨k0,k1,_⟩:=D.all;have l1:=UB 1 x.kind;have l2:=UB 2 x.number;have hs:QFa x=ZQ x.kind 1++ZQ x.number 2:=rfl;obtain⟨L1,ap⟩:=yE (ZQ x.kind 1);obtain⟨L2,V⟩:=yE (ZQ x.number 2);have ai:∀W,Calls prog 137 #[.int .i64 x.kind,.int .i64 1] W fun e w'=>e=.returned (.string ⟨(ZQ x.kind 1).toArray⟩)∧yw W w':=fun W=>Zca x.kind 1 W (by omega);have aj:∀W,Calls prog 137 #[.int .i64 x.number,.int .i64 2] W fun e w'=>e=.returned (.string ⟨(ZQ x.number 2).toArray⟩)∧yw W w':=fun W=>Zca x.number 2 W (by omega);rw[←ap]at l1 hs ai;rw[←V]at l2 hs aj;have am:=yh ai;clear ai;have an:=yh aj;clear aj;have HS:=yh hs;clear hs;clear ap V;go_upto_region 7 with(fail);go_cut [6] (fun a J=>a=.string ⟨(QFa x).toArray⟩∧yw wc J)
 case first=>as_aux_lemma=>
  have ac:yw wc wc.drew:=(J4 _ wc).drew
  go_region_with (first
   | (go_at_call_of 137 (Value.int IntKind.i64 x.number);first
     | (refine yM (an wn) fun wm ag=>?_;have ad:=U.trans (ag.mono U.size))
     | (refine yM (an _) fun wn ah=>?_;have U:=ac.trans (ah.mono ac.size);obtain⟨m0,m1,_⟩:=(D.bel U).all))
   | (go_at_call_of 137 (Value.int IntKind.i64 x.kind);first
     | (refine yM (am wn) fun wm ag=>?_;have ad:=U.trans (ag.mono U.size))
     | (refine yM (am _) fun wn ah=>?_;have U:=ac.trans (ah.mono ac.size);obtain⟨m0,m1,_⟩:=(D.bel U).all)))
  all_goals
   go_wp2_with fail;go_meet;exact⟨by rw[HS.out,ZJb],ad⟩
 obtain⟨rfl,E⟩:=hcut;replace hb:=hb.trans (E.mono hb.size);replace D:=D.bel E;replace X:=X.bel E
 have aH:(QFa x).length=3:=by rw[HS.out,J9,l1,l2]
 clear E k0 k1;go_wp2_with fail;refine(YN I O x.kind _ (D.cell rfl)).mono ?_;rintro e w3 ⟨A,n,cap,rfl,Q,E⟩;have Q:=Q.all (V9 _ _) (by omega);replace D:=D.bel E;replace X:=X.bel E;replace hb:=hb.trans (E.mono hb.size);clear E;obtain⟨F,Z⟩:=yE (QP x.kind)
 have he:Udb x=QFa x++F.flatMap (YE x):=by rw[Z];rfl
 have aL:F.length≤7:=by rw[Z];unfold QP;(repeat' split)<;>simp
 rw[←Z]at Q;have ao:=yh Z;clear Z;have HE:=yh he;clear he;have aE:=Q.bd;have aI:=Q.len;go_wp2_with fail
 go_loopg [6,31] n (fun gk s i wr=>∃k:Nat,k≤n∧n - k≤gk∧i=.int .i64 k∧s=.string ⟨(QFa x++(F.take k).flatMap (YE x)).toArray⟩∧yw w3 wr)
 case atStart=>exact⟨0,M0 _,by omega,rfl,by simp,J4 _ _⟩
 case round=>
  obtain⟨k,hk,aF,rfl,rfl,ab⟩:=hrel;by_cases ar:k < n
  ·obtain⟨b,aN,p,d0,d1,d2,rfl,hx,⟨hc,_⟩,g0,g1,g2⟩:=(Q.bel ab).at3 ar;simp only[List.cons.injEq,and_true]at hc;obtain⟨rfl,rfl,rfl⟩:=hc
   have af:p∈QP x.kind:=by rw[←ao.out];exact J6 hx
   have Y:=ab.alloc ab.size (.cells #[.int .i64 p.bytes,.int .i64 p.most,.pointer (some (QX I O p.ix))] 194);have hP:=(XAa (D.bel Y) (X.bel Y) af).1;rw[VXb x af]at hP;obtain⟨m,hm,aK,az⟩:=Qha af;obtain⟨v,hv⟩:=yE (fld x p.ix);rw[←hv]at hP;rw[hm]at g0 Y hP
   have HX:=yh (show QFa x++(F.take (k+1)).flatMap (YE x)=QFa x++(F.take k).flatMap (YE x)++ZQ v m by
    rw[Qo hx,List.flatMap_append,List.append_assoc,hv];simp[YE,hm])
   have ay:((F.take k).flatMap (YE x)).length≤4*k:=by
    have:=VEb x (F.take k) fun q hq=>by
     obtain⟨m',aJ,_,h4⟩:=Qha (k:=x.kind) (by rw[←ao.out];exact List.mem_of_mem_take hq);omega
    have:=List.length_take_le k F;omega
   obtain⟨L,V⟩:=yE (QFa x++(F.take k).flatMap (YE x))
   have aD:L.length≤3+4*k:=by rw[V,J9];omega
   have aG:k≤7:=by omega
   rw[←V]at HX ⊢;have ad:=UB m v;obtain⟨M,hM⟩:=yE (ZQ v m);have ak:=fun W=>Zca v m W az;rw[←hM]at HX ad ak;have av:=yh ak;clear ak;clear hx af hv hm hM V ay;go_wp2_with fail;go_region_with (go_at_call 137;refine yM (av _) fun w4 ax=>?_)
   all_goals go_wp2_with fail
   all_goals go_roundg (n - (k+1))
   all_goals first
    | omega
    | exact⟨k+1,by omega,by omega,by go_num,by rw[HX.out,ZJb],Y.drew.trans (ax.mono Y.size)⟩
  ·obtain rfl:k=n:=by omega
   have HT:=yh (show F.take k=F from M1 (Nat.le_of_eq Q.len));go_wp2_with fail;go_ret2;exact⟨by rw[QQ,HE.out,HT.out];rfl,hb.trans (ab.mono hb.size)⟩
abbrev Dec:=Ask×Int×(List UInt8×Bool)
def ZWa (d:Dec) (p:Part):Dec:=(QXa d.1 p.ix (Xd d.2.2 p.bytes.toNat).1,Ysa d.2.1 p.ix (Xd d.2.2 p.bytes.toNat).1,(Xd d.2.2 p.bytes.toNat).2)
def Xr:Ask:=⟨0,0,0,0,false,0,0,0,0,0,0⟩
def Yca (s:List UInt8):Dec:=(⟨(Xd (Xd (s,false) 1).2 2).1,(Xd (s,false) 1).1,0,0,false,0,0,0,0,0,0⟩,0,(Xd (Xd (s,false) 1).2 2).2)
def Vda (l:List Part) (d:Dec):Dec:=l.foldl ZWa d
theorem Uab {l:List Part}{k:Nat}{p:Part}(d:Dec)(h:l[k]? = some p):Vda (l.take (k+1)) d=ZWa (Vda (l.take k) d) p:=by rw[Qo h];simp[Vda]
def Qlb (s:List UInt8):Dec:=Vda (QP (Yca s).1.kind) (Yca s)
def Uia (d:Dec):Ask:={ d.1 with level:=d.2.1 == 1 }
def Xta (d:Dec) (k:Int):Bool:=Qd k 1 8 == false || d.2.2.2 || decide (d.2.2.1≠[]) || decide (1 < d.2.1)
def Qya (s:List UInt8):Ask×Int:=if Xta (Qlb s) (Yca s).1.kind then (Xr,1)else if Zi (Uia (Qlb s))≠0 then (Xr,Zi (Uia (Qlb s)))else (Uia (Qlb s),0)
theorem RdAt.bel {w w':World}{b:Nat}{r:List UInt8×Bool}(h:RdAt w b r)(A:yw w w'):RdAt w' b r:=Blk.bel h A
theorem AskAt.kept {S:Nat→Prop}{w w':World}{b:Nat}{x:Ask}(h:AskAt w b x)(D:Kept S w w')(A:¬S b):AskAt w' b x:=Blk.kept h D A
theorem Yta {w:World}{b:Nat}{x:Ask}(h:AskAt w b x):(loadVar 53 ⟨b,0,none⟩).run prog w=.ok (.agg (Zf x)) w:=by
 obtain⟨A,D,F,I,J,O,Q,U,V,W,E⟩:=h.all;unfold Zf;go_simp
theorem YQ {w:World}{b:Nat}{x:Ask}{e:Int}{D:Func}{A:Array Value}(I:D.results=#[.cell 2 53,.tmp 3])(h:AskAt w b x)(E:A.getD 2 undef=.pointer (some ⟨b,0,none⟩))(F:A.getD 3 undef=.int .i64 e) :
  (results D A).run prog w=.ok (.tuple #[.agg (Zf x),.int .i64 e]) w:=by
 rw[results_cell_tmp (p:=2) (u:=3) (ty:=53) I,E,F];simp[asAddr,Yta h,Sem.run_pure]
theorem YQb (x y:Ask):((((((((((((Zf x).set! 0 (.int .i64 y.number)).set! 1 (.int .i64 y.kind)).set! 2 (.int .i64 y.id)).set! 3 (.int .i64 y.guests)).set! 4 (.bool y.level)).set! 5 (.int .i64 y.cabin)).set! 6 (.int .i64 y.category)).set! 7 (.int .i64 y.frm)).set! 8 (.int .i64 y.upto)).set! 9 (.int .i64 y.til)).set! 10 (.int .i64 y.amount))=Zf y:=by
 simp[Zf]
theorem Z0b {w:World}{z:Nat}{x:Ask}(y:Ask)(A:AskAt w z x) :
  AskAt (((((((((((w.setCell ⟨z,0,none⟩ (.int .i64 y.number)).setCell ⟨z,1,none⟩ (.int .i64 y.kind)).setCell ⟨z,2,none⟩ (.int .i64 y.id)).setCell ⟨z,3,none⟩ (.int .i64 y.guests)).setCell ⟨z,4,none⟩ (.bool y.level)).setCell ⟨z,5,none⟩ (.int .i64 y.cabin)).setCell
   ⟨z,6,none⟩ (.int .i64 y.category)).setCell ⟨z,7,none⟩ (.int .i64 y.frm)).setCell ⟨z,8,none⟩ (.int .i64 y.upto)).setCell ⟨z,9,none⟩ (.int .i64 y.til)).setCell ⟨z,10,none⟩ (.int .i64 y.amount)) z y:=by
 unfold AskAt at A ⊢;rw[←YQb x y]
 generalize Zf x=cs at A
 have D:=A.set (j:=0) (.int .i64 y.number);have E:=D.set (j:=1) (.int .i64 y.kind);have F:=E.set (j:=2) (.int .i64 y.id);have I:=F.set (j:=3) (.int .i64 y.guests);have J:=I.set (j:=4) (.bool y.level);have O:=J.set (j:=5) (.int .i64 y.cabin);have Q:=O.set (j:=6) (.int .i64 y.category);have U:=Q.set (j:=7) (.int .i64 y.frm);have V:=U.set (j:=8) (.int .i64 y.upto);have W:=V.set (j:=9) (.int .i64 y.til);exact W.set (j:=10) (.int .i64 y.amount)
theorem Y4a (s:List UInt8)(w:World):Calls prog 60 #[.string ⟨s.toArray⟩] w fun e w'=>
  e=.returned (.tuple #[.agg (Zf (Qya s).1),.int .i64 (Qya s).2])∧yw w w':=by
 obtain⟨V,hV⟩:=yE (Qya s);rw[←hV];have HV:=yh hV;clear hV;go_enter func60,ntmps60;go_upto_region 1 with(fail);go_cut [2,4] (fun c a Q=>∃z b,yp c z∧yp a b∧AskAt Q z Xr∧RdAt Q b (s,false)∧yw w Q∧w.heap.size≤z∧w.heap.size≤b∧z≠b)
 case first=>as_aux_lemma=>
  go_wp2_with fail;go_meet;exact⟨_,_,rfl,rfl,QB _ _ _,QC _ _ _,Zl _ _ _,by omega,by omega,by omega⟩
 obtain⟨z,b,rfl,rfl,I,E,F,gz,gb,aF⟩:=hcut;obtain⟨⟨kd,r1⟩,h1⟩:∃q,q=Xd (s,false) 1:=⟨_,rfl⟩;obtain⟨⟨nu,r2⟩,h2⟩:∃q,q=Xd r1 2:=⟨_,rfl⟩
 have ae:Yca s=(⟨nu,kd,0,0,false,0,0,0,0,0,0⟩,0,r2):=by unfold Yca;rw[←h1,←h2]
 have av:=yh ae;clear ae;go_upto_region 2 with(fail);go_cut [5] (fun a Q=>∃D,yp a D∧AskAt Q D ⟨0,kd,0,0,false,0,0,0,0,0,0⟩∧RdAt Q b r1∧AskAt Q z Xr∧yw w Q∧w.heap.size≤D∧D≠z∧D≠b)
 case first=>as_aux_lemma=>
  have hn:Calls prog 139 #[.pointer (some ⟨b,0,none⟩),.int .i64 1] wc fun e w'=>e=.returned (.int .i64 kd)∧RdAt w' b r1∧Kept (fun k=>k=b) wc w':=by
   have:=Qea b (s,false) 1 wc (by omega) E;rw[←h1]at this;exact this
  have l1:=Blk.lt E;have l2:=Blk.lt I;have HN:=yh hn;clear hn;clear h1 h2 E;go_wp2_with fail;refine HN.mono ?_;rintro e w1 ⟨rfl,ai,Y⟩;have bh:=Y.size;have aj:=I.kept Y aF;have ak:=Y.below (B:=w.heap.size) F.size (by intro j hj (e:j=b);omega);have aw:=yh ai;have az:=yh aj;have ag:=yh (F.trans ak);clear ai aj Y I ak;go_wp2_with fail;go_meet;exact⟨_,rfl,Blk.new _ _ _,aw.bel (Qi _ _),az.bel (Qi _ _),ag.alloc ag.size _,ag.size,by omega,by omega⟩
 clear h1 E I F;obtain⟨D,rfl,O,E,I,F,aH,aE,al⟩:=hcut;go_upto_region 3 with(fail);go_cut [] (fun Q=>AskAt Q D ⟨nu,kd,0,0,false,0,0,0,0,0,0⟩∧RdAt Q b r2∧AskAt Q z Xr∧yw w Q)
 case first=>as_aux_lemma=>
  have hn:Calls prog 139 #[.pointer (some ⟨b,0,none⟩),.int .i64 2] wc fun e w'=>e=.returned (.int .i64 nu)∧RdAt w' b r2∧Kept (fun k=>k=b) wc w':=by
   have:=Qea b r1 2 wc (by omega) E;rw[←h2]at this;exact this
  have HN:=yh hn;clear hn;clear h2 E;go_wp2_with fail;refine HN.mono ?_;rintro e w1 ⟨rfl,ai,Y⟩;have aj:=I.kept Y aF;have aa:=O.kept Y al;have ak:=Y.below (B:=w.heap.size) F.size (by intro j hj (e:j=b);omega);have f0:=aa.free 0;obtain⟨a0,_⟩:=aa.all;have aw:=yh ai;have az:=yh aj;have aX:=yh aa;have ag:=yh (F.trans ak);clear ai aj Y I ak aa;go_wp2_with fail;go_meet;exact⟨aX.set _,aw.other (p:=⟨D,0,none⟩) al _,az.other (p:=⟨D,0,none⟩) aE _,ag.setCell (p:=⟨D,0,none⟩) aH _⟩
 clear h2 E I F O;obtain⟨O,E,I,F⟩:=hcut;go_upto_region 4 with(fail);go_cut [6] (fun a Q=>∃J,yp a J∧AskAt Q D ⟨nu,kd,0,0,false,0,0,0,0,0,0⟩∧RdAt Q b r2∧AskAt Q z Xr∧Blk Q J #[.int .i64 0] 3∧yw w Q∧w.heap.size≤J∧D≠J∧z≠J∧b≠J)
 case first=>as_aux_lemma=>
  have l1:=Blk.lt O;have l2:=Blk.lt E;have l3:=Blk.lt I;go_wp2_with fail;go_meet;exact⟨_,rfl,O.bel (Qi _ _),E.bel (Qi _ _),I.bel (Qi _ _),Blk.new _ _ _,F.alloc F.size _,F.size,by omega,by omega,by omega⟩
 clear E I F O;obtain⟨J,rfl,O,E,I,U,F,ba,aU,bt,aV⟩:=hcut;go_wp2_with fail;refine(YN D J kd _ (O.cell rfl)).mono ?_;rintro e w3 ⟨A,n,cap,rfl,hS,ad⟩;have la:=Blk.lt O;have ll:=U.lt;have lr:=Blk.lt E;replace O:=O.bel ad;replace U:=U.bel ad;replace E:=E.bel ad;replace I:=I.bel ad;replace F:=F.trans (ad.mono F.size);clear ad;obtain⟨Z,au⟩:=yE (QP kd)
 have aI:Qlb s=Vda Z (Yca s):=by unfold Qlb;rw[av.out,au]
 have aS:(Yca s).1.kind=kd:=by rw[av.out]
 rw[←au]at hS;have bn:=yh au;clear au;have aZ:=yh aI;clear aI;have bk:=yh aS;clear aS;have bc:=hS.bd;obtain⟨X,ae⟩:=yE (Yca s)
 have ar:(⟨nu,kd,0,0,false,0,0,0,0,0,0⟩,(0:Int),r2)=X:=by rw[ae,av.out]
 have HD:=yh ae;clear ae
 have e1:(⟨nu,kd,0,0,false,0,0,0,0,0,0⟩:Ask)=X.1:=by rw[←ar]
 have e2:(0:Int)=X.2.1:=by rw[←ar]
 have e3:r2=X.2.2:=by rw[←ar]
 rw[e1]at O;rw[e3]at E;rw[e2]at U;clear e1 e2 e3 ar;go_wp2_with fail
 go_loopg [27] n (fun gk i wr=>∃k:Nat,k≤n∧n - k≤gk∧i=.int .i64 k∧AskAt wr D (Vda (Z.take k) X).1∧Blk wr J #[.int .i64 (Vda (Z.take k) X).2.1] 3∧RdAt wr b (Vda (Z.take k) X).2.2∧Kept (fun j=>j=D∨j=J∨j=b) w3 wr)
 case atStart=>exact⟨0,M0 _,by omega,rfl,O,U,E,Kept.refl _ _⟩
 case round=>
  clear O U E;obtain⟨k,hk,be,rfl,O,U,E,hK⟩:=hrel;have aA:=hS.kept hK (fun j _ hT=>by have hT:wc.heap.size≤j:=hT;rintro(rfl | rfl | rfl)<;>omega);by_cases hlt:k < n
  ·obtain⟨o,bi,p,c0,c1,c2,rfl,hx,⟨hc,_⟩,g0,g1,g2⟩:=aA.at3 hlt;simp only[List.cons.injEq,and_true]at hc;obtain⟨rfl,rfl,rfl⟩:=hc
   have aD:p∈QP kd:=by rw[←bn.out];exact J6 hx
   obtain⟨m,hm,bg,br⟩:=Qha aD;have am:=yh (Uab X hx);obtain⟨d,hd⟩:=yE (Vda (Z.take k) X);rw[←hd]at O U E am;obtain⟨q,hq⟩:=yE (Xd d.2.2 m);have an:=yh (show ZWa d p=(QXa d.1 p.ix q.1,Ysa d.2.1 p.ix q.1,q.2)by unfold ZWa;rw[hm,hq];rfl)
   have aC:∀W,RdAt W b d.2.2→Calls prog 139 #[.pointer (some ⟨b,0,none⟩),.int .i64 m] W fun e w'=>e=.returned (.int .i64 q.1)∧RdAt w' b q.2∧Kept (fun k=>k=b) W w':=fun W h=>by
    have:=Qea b d.2.2 m W br h;rw[←hq]at this;exact this
   obtain⟨v,hv⟩:=yE q.1;rw[←hv]at an aC;rw[hm]at g0;have bf:=Blk.lt E;have bm:=yh aC;clear aC;have HM:=yh aD;clear aD;have aM:Blk (wr.alloc (.cells #[.int .i64 m,.int .i64 p.most,.pointer (some (QX D J p.ix))] 194)).drew wr.heap.size #[.int .i64 m,.int .i64 p.most,.pointer (some (QX D J p.ix))] 194:=Blk.new wr _ _;have aa:AskAt (wr.alloc (.cells #[.int .i64 m,.int .i64 p.most,.pointer (some (QX D J p.ix))] 194)).drew D d.1:=O.bel (Qi wr _).drew;have aK:Blk (wr.alloc (.cells #[.int .i64 m,.int .i64 p.most,.pointer (some (QX D J p.ix))] 194)).drew J #[.int .i64 d.2.1] 3:=U.bel (Qi wr _).drew;have bp:RdAt (wr.alloc (.cells #[.int .i64 m,.int .i64 p.most,.pointer (some (QX D J p.ix))] 194)).drew b d.2.2:=E.bel (Qi wr _).drew;have aJ:=(hK.alloc (.cells #[.int .i64 m,.int .i64 p.most,.pointer (some (QX D J p.ix))] 194)).drew
   have aT:∀w4,Kept (fun k=>k=b) (wr.alloc (.cells #[.int .i64 m,.int .i64 p.most,.pointer (some (QX D J p.ix))] 194)).drew w4→
     (yI w4 wr.heap.size 0 m∧w4.cell? ⟨wr.heap.size,2,none⟩=some (.pointer (some (QX D J p.ix))))∧
     (w4.cell? (QX D J p.ix)=some (.int .i64 (Vha d.1 d.2.1 p.ix))∧w4.frozen? (QX D J p.ix)=false)∧
     AskAt (w4.setCell (QX D J p.ix) (.int .i64 v)) D (QXa d.1 p.ix v)∧Blk (w4.setCell (QX D J p.ix) (.int .i64 v)) J #[.int .i64 (Ysa d.2.1 p.ix v)] 3∧
     Kept (fun j=>j=D∨j=J∨j=b) w3 (w4.setCell (QX D J p.ix) (.int .i64 v)):=fun w4 ac=>by
    have aL:=Blk.kept aM ac (by show ¬wr.heap.size=b;omega);have ao:=aa.kept ac al;have ap:=aK.kept ac (fun e=>aV e.symm);have aN:=Zwb ao ap aU HM v;refine⟨⟨aL.cell rfl,aL.cell rfl⟩,XAa ao ap HM,aN.1,aN.2,(aJ.trans (ac.mono fun j _ h=>.inr (.inr h))).setCell (.inl ?_) _⟩;unfold QX;split
    ·exact .inr (.inl rfl)
    ·exact .inl rfl
   have bl:=yh aT;clear aT
   have bs:(QX D J p.ix).block≠b:=by
    unfold QX;split
    ·exact fun e=>aV e.symm
    ·exact al
   clear hx hd hq hv hm aA aJ aM aa aK;go_wp2_with fail;go_region_with (go_at_call 139;refine(bm _ bp).mono ?_;rintro e w4 ⟨rfl,bq,ac⟩;obtain⟨⟨p0,p2⟩,⟨m4,f4⟩,ao,ap,bo⟩:=bl w4 ac)
   all_goals go_wp2_with fail
   all_goals go_roundg (n - (k+1))
   all_goals first
    | omega
    | exact⟨k+1,by omega,by omega,by go_num,by rw[am.out,an.out];exact ao,by rw[am.out,an.out];exact ap,by rw[am.out,an.out];exact Blk.other bq bs _,bo⟩
  ·obtain rfl:k=n:=by omega
   have hT:Z.take k=Z:=M1 (Nat.le_of_eq hS.len);obtain⟨d,hd⟩:=yE (Qlb s)
   have aR:Vda (Z.take k) X=d:=by rw[hT,hd,aZ.out,HD.out]
   rw[aR]at O U E;have ax:=yh (show V=if Xta d kd then (Xr,1)else if Zi (Uia d)≠0 then (Xr,Zi (Uia d))else (Uia d,0)by rw[HV.out,hd];unfold Qya;rw[bk.out]);have aP:=I.kept hK (by rintro(h | h | h);exact aE h.symm;exact bt h;exact aF h);replace F:=F.trans (hK.below (B:=w.heap.size) F.size (by rintro j hj (h | h | h)<;>omega));clear hd aR hT hK I aA;go_upto_region 11 with(fail);go_cut [] (fun Q=>AskAt Q D (Uia d)∧Blk Q J #[.int .i64 d.2.1] 3∧RdAt Q b d.2.2∧AskAt Q z Xr∧yw w Q)
   case first=>as_aux_lemma=>
    have l0:=U.cell (j:=0) rfl;have f4:=O.free 4;obtain⟨_,_,_,_,a4,_⟩:=O.all;have HA:=yh O;have HL:=yh U;have HR:=yh E;clear O U E;go_wp2_with fail;go_meet;exact⟨HA.set _,HL.other (p:=⟨D,4,none⟩) aU _,HR.other (p:=⟨D,4,none⟩) al _,aP.other (p:=⟨D,4,none⟩) aE _,F.setCell (p:=⟨D,4,none⟩) aH _⟩
   clear O U E aP F;obtain⟨O,U,E,I,F⟩:=hcut;obtain⟨dx,lev,af,sh⟩:=d;have l0:yI wc J 0 lev:=U.cell rfl;have r0:wc.cell? ⟨b,0,none⟩=some (.string ⟨af.toArray⟩):=Blk.cell E (j:=0) rfl;have r1:wc.cell? ⟨b,1,none⟩=some (.bool sh):=Blk.cell E (j:=1) rfl;obtain⟨z0,z1,z2,z3,z4,z5,z6,z7,z8,z9,aW⟩:=I.all;have zf:=I.free;have aQ:Xta (dx,lev,(af,sh)) kd=(Qd kd 1 8 == false || sh || decide (af≠[]) || decide (1 < lev)):=rfl;have ab:=yh aQ;clear aQ
   have aO:Xta (dx,lev,(af,sh)) kd=true→V=(Xr,1):=fun h=>by rw[ax.out,M3 h]
   have ah:=yh aO;clear aO;clear E
   cases q_HK:Qd kd 1 8<;>have HK:=yh q_HK<;>clear q_HK
   ·obtain rfl:V=(Xr,1):=ah (by rw[ab.out,HK.out];rfl);go_wp2_with fail;exact M4 (v:=.tuple #[.agg (Zf Xr),.int .i64 1]) (YQ (by kernel_rfl) (((((((((((Blk.set I _).set _).set _).set _).set _).set _).set _).set _).set _).set _).set _) rfl rfl) rfl ⟨rfl,((((((((((Below.setCell F (p:=⟨z,0,none⟩) gz _).setCell (p:=⟨z,1,none⟩) gz _).setCell (p:=⟨z,2,none⟩) gz _).setCell (p:=⟨z,3,none⟩) gz _).setCell (p:=⟨z,4,none⟩) gz _).setCell (p:=⟨z,5,none⟩) gz _).setCell (p:=⟨z,6,none⟩) gz _).setCell (p:=⟨z,7,none⟩) gz _).setCell (p:=⟨z,8,none⟩) gz _).setCell (p:=⟨z,9,none⟩) gz _).setCell (p:=⟨z,10,none⟩) gz _⟩
   cases sh with
   | true=>
    obtain rfl:V=(Xr,1):=ah (by rw[ab.out,HK.out];rfl);go_wp2_with fail;exact M4 (v:=.tuple #[.agg (Zf Xr),.int .i64 1]) (YQ (by kernel_rfl) (((((((((((Blk.set I _).set _).set _).set _).set _).set _).set _).set _).set _).set _).set _) rfl rfl) rfl ⟨rfl,((((((((((Below.setCell F (p:=⟨z,0,none⟩) gz _).setCell (p:=⟨z,1,none⟩) gz _).setCell (p:=⟨z,2,none⟩) gz _).setCell (p:=⟨z,3,none⟩) gz _).setCell (p:=⟨z,4,none⟩) gz _).setCell (p:=⟨z,5,none⟩) gz _).setCell (p:=⟨z,6,none⟩) gz _).setCell (p:=⟨z,7,none⟩) gz _).setCell (p:=⟨z,8,none⟩) gz _).setCell (p:=⟨z,9,none⟩) gz _).setCell (p:=⟨z,10,none⟩) gz _⟩
   | false=>
    cases af with
    | cons c af=>
     obtain rfl:V=(Xr,1):=ah (by rw[ab.out,HK.out];simp);go_wp2_with fail;exact M4 (v:=.tuple #[.agg (Zf Xr),.int .i64 1]) (YQ (by kernel_rfl) (((((((((((Blk.set I _).set _).set _).set _).set _).set _).set _).set _).set _).set _).set _) rfl rfl) rfl ⟨rfl,((((((((((Below.setCell F (p:=⟨z,0,none⟩) gz _).setCell (p:=⟨z,1,none⟩) gz _).setCell (p:=⟨z,2,none⟩) gz _).setCell (p:=⟨z,3,none⟩) gz _).setCell (p:=⟨z,4,none⟩) gz _).setCell (p:=⟨z,5,none⟩) gz _).setCell (p:=⟨z,6,none⟩) gz _).setCell (p:=⟨z,7,none⟩) gz _).setCell (p:=⟨z,8,none⟩) gz _).setCell (p:=⟨z,9,none⟩) gz _).setCell (p:=⟨z,10,none⟩) gz _⟩
    | nil=>
     by_cases hlev:1 < lev
     ·obtain rfl:V=(Xr,1):=ah (by rw[ab.out,HK.out];simp[hlev]);go_wp2_with fail;exact M4 (v:=.tuple #[.agg (Zf Xr),.int .i64 1]) (YQ (by kernel_rfl) (((((((((((Blk.set I _).set _).set _).set _).set _).set _).set _).set _).set _).set _).set _) rfl rfl) rfl ⟨rfl,((((((((((Below.setCell F (p:=⟨z,0,none⟩) gz _).setCell (p:=⟨z,1,none⟩) gz _).setCell (p:=⟨z,2,none⟩) gz _).setCell (p:=⟨z,3,none⟩) gz _).setCell (p:=⟨z,4,none⟩) gz _).setCell (p:=⟨z,5,none⟩) gz _).setCell (p:=⟨z,6,none⟩) gz _).setCell (p:=⟨z,7,none⟩) gz _).setCell (p:=⟨z,8,none⟩) gz _).setCell (p:=⟨z,9,none⟩) gz _).setCell (p:=⟨z,10,none⟩) gz _⟩
     have ay:=yh (show V=if Zi (Uia (dx,lev,([],false)))≠0 then (Xr,Zi (Uia (dx,lev,([],false))))else (Uia (dx,lev,([],false)),0)by
      rw[ax.out,M2 (by rw[ab.out,HK.out];simp[hlev])])
     obtain⟨y,hy⟩:=yE (Uia (dx,lev,([],false)));obtain⟨r,hr⟩:=yE (Zi y);rw[←hy,←hr]at ay;rw[←hy]at O;have aq:=fun W=>Vg y W;rw[←hr]at aq;dsimp only[Zf]at aq;have aY:=yh aq;clear aq;obtain⟨a0,a1,a2,a3,a4,a5,a6,a7,a8,a9,aG⟩:=O.all;clear hy hr ax ab ah z0 z1 z2 z3 z4 z5 z6 z7 z8 z9 aW;go_wp2_with fail;refine yM (aY _) fun w5 aB=>?_;replace O:=O.bel aB;replace I:=I.bel aB;replace F:=F.trans (aB.mono F.size);obtain⟨z0,z1,z2,z3,z4,z5,z6,z7,z8,z9,aW⟩:=I.all;replace zf:=I.free;by_cases h0:¬r=0
     ·obtain rfl:V=(Xr,r):=by rw[ay.out,M3 h0]
      have bb:(r != 0)=true:=by simpa using h0
      clear h0;go_wp2_with fail;exact M4 (v:=.tuple #[.agg (Zf Xr),.int .i64 r]) (YQ (by kernel_rfl) (((((((((((Blk.set I _).set _).set _).set _).set _).set _).set _).set _).set _).set _).set _) rfl rfl) rfl ⟨rfl,((((((((((Below.setCell F (p:=⟨z,0,none⟩) gz _).setCell (p:=⟨z,1,none⟩) gz _).setCell (p:=⟨z,2,none⟩) gz _).setCell (p:=⟨z,3,none⟩) gz _).setCell (p:=⟨z,4,none⟩) gz _).setCell (p:=⟨z,5,none⟩) gz _).setCell (p:=⟨z,6,none⟩) gz _).setCell (p:=⟨z,7,none⟩) gz _).setCell (p:=⟨z,8,none⟩) gz _).setCell (p:=⟨z,9,none⟩) gz _).setCell (p:=⟨z,10,none⟩) gz _⟩
     ·obtain rfl:r=0:=by omega
      obtain rfl:V=(y,0):=by rw[ay.out,M2 (by simp)]
      clear a0 a1 a2 a3 a4 a5 a6 a7 a8 a9 aG;obtain⟨a0,a1,a2,a3,a4,a5,a6,a7,a8,a9,aG⟩:=O.all;go_wp2_with fail;exact M4 (v:=.tuple #[.agg (Zf y),.int .i64 0]) (YQ (x:=y) (e:=0) (by kernel_rfl) (Z0b y I) rfl rfl) rfl ⟨rfl,((((((((((Below.setCell F (p:=⟨z,0,none⟩) gz _).setCell (p:=⟨z,1,none⟩) gz _).setCell (p:=⟨z,2,none⟩) gz _).setCell (p:=⟨z,3,none⟩) gz _).setCell (p:=⟨z,4,none⟩) gz _).setCell (p:=⟨z,5,none⟩) gz _).setCell (p:=⟨z,6,none⟩) gz _).setCell (p:=⟨z,7,none⟩) gz _).setCell (p:=⟨z,8,none⟩) gz _).setCell (p:=⟨z,9,none⟩) gz _).setCell (p:=⟨z,10,none⟩) gz _⟩
def Qfa (i:Nat):Prop:=i=2∨i=3∨i=4∨i=5∨i=6∨i=7∨i=8∨i=9∨i=10
theorem Utb {x:Ask}{lev v:Int}{i j:Nat}(h:Qfa i)(A:i≠j):Vha (QXa x j v) (Ysa lev j v) i=Vha x lev i:=by
 rcases h with rfl | rfl | rfl | rfl | rfl | rfl | rfl | rfl | rfl<;>simp[Vha,fld,QXa,Ysa]<;>exact fun e=>absurd e.symm A
theorem X9b {x y:Ask}(U:x.number=y.number)(V:x.kind=y.kind)(h:∀i,Qfa i→fld x i=fld y i):x=y:=by
 have D:=h 2 (by simp[Qfa]);have E:=h 3 (by simp[Qfa]);have Y:=h 4 (by simp[Qfa]);have F:=h 5 (by simp[Qfa]);have I:=h 6 (by simp[Qfa]);have J:=h 7 (by simp[Qfa]);have O:=h 8 (by simp[Qfa]);have Q:=h 9 (by simp[Qfa]);have A:=h 10 (by simp[Qfa]);obtain⟨Z,a1,a2,a3,W,a5,a6,a7,a8,a9,aa⟩:=x;obtain⟨b0,b1,b2,b3,X,b5,b6,b7,b8,b9,ab⟩:=y;simp[fld]at U V D E Y F I J O Q A;simp only[Ask.mk.injEq];refine⟨U,V,D,E,?_,F,I,J,O,Q,A⟩;cases W<;>cases X<;>simp_all
theorem QWc (l:List Part):∀(x:Ask) (i:Nat),Qfa i→i≠4→fld (zf l x) i=if i∈l.map Part.ix then 0 else fld x i:=by
 induction l with
 | nil=>intro x i _ _;simp[zf]
 | cons p l ih=>
  intro x i D A
  show fld (zf l (QXa x p.ix 0)) i=_
  rw[ih _ i D A];by_cases h:i∈l.map Part.ix
  ·rw[M3 h,List.map_cons,M3 (List.mem_cons_of_mem _ h)]
  ·rw[M2 h,List.map_cons];by_cases e:i=p.ix
   ·rw[M3 (by rw[←e];exact List.mem_cons_self ..),←e]
    rcases D with rfl | rfl | rfl | rfl | rfl | rfl | rfl | rfl | rfl<;>first | rfl | exact absurd rfl A
   ·rw[M2 (by rw[List.mem_cons,not_or];exact⟨e,h⟩)];have:=Utb (x:=x) (lev:=0) (v:=0) D e
    simpa [Vha,A] using this
theorem Vjb {x:Ask} : Yc x=true↔∀i,Qfa i→i∉(QP x.kind).map Part.ix→fld x i=0:=by
 unfold Yc;rw[decide_eq_true_eq]
 have D:((QP x.kind).any (fun p=>p.ix == 4)=true)↔4∈(QP x.kind).map Part.ix:=by
  rw[List.any_eq_true,List.mem_map]
  constructor
  ·rintro⟨p,h,e⟩;exact⟨p,h,by simpa using e⟩
  ·rintro⟨p,h,e⟩;exact⟨p,h,by simpa using e⟩
 have F:=ZMb (QP x.kind) x
 have E:∀i,Qfa i→fld (Vf x) i=if i∈(QP x.kind).map Part.ix then 0 else fld x i:=fun i A=>by
  by_cases e4:i=4
  ·subst e4;have:fld (Vf x) 4=if (Vf x).level then 1 else 0:=rfl;rw[this];have J:fld x 4=if x.level then 1 else 0:=rfl;rw[J];unfold Vf;by_cases h:4∈(QP x.kind).map Part.ix
   ·rw[M3 h,M3 (D.2 h)];rfl
   ·rw[M2 h,M2 (fun e=>h (D.1 e))]
  ·rw[←QWc _ x i A e4];unfold Vf
   rcases A with rfl | rfl | rfl | rfl | rfl | rfl | rfl | rfl | rfl<;>first | rfl | exact absurd rfl e4
 constructor
 ·intro h i A O;have:=E i A;rw[h,M2 O]at this;rw[←this];rcases A with rfl | rfl | rfl | rfl | rfl | rfl | rfl | rfl | rfl<;>rfl
 ·intro h;refine X9b F.2.1 F.2.2 fun i A=>?_;rw[E i A]
  have I:fld ({ (default:Ask)with number:=x.number,kind:=x.kind }) i=0:=by
   rcases A with rfl | rfl | rfl | rfl | rfl | rfl | rfl | rfl | rfl<;>rfl
  rw[I];by_cases e:i∈(QP x.kind).map Part.ix
  ·rw[M3 e]
  ·rw[M2 e];exact h i A e
theorem Xxa {L:List UInt8}{k:Nat}{d:UInt8}(h:L[k]? = some d)(W:World):(Instr.index 9 (.string ⟨L.toArray⟩) (.int .i64 (k:Int))).run prog W=.ok (.int .u8 (d.toNat:Int)) W:=by
 have E:k < L.length:=(J0.1 h).1
 have A:(⟨L.toArray⟩:ByteArray).size=L.length:=by show L.toArray.size=_;simp
 rw[run_index_string _ _ _ _ _ underlying9,dif_pos ⟨by omega,by rw[A];omega⟩];have D:L[k]=d:=(J0.1 h).2
 have:(⟨L.toArray⟩:ByteArray)[k]'(by rw[A];exact E)=d:=by rw[←D];rfl
 simp only[Int.toNat_natCast,this]
theorem QVc (c d:UInt8):((c.toNat:Int) == (d.toNat:Int))=(c == d):=by
 by_cases h:c=d
 ·subst h;simp
 ·have:¬(c.toNat:Int)=(d.toNat:Int):=fun e=>h (UInt8.toNat_inj.1 (by omega));rw[beq_eq_false_iff_ne.2 this,beq_eq_false_iff_ne.2 h]
def C9:List UInt8:=[105,103,99,107,102,116,117,97,108]
def C10:List UInt8:=[105,103,99,107,102,116,117,97,108,115]
def Uua (x:Ask) (c:UInt8):Bool:=(Uc x.kind).any (fun d=>d == c) || fld x (QO c).ix == 0
def YWa (x:Ask) (c:UInt8):Bool:=Qd (fld x (QO c).ix) 0 (QO c).most
def ZYb (x:Ask):Int:=if Qd x.kind 1 8=false then 7 else if Qd x.number 1 65535=false then 3 else if C9.all (Uua x)=false then 1 else if (Uc x.kind).all (YWa x)then 0 else 3
theorem Xga (x:Ask)(w:World):Calls prog 51 #[.agg (Zf x)] w fun e w'=>e=.returned (.int .i64 (ZYb x))∧yw w w':=by
 obtain⟨r,hr⟩:=yE (ZYb x);rw[←hr];have HR:=yh hr;clear hr;have af:=fun(c:UInt8) W=>YXa x c W;unfold Zf at af ⊢;have aj:=yh af;clear af;go_enter func51,ntmps51;go_upto_region 0 with(fail);go_cut [1] (fun a J=>∃b,yp a b∧AskAt J b x∧yw w J)
 case first=>as_aux_lemma=>
  go_wp2_with fail;go_meet;exact⟨_,rfl,Zg _ _,Qi _ _⟩
 obtain⟨b,rfl,hA,D⟩:=hcut;obtain⟨c0,c1,c2,c3,c4,c5,c6,c7,c8,c9,ak⟩:=hA.all;go_wp2_with fail;refine(Qk x.kind 1 8 _).mono ?_;rintro e w9 ⟨rfl,rfl⟩
 cases q_HK:Qd x.kind 1 8<;>have HK:=yh q_HK<;>clear q_HK
 ·obtain rfl:r=7:=by rw[HR.out];unfold ZYb;rw[M3 HK.out]
  go_wp2_with fail;go_ret;exact⟨rfl,D⟩
 have ag:=yh (show r=if Qd x.number 1 65535=false then 3 else if C9.all (Uua x)=false then 1 else if (Uc x.kind).all (YWa x)then 0 else 3 by rw[HR.out];unfold ZYb;rw[M2 (by rw[HK.out];simp)]);go_wp2_with fail;refine(Qk x.number 1 65535 _).mono ?_;rintro e w9 ⟨rfl,rfl⟩
 cases q_HN:Qd x.number 1 65535<;>have HN:=yh q_HN<;>clear q_HN
 ·obtain rfl:r=3:=by rw[ag.out,M3 HN.out]
  go_wp2_with fail;go_ret;exact⟨rfl,D⟩
 have Y:=yh (show r=if C9.all (Uua x)=false then 1 else if (Uc x.kind).all (YWa x)then 0 else 3 by rw[ag.out,M2 (by rw[HN.out];simp)]);go_wp2_with fail;refine(Yxa x.kind _).mono ?_;rintro e w9 ⟨rfl,rfl⟩;obtain⟨N,O⟩:=yE (Uc x.kind)
 have ax:N.length≤7:=by rw[O];unfold Uc;(repeat' split)<;>simp
 have am:∀c,Uua x c=(N.any (fun d=>d == c) || fld x (QO c).ix == 0):=fun c=>by rw[O];rfl
 rw[←O]at Y ⊢;have aw:=yh O;clear O;have ao:=yh am;clear am;go_wp2_with fail
 go_loopg [5] 9 (fun gk i wr=>∃k:Nat,k≤9∧9 - k≤gk∧i=.int .i64 k∧Aside ((C9.take k).all (Uua x)=true)∧yw wc wr)
 case atStart=>exact⟨0,by omega,by omega,rfl,rfl,J4 _ _⟩
 case round=>
  obtain⟨k,hk,ar,rfl,E,A⟩:=hrel;by_cases hlt:k < 9
  ·obtain⟨c,F⟩:∃c,C9[k]? = some c:=⟨_,J1 (by simp[C9];omega)⟩
   have al:C10[k]? = some c:=by
    have aq:C10=C9++[115]:=rfl;rw[aq,List.getElem?_append_left (by simp[C9];omega)];exact F
   have au:=fun W=>Xxa al W;simp only[C10]at au;obtain⟨q,hq⟩:=yE (N.any (fun d=>d == c));have U:=yh (show Uua x c=(q || fld x (QO c).ix == 0)by rw[ao.out,hq]);have I:=yh F;clear F;have HQ:=yh hq;clear hq;clear al;go_upto_region 12 with(fail)
   go_loopg [6,7] N.length (fun ap nm j wq=>∃m:Nat,m≤N.length∧N.length - m≤ap∧j=.int .i64 m∧nm=.bool ((N.take m).any (fun d=>d == c))∧yw wr wq)
   case atStart=>exact⟨0,by omega,by omega,rfl,rfl,J4 _ _⟩
   case round=>
    obtain⟨m,hm,ay,rfl,rfl,aB⟩:=hrel;by_cases hltm:m < N.length
    ·obtain⟨d,hd⟩:∃d,N[m]? = some d:=⟨_,J1 hltm⟩;have av:=fun W=>Xxa hd W;have ae:=Qw (p:=fun d=>d == c) hd;obtain⟨q1,an⟩:=yE ((N.take m).any (fun d=>d == c));rw[←an]at ae ⊢;have ai:=yh ae;clear ae;clear an hd;cases q1
     ·go_wp2_with fail;go_quiet (fail);go_wp2_with fail;go_roundg (N.length - (m+1))
      case measure=>omega
      case rel=>exact⟨m+1,by omega,by omega,by go_num,by rw[ai.out];simp[QVc],below_drewN aB _⟩
     ·go_wp2_with fail;go_quiet (fail);go_wp2_with fail;go_roundg (N.length - (m+1))
      case measure=>omega
      case rel=>exact⟨m+1,by omega,by omega,by go_num,by rw[ai.out];rfl,below_drewN aB _⟩
    ·obtain rfl:m=N.length:=by omega
     rw[List.take_length,←HQ.out];have V:=A.trans (aB.mono A.size);have ab:=hA.bel V;obtain⟨Z,d1,d2,d3,d4,d5,d6,d7,d8,d9,aa⟩:=ab.all;clear c0 c1 c2 c3 c4 c5 c6 c7 c8 c9 ak;go_upto_region 15 with(fail);go_cut [8,9,10] (fun v e f J=>v=.int .i64 (fld x (QO c).ix)∧yw wr J)
     case first=>as_aux_lemma=>
      go_region_with (go_at_call 126;refine yM (aj c _) fun wn ad=>?_)
      all_goals
       go_wp2_with fail;go_meet;exact⟨rfl,(J4 _ wr).drew.trans ad⟩
     obtain⟨rfl,Q⟩:=hcut;have ac:=V.trans (Q.mono V.size);clear aB Q V Z d1 d2 d3 d4 d5 d6 d7 d8 d9 aa;obtain⟨v,hv⟩:=yE (fld x (QO c).ix);rw[←hv]at U ⊢;clear hv;cases q
     ·by_cases hv0:v=0
      ·subst hv0;have X:=yh (show Uua x c=true by rw[U.out];rfl);go_wp2_with fail;go_roundg (9 - (k+1))
       case measure=>omega
       case rel=>exact⟨k+1,by omega,by omega,by go_num,(show Aside _ from by show _=_;rw[Ve I.out,E,X.out];rfl),ac⟩
      ·have az:(v != 0)=true:=by simpa using hv0
       obtain rfl:r=1:=by rw[Y.out,M3 (Xma I.out (by rw[U.out];simpa using hv0))]
       clear hv0;go_wp2_with fail;go_ret;exact⟨rfl,D.trans (ac.mono D.size)⟩
     ·have X:=yh (show Uua x c=true by rw[U.out];rfl);go_wp2_with fail;go_roundg (9 - (k+1))
      case measure=>omega
      case rel=>exact⟨k+1,by omega,by omega,by go_num,(show Aside _ from by show _=_;rw[Ve I.out,E,X.out];rfl),ac⟩
  ·obtain rfl:k=9:=by omega
   have ah:=yh (show r=if N.all (YWa x)then 0 else 3 by rw[Y.out,M2 (by rw[show C9=C9.take 9 from rfl,E];simp)]);go_wp2_with fail
   go_loopg [11] N.length (fun gk i wq=>∃k:Nat,k≤N.length∧N.length - k≤gk∧i=.int .i64 k∧Aside ((N.take k).all (YWa x)=true)∧yw wc wq)
   case atStart=>exact⟨0,by omega,by omega,rfl,rfl,A⟩
   case round=>
    clear A;obtain⟨k,hk,ar,rfl,E,A⟩:=hrel;by_cases hlt:k < N.length
    ·obtain⟨c,F⟩:∃c,N[k]? = some c:=⟨_,J1 hlt⟩;have av:=fun W=>Xxa F W;have I:=yh F;clear F;have ab:=hA.bel A;clear c0 c1 c2 c3 c4 c5 c6 c7 c8 c9 ak;obtain⟨Z,d1,d2,d3,d4,d5,d6,d7,d8,d9,aa⟩:=ab.all;go_upto_region 21 with(fail);go_cut [12,13,14] (fun v e f J=>v=.int .i64 (fld x (QO c).ix)∧f=.int .i64 (QO c).most∧yw wr J)
     case first=>as_aux_lemma=>
      go_region_with (go_at_call 126;refine yM (aj c _) fun wn ad=>?_)
      all_goals
       go_wp2_with fail;go_meet;exact⟨rfl,rfl,(J4 _ wr).drew.trans ad⟩
     obtain⟨rfl,rfl,Q⟩:=hcut;replace A:=A.trans (Q.mono A.size);clear Q Z d1 d2 d3 d4 d5 d6 d7 d8 d9 aa;have HV:=yh (show YWa x c=Qd (fld x (QO c).ix) 0 (QO c).most from rfl);go_wp2_with fail;refine yN (Qk (fld x (QO c).ix) 0 (QO c).most _) ?_
     cases q_HB:Qd (fld x (QO c).ix) 0 (QO c).most<;>have HB:=yh q_HB<;>clear q_HB
     ·obtain rfl:r=3:=by rw[ah.out,M2 (by rw[Xma I.out (by rw[HV.out];exact HB.out)];simp)]
      go_wp2_with fail;go_ret;exact⟨rfl,D.trans (A.mono D.size)⟩
     ·go_wp2_with fail;go_roundg (N.length - (k+1))
      case measure=>omega
      case rel=>exact⟨k+1,by omega,by omega,by go_num,(show Aside _ from by show _=_;rw[Ve I.out,E,HV.out,HB.out];rfl),A⟩
    ·obtain rfl:k=N.length:=by omega
     obtain rfl:r=0:=by rw[ah.out,M3 (by rw[List.take_length]at E;exact E)]
     go_wp2_with fail;go_ret;exact⟨rfl,D.trans (A.mono D.size)⟩
theorem VXa {k:Int}{c:UInt8}(h:c∈Uc k):QO c∈QP k:=by rw[←YA];exact List.mem_map_of_mem h
theorem V9b {k:Int}{c:UInt8}(h:c∈Uc k):c∈C9:=by
 have A:∀c∈Uc k,c∈C9:=by
  unfold Uc
  repeat' split
  all_goals decide
 exact A c h
theorem QXc {c:UInt8}(h:c∈C9):Qfa (QO c).ix:=by
 have A:∀c∈C9,(QO c).ix=2∨(QO c).ix=3∨(QO c).ix=4∨(QO c).ix=5∨(QO c).ix=6∨(QO c).ix=7∨(QO c).ix=8∨(QO c).ix=9∨(QO c).ix=10:=by decide
 exact A c h
theorem Qmc:∀c∈C9,∀d∈C9,(QO c).ix=(QO d).ix→c=d:=by decide
theorem Qlc:∀i:Nat,(i=2∨i=3∨i=4∨i=5∨i=6∨i=7∨i=8∨i=9∨i=10)→∃c∈C9,(QO c).ix=i:=by
 intro i A;rcases A with rfl | rfl | rfl | rfl | rfl | rfl | rfl | rfl | rfl<;>decide
theorem ZZb (x:Ask):ZYb x=Zi x:=by
 have Q:C9.all (Uua x)=Yc x:=by
  rw[Bool.eq_iff_iff,Vjb,List.all_eq_true]
  constructor
  ·intro h i O U;obtain⟨c,A,rfl⟩:=Qlc i O;have:=h c A;unfold Uua at this;rw[Bool.or_eq_true]at this;rcases this with E | E
   ·obtain⟨d,D,F⟩:=List.any_eq_true.1 E
    obtain rfl:d=c:=by simpa using F
    exact absurd (List.mem_map_of_mem (f:=Part.ix) (VXa D)) U
   ·simpa using E
  ·intro h c A;unfold Uua;rw[Bool.or_eq_true];by_cases hm:(QO c).ix∈(QP x.kind).map Part.ix
   ·left
    obtain⟨p,J,F⟩:=List.mem_map.1 hm;rw[←YA]at J;obtain⟨d,D,rfl⟩:=List.mem_map.1 J;have:=Qmc d (V9b D) c A F;subst this;exact List.any_eq_true.2 ⟨d,D,by simp⟩
   ·right
    simpa using h _ (QXc A) hm
 have V:(Uc x.kind).all (YWa x)=(QP x.kind).all (Xa x):=by
  rw[←YA,List.all_map,Bool.eq_iff_iff,List.all_eq_true,List.all_eq_true]
  have I:∀c∈Uc x.kind,(YWa x c=true↔(Xa x ∘ QO) c=true):=fun c A=>by
   show Qd (fld x (QO c).ix) 0 (QO c).most=true↔Qd (Vha x 0 (QO c).ix) 0 (QO c).most=true
   rcases Xb (VXa A)with e | e | e | e | e | e | e | e | e
   all_goals rw[e]
   all_goals first
    | exact Iff.rfl
    |
     refine⟨fun _=>rfl,fun _=>?_⟩
     show Qd (if x.level then (1:Int)else 0) 0 1=true
     cases x.level<;>decide
  exact⟨fun h c A=>(I c A).1 (h c A),fun h c A=>(I c A).2 (h c A)⟩
 unfold ZYb Zi;rw[Q,V]
end Go.Proofs.YtjdcokpmgionjaaGreat
