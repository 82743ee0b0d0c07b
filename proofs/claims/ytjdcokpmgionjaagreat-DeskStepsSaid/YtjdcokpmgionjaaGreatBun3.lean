/-
  Laws and contracts.
-/
import Derived.Test.YtjdcokpmgionjaaGreatBun1
set_option linter.unusedSimpArgs false
set_option linter.unusedVariables false
set_option maxRecDepth 100000
set_option maxHeartbeats 20000000
namespace Go.Proofs.YtjdcokpmgionjaaGreat
open Proofs.Tryz Go.RowKit Go.Shelf
def AskAt (w:World) (b:Nat) (x:Ask):Prop:=Blk w b (QY x) 53
theorem AskAt.bel {w w':World}{b:Nat}{x:Ask}(h:AskAt w b x)(A:yw w w'):AskAt w' b x:=Blk.bel h A
def Y2 (x:Ask) (i:Nat) (v:Int):Ask:=
 { x with id:=if i=2 then v else x.id,guests:=if i=3 then v else x.guests,cabin:=if i=5 then v else x.cabin,category:=if i=6 then v else x.category,frm:=if i=7 then v else x.frm,upto:=if i=8 then v else x.upto,til:=if i=9 then v else x.til,amount:=if i=10 then v else x.amount }
def VQa (lev:Int) (i:Nat) (v:Int):Int:=if i=4 then v else lev
def XU (x:Ask) (lev:Int) (i:Nat):Int:=if i=4 then lev else fld x i
theorem Vv {k:Int}{p:Part}(h:p∈Qr k):p=pId∨p=VC∨p=VN∨p=XV∨p=Vu∨p=Z9a∨p=pTo∨p=ZJa∨p=Yv:=by
 have A:∀p∈Qr k,p∈[pId,VC,VN,XV,Vu,Z9a,pTo,ZJa,Yv]:=by
  unfold Qr
  repeat' split
  all_goals decide
 simpa using A p h
theorem X1a {w:World}{A D:Nat}{x:Ask}{lev k:Int}{t:TypeId}(E:AskAt w A x)(F:Blk w D #[.int .i64 lev] t){p:Part}(I:p∈Qr k) :
  w.cell? (Q1 A D p.ix)=some (.int .i64 (XU x lev p.ix))∧w.frozen? (Q1 A D p.ix)=false:=by
 rcases Vv I with rfl|rfl|rfl|rfl|rfl|rfl|rfl|rfl|rfl
 all_goals first
  | exact⟨E.cell rfl,E.free _⟩
  | exact⟨F.cell rfl,F.free _⟩
theorem Z7b {w:World}{A D:Nat}{x:Ask}{lev k:Int}{t:TypeId}(E:AskAt w A x)(F:Blk w D #[.int .i64 lev] t)(I:A≠D){p:Part}(J:p∈Qr k)(v:Int) :
  AskAt (w.setCell (Q1 A D p.ix) (.int .i64 v)) A (Y2 x p.ix v)∧Blk (w.setCell (Q1 A D p.ix) (.int .i64 v)) D #[.int .i64 (VQa lev p.ix v)] t:=by
 rcases Vv J with rfl|rfl|rfl|rfl|rfl|rfl|rfl|rfl|rfl
 all_goals first
  | exact⟨E.set _,F.other (p:=⟨A,_,none⟩) I _⟩
  | exact⟨E.other (p:=⟨D,0,none⟩) (fun e=>I e.symm) _,F.set _⟩
def Ur (l:List UInt8):Int:=l.foldl (fun n c=>256*n+(c.toNat:Int)) 0
theorem Yt (l:List UInt8)(c:UInt8):Ur (l++[c])=256*Ur l+(c.toNat:Int):=by simp[Ur]
theorem YZ (l:List UInt8):0≤Ur l∧Ur l<256 ^ l.length:=by
 induction h:l.length generalizing l with
 | zero=>obtain rfl:l=[]:=List.length_eq_zero_iff.1 h;exact⟨by decide,by decide⟩
 | succ n ih=>
  rcases List.eq_nil_or_concat l with rfl|⟨A,c,rfl⟩
  ·simp at h
  ·rw[List.concat_eq_append]at h ⊢;rw[Yt];have:=ih A (by simp at h;omega)
   have D:(c.toNat:Int)<256:=by have:=c.toNat_lt;omega
   rw[Int.pow_succ];omega
theorem YZa {l:List UInt8}(h:l.length≤3):Ur l<16777216:=by
 have A:=(YZ l).2
 have D:l.length=0∨l.length=1∨l.length=2∨l.length=3:=by omega
 rcases D with e|e|e|e<;>rw[e]at A<;>simp at A<;>omega
theorem Znc {N:Int}{c:UInt8}(h:0≤N)(A:N<16777216):bits .or .i64 (N*256) (c.toNat:Int)=256*N+(c.toNat:Int):=by
 obtain⟨a,rfl⟩:=Int.eq_ofNat_of_zero_le h;have F:=c.toNat_lt;have D:=(bits_nat .i64 40 (by decide) (fun n E A=>by rw[IntKind.wrap_i64];omega) (a*256) c.toNat (by omega) (by omega)).2;rw[show((a:Int)*256)=((a*256:Nat):Int)by simp,D,Nat.mul_comm,←Nat.two_pow_add_eq_or_of_lt (i:=8) (by omega) a];simp
def Zh (r:List UInt8×Bool) (m:Nat):Int×(List UInt8×Bool):=if r.1.length<m then (0,([],true))else (Ur (r.1.take m),(r.1.drop m,r.2))
def RdAt (w:World) (b:Nat) (r:List UInt8×Bool):Prop:=Blk w b #[.string ⟨r.1.toArray⟩,.bool r.2] 197
theorem QGa (b:Nat)(r:List UInt8×Bool)(m:Nat)(w:World)(hm:m≤4)(h:RdAt w b r) :
  Calls prog 139 #[.pointer (some ⟨b,0,none⟩),.int .i64 m] w fun e w'=>e=.returned (.int .i64 (Zh r m).1)∧RdAt w' b (Zh r m).2∧Kept (fun k=>k=b) w w':=by
 obtain⟨L,J⟩:=r;have g0:=Blk.cell h (j:=0) rfl;have g1:=Blk.cell h (j:=1) rfl;have f0:=Blk.free h 0;have f1:=Blk.free h 1;by_cases D:L.length<m
 ·have A:=yh (show Zh (L,J) m=(0,([],true))from M3 D);go_enter func139,ntmps139;go_wp2_with fail;go_ret;refine⟨by rw[A.out];rfl,?_,?_⟩
  ·rw[A.out];exact(Blk.set h _).set _
  ·exact((yk b w).setCell (p:=⟨b,0,none⟩) (.inl rfl) _).setCell (p:=⟨b,1,none⟩) (.inl rfl) _
 ·have A:=yh (show Zh (L,J) m=(Ur (L.take m),(L.drop m,J))from M2 D);have kc:=fun(W:World) (s:ByteArray)=>Lib.run_convert_string_bytes (P:=prog) W 9 250 5 s underlying9 underlying250 underlying5
  have ab:(L.take m).length=m:=by rw[J8];omega
  have ag:m≤L.length:=by omega
  go_enter func139,ntmps139;go_wp2_with fail
  go_loopg [5,29] m (fun gk nv i wr=>∃k:Nat,k≤m∧m-k≤gk∧i=.int .i64 k∧nv=.int .i64 (Ur (L.take k))∧wr=Lib.bytesWorld w 5 ((⟨L.toArray⟩:ByteArray).extract 0 m))
  case atStart=>exact⟨0,by omega,by omega,rfl,rfl,rfl⟩
  case round=>
   obtain⟨k,hk,ae,rfl,rfl,rfl⟩:=hrel;by_cases hl:k<m
   ·have I:L[k]? = some (L[k]'(by omega)):=J1 _;obtain⟨c,hc⟩:=yE (L[k]'(by omega));rw[←hc]at I
    have O:(⟨L.toArray⟩:ByteArray).extract 0 m=⟨(L.take m).toArray⟩:=by rw[ByteArray.extract_mk];rfl
    have gc:=Lib.bytesWorld_cell w 5 ((⟨L.toArray⟩:ByteArray).extract 0 m) k (by rw[O];show k<(L.take m).toArray.size;rw[List.size_toArray,ab];exact hl)
    rw[show(((⟨L.toArray⟩:ByteArray).extract 0 m).data.toList.getD k 0)=c by
     rw[O];simp[List.getD,hl,I]]at gc
    have F:=Yt (L.take k) c;rw[←Qo I]at F;have E:=YZ (L.take k)
    have ad:(c.toNat:Int)<256:=by have:=c.toNat_lt;omega
    have V:Ur (L.take k)<16777216:=YZa (by rw[J8];omega);obtain⟨N,U⟩:=yE (Ur (L.take k));rw[←U]at F E V ⊢;have Y:=yh F;have HN:=yh U;have ac:=E.1;have af:=Znc (c:=c) E.1 V;clear F U E hc I O;go_wp2_with fail;go_roundg (m-(k+1))
    case measure=>omega
    case rel=>exact⟨k+1,by omega,by omega,by go_num,by rw[Y.out],rfl⟩
   ·obtain rfl:k=m:=by omega
    have D:b<w.heap.size:=Blk.lt h;have k0:=(Lib.bytesWorld_old w 5 ((⟨L.toArray⟩:ByteArray).extract 0 k) ⟨b,0,none⟩ D).trans g0;have Q:Blk (Lib.bytesWorld w 5 ((⟨L.toArray⟩:ByteArray).extract 0 k)) b #[.string ⟨L.toArray⟩,.bool J] 197:=(Lib.bytesWorld_at_old _ _ _ _ D).trans h;have f2:=Q.free 0;have X:=yh Q;clear Q;go_wp2_with fail;go_ret
    have Z:(⟨L.toArray⟩:ByteArray).extract k L.length=⟨(L.drop k).toArray⟩:=by rw[ByteArray.extract_mk,M1 (by simp)]
    refine⟨by rw[A.out];rfl,?_,?_⟩
    ·rw[A.out,Z];exact X.set (j:=0) _
    ·have aa:Kept (fun k=>k=b) w (Lib.bytesWorld w 5 ((⟨L.toArray⟩:ByteArray).extract 0 k)):=
      ⟨rfl,rfl,rfl,by rw[Lib.bytesWorld_size];omega,fun j hj _=>Lib.bytesWorld_at_old _ _ _ _ hj⟩
     exact aa.setCell (p:=⟨b,0,none⟩) (.inl rfl) _
def zf (l:List Part) (x:Ask):Ask:=l.foldl (fun y p=>Y2 y p.ix 0) x
theorem QQc (l:List Part)(x:Ask)(p:Part):zf (l++[p]) x=Y2 (zf l x) p.ix 0:=by simp[zf]
def Va (x:Ask):Ask:={ zf (Qr x.kind) x with level:=if (Qr x.kind).any (fun p=>p.ix==4)then false else x.level }
def YD (x:Ask):Bool:=decide (Va x={ (default:Ask)with number:=x.number,kind:=x.kind })
theorem Upb (l:List Part)(x:Ask):(zf l x).level=x.level∧(zf l x).number=x.number∧(zf l x).kind=x.kind:=by
 have A:∀(l:List Part) (x y:Ask),y.level=x.level∧y.number=x.number∧y.kind=x.kind→(l.foldl (fun y p=>Y2 y p.ix 0) y).level=x.level∧(l.foldl (fun y p=>Y2 y p.ix 0) y).number=x.number∧(l.foldl (fun y p=>Y2 y p.ix 0) y).kind=x.kind:=by
  intro l
  induction l with
  | nil=>intro x y h;exact h
  | cons p l ih=>intro x y h;rw[List.foldl_cons];exact ih x _ h
 exact A l x x ⟨rfl,rfl,rfl⟩
theorem UHa (O Q:Nat)(A:Option Addr)(n cap:Nat)(l:List Part)(g:Nat)(lb:Array Value)(p:Part→Bool)(w:World)(h:Sl (Vha O Q) 3 w All A n cap l)
  (eg:∀W w,(callFunc g W).run prog w=.ok (.enter g W) w)
  (X:∀(x:Part) (w1:World),x∈l→yw w w1→Calls prog g (#[.agg #[.int .i64 x.bytes,.int .i64 x.most,.pointer (some (Q1 O Q x.ix))]]++lb) w1 fun e w'=>e=.returned (.bool (p x))∧yw w1 w') :
  Calls prog 237 #[.slice A n cap,.func (.func g) #[] lb] w fun e w'=>e=.returned (.int .i64 (UD p l))∧yw w w':=by
 have Hp:=yh X;clear X;have aa:=h.bd;go_enter func237,ntmps237;go_wp2_with fail
 go_loopg [8] n (fun gk i wr=>∃k:Nat,k≤n∧n-k≤gk∧i=.int .i64 k∧Aside ((l.take k).any p=false)∧yw w wr)
 case atStart=>exact⟨0,M0 _,by omega,rfl,rfl,J4 _ _⟩
 case round=>
  obtain⟨k,hk,ab,rfl,I,D⟩:=hrel;by_cases hlt:k<n
  ·obtain⟨b,ac,x,c0,c1,c2,rfl,U,F,g0,g1,g2⟩:=(h.below (Xt O Q) (by omega) D).at3 hlt;obtain⟨F,hw⟩:=F;simp only[List.cons.injEq,and_true]at F;obtain⟨rfl,rfl,rfl⟩:=F;have V:=yh U;have Y:=yh (J6 U);clear U;have E:=fun w1 (ae:yw w w1)=>Hp x w1 Y ae
   cases hq:p x with
   | true=>
    rw[hq]at E;have J:=yh hq;clear hq;go_wp2_with (go_at_fn g;refine yM (E _ D) fun w1 ae=>?_;replace ae:=D.trans (ae.mono D.size);clear E);go_ret;exact⟨ZN (VA I V J).symm,ae⟩
   | false=>
    rw[hq]at E;have J:=yh hq;clear hq;go_wp2_with (go_at_fn g;refine yM (E _ D) fun w1 ae=>?_;replace ae:=D.trans (ae.mono D.size);clear E);go_roundg (n-(k+1))
    case measure=>omega
    case rel=>exact⟨k+1,by omega,by omega,by go_num,by show _=_;rw[Qu V.out,I,J.out];rfl,ae⟩
  ·have:k=n:=by omega
   subst this;have Z:=yh (M1 (Nat.le_of_eq h.len));go_wp2_with fail;go_ret;exact⟨ZN (by rw[ZK (by rw[←Z.out];exact I)]),D⟩
theorem QQa (W D:Nat)(A:Option Addr)(n cap:Nat)(l:List Part)(g:Nat)(lb:Array Value)(p:Part→Bool)(w:World)(h:Sl (Vha W D) 3 w All A n cap l)
  (O:∀E w,(callFunc g E).run prog w=.ok (.enter g E) w)
  (F:∀(x:Part) (w1:World),x∈l→yw w w1→Calls prog g (#[.agg #[.int .i64 x.bytes,.int .i64 x.most,.pointer (some (Q1 W D x.ix))]]++lb) w1 fun e w'=>e=.returned (.bool (p x))∧yw w1 w') :
  Calls prog 204 #[.slice A n cap,.func (.func g) #[] lb] w fun e w'=>e=.returned (.bool (l.any p))∧yw w w':=by
 have I:=UHa W D A n cap l g lb p w h O F;clear F;go_enter func204,ntmps204;go_wp2_with fail;refine yM I fun w1 Q=>?_;have J:=yh (VH (p:=p) (l:=l));have U:=Yp (p:=p) (l:=l) (by have:=h.bd;have:=h.len;omega);go_wp2_with fail;go_ret;exact⟨Ux J,Q⟩
theorem AskAt.all {w:World}{b:Nat}{x:Ask}(h:AskAt w b x) :
  yI w b 0 x.number∧yI w b 1 x.kind∧yI w b 2 x.id∧yI w b 3 x.guests∧w.cell? ⟨b,4,none⟩=some (.bool x.level)∧
  yI w b 5 x.cabin∧yI w b 6 x.category∧yI w b 7 x.frm∧yI w b 8 x.upto∧yI w b 9 x.til∧
  yI w b 10 x.amount:=
 ⟨h.cell rfl,h.cell rfl,h.cell rfl,h.cell rfl,h.cell rfl,h.cell rfl,h.cell rfl,h.cell rfl,h.cell rfl,h.cell rfl,h.cell rfl⟩
theorem Xvb:∃j,Tryz.prog.info? 3=some j∧j.size≠0:=by
 have E:(Tryz.prog.info? 3).isSome=true:=by kernel_rfl
 have D:((Tryz.prog.info? 3).map fun j=>decide (j.size≠0))=some true:=by kernel_rfl
 obtain⟨j,A⟩:=Option.isSome_iff_exists.1 E;rw[A]at D;exact⟨j,A,by simpa using D⟩
theorem UEb (D A:Nat)(p:Part)(y:Ask)(w:World)(W:D≠A)(U:AskAt w D y)(V:Blk w A #[.int .i64 0] 3) :
  Calls prog 205 #[.agg #[.int .i64 p.bytes,.int .i64 p.most,.pointer (some (Q1 D A p.ix))],.pointer (some ⟨A,0,none⟩)] w fun e w'=>e=.returned (.bool (p.ix==4))∧yw w w':=by
 obtain⟨j,J,Q⟩:=Xvb;have E:=U.bel (Qi w (.cells #[.int .i64 p.bytes,.int .i64 p.most,.pointer (some (Q1 D A p.ix))] 194));have F:=V.bel (Qi w (.cells #[.int .i64 p.bytes,.int .i64 p.most,.pointer (some (Q1 D A p.ix))] 194));by_cases h:p.ix=4
 ·have I:Q1 D A p.ix=⟨A,0,none⟩:=by unfold Q1;rw[M3 h]
  have O:=yh (show(p.ix==4)=true by simpa using h);rw[I]at E F ⊢;have X:=run_eql_ptr_same (P:=prog) (w.alloc (.cells #[.int .i64 p.bytes,.int .i64 p.most,.pointer (some ⟨A,0,none⟩)] 194)) ⟨A,0,none⟩ underlying192 J;clear h I E F J Q;go_enter func205,ntmps205;go_wp2_with fail;go_ret;exact⟨Ux (by rw[O.out]),Qi _ _⟩
 ·have I:Q1 D A p.ix=⟨D,p.ix,none⟩:=by unfold Q1;rw[M2 h]
  have O:=yh (show(p.ix==4)=false by simpa using h);rw[I]at E F ⊢;have X:=run_eql_ptr_other (P:=prog) (w.alloc (.cells #[.int .i64 p.bytes,.int .i64 p.most,.pointer (some ⟨D,p.ix,none⟩)] 194)) (a:=⟨D,p.ix,none⟩) (b:=⟨A,0,none⟩) underlying192 J Q (fun e=>W (congrArg Addr.block e)) E F;clear h I E F J Q;go_enter func205,ntmps205;go_wp2_with fail;go_ret;exact⟨Ux (by rw[O.out]),Qi _ _⟩
def UBb (a b:Ask):Bool:=decide (a=b)
theorem XQa (a b:Ask)(W:World):(binOp .eql 53 (.agg (QY a)) (.agg (QY b))).run prog W=.ok (.bool (UBb a b)) W:=by
 unfold UBb;obtain⟨A,D,F,I,J,O,Q,U,V,a9,E⟩:=a;obtain⟨X,Y,b2,b3,b4,b5,b6,b7,b8,b9,Z⟩:=b;unfold QY;simp only[Ask.mk.injEq];go_simp
 repeat' split
 all_goals simp_all
theorem VVb (x:Ask)(w:World):Calls prog 140 #[.agg (QY x)] w fun e w'=>e=.returned (.bool (YD x))∧yw w w':=by
 unfold QY;go_enter func140,ntmps140;go_upto_region 1 with(fail);go_cut [1,3,4] (fun a b c wx=>∃O b1 D,yp a O∧yp b b1∧yp c D∧AskAt wx O x∧AskAt wx b1 x∧Blk wx D #[.int .i64 0] 3∧yw w wx∧w.heap.size≤b1∧w.heap.size≤D∧O≠b1∧O≠D∧b1≠D)
 case first=>as_aux_lemma=>
  go_wp2_with fail;go_meet;exact⟨_,_,_,rfl,rfl,rfl,Vc _ _ _ _,Vd _ _ _ _,Ve _ _ _ _,X0 _ _ _ _,by omega,by omega,by omega,by omega,by omega⟩
 obtain⟨O,b1,D,rfl,rfl,rfl,X,E,J,F,aj,an,ay,az,ah⟩:=hcut;go_wp2_with fail;refine(Qba b1 D x.kind _ (E.cell rfl)).mono ?_;rintro e w2 ⟨A,n,cap,rfl,Y,aC⟩;have aw:=Blk.lt E;have ax:=J.lt;replace X:=X.bel aC;replace E:=E.bel aC;replace J:=J.bel aC;replace F:=F.trans (aC.mono F.size);have am:=Blk.lt X;have au:=Blk.lt E;have av:=J.lt;clear aC;obtain⟨I,ad⟩:=yE (Qr x.kind);rw[←ad]at Y;have ae:=yh ad;clear ad;have aq:=Y.bd;go_wp2_with fail
 go_loopg [16] n (fun gk i wr=>∃k:Nat,k≤n∧n-k≤gk∧i=.int .i64 k∧AskAt wr b1 (zf (I.take k) x)∧Blk wr D #[.int .i64 0] 3∧Kept (fun j=>j=b1∨j=D) w2 wr)
 case atStart=>exact⟨0,M0 _,by omega,rfl,E,J,Kept.refl _ _⟩
 case round=>
  obtain⟨k,hk,ar,rfl,E,J,hK⟩:=hrel;have ab:=Y.kept hK (fun b _ hT=>by have hT:wc.heap.size≤b:=hT;rintro(rfl|rfl)<;>omega);by_cases hlt:k<n
  ·obtain⟨b,aA,p,c0,c1,c2,rfl,hx,⟨hc,_⟩,g0,g1,g2⟩:=ab.at3 hlt;simp only[List.cons.injEq,and_true]at hc;obtain⟨rfl,rfl,rfl⟩:=hc
   have Z:p∈Qr x.kind:=by rw[←ae.out];exact J6 hx
   have aa:=Qi wr (.cells #[.int .i64 p.bytes,.int .i64 p.most,.pointer (some (Q1 b1 D p.ix))] 194);have hP:=X1a (E.bel aa) (J.bel aa) Z;have ao:=hP.1;have ap:=hP.2;have hN:=Z7b (E.bel aa) (J.bel aa) ah Z 0;have HN:=yh hN;have HZ:=yh (show zf (I.take (k+1)) x=Y2 (zf (I.take k) x) p.ix 0 by rw[Qo hx,QQc]);have HM:=yh Z;clear hx hN hP Z ab;go_wp2_with fail;go_roundg (n-(k+1))
   case measure=>omega
   case rel=>
    refine⟨k+1,by omega,by omega,by go_num,by rw[HZ.out];exact HN.1,?_,?_⟩
    ·have:=HN.2
     rwa [show VQa 0 p.ix 0=0 by unfold VQa;split<;>rfl]at this
    ·refine(hK.alloc _).setCell (.inl ?_) _;unfold Q1;split
     ·exact .inr rfl
     ·exact .inl rfl
  ·obtain rfl:k=n:=by omega
   have HT:=yh (show I.take k=I from M1 (Nat.le_of_eq Y.len));have al:=hK.below (B:=w.heap.size) F.size (by rintro j hj (rfl|rfl)<;>omega);replace F:=F.trans al;have ag:=QQa b1 D A k cap I 205 #[.pointer (some ⟨D,0,none⟩)] (fun p=>p.ix==4) wr (ab.all (Xt _ _) (by omega)) (enters_of func205 (by kernel_rfl) rfl) (fun p w1 _ af=>UEb b1 D p _ w1 ah (E.bel af) (J.bel af));have HC:=yh ag;clear ag;go_wp2_with fail;refine yM HC fun w3 ac=>?_
   have ak:AskAt w3 O x:=(hK.block O am (by rintro(h|h)<;>omega)).trans X |> fun h=>AskAt.bel h ac
   have V:=E.bel ac;rw[HT.out]at V;obtain⟨a0,a1,_⟩:=ak.all
   have U:Va x={ zf I x with level:=if I.any (fun p=>p.ix==4)then false else x.level }:=by rw[ae.out];rfl
   replace F:=F.trans (ac.mono F.size)
   cases q:I.any (fun p=>p.ix==4)with
   | true=>
    rw[M3 q]at U;obtain⟨y,Q⟩:=yE (Va x);have HB:=yh (show YD x=UBb y ⟨x.number,x.kind,0,0,false,0,0,0,0,0,0⟩by rw[Q];rfl);have f4:=V.free 4;have g4:=V.cell (j:=4) rfl
    have hC:AskAt (w3.setCell ⟨b1,4,none⟩ (.bool false)) b1 y:=by rw[Q,U];exact V.set _
    obtain⟨c0,c1,c2,c3,c4,c5,c6,c7,c8,c9,ai⟩:=hC.all;have kq:=fun W=>XQa y ⟨x.number,x.kind,0,0,false,0,0,0,0,0,0⟩ W;dsimp only[QY]at kq;clear U Q q;go_wp2_with fail;go_ret;exact⟨Ux HB.symm,F.setCell (p:=⟨b1,4,none⟩) aj _⟩
   | false=>
    rw[M2 (by simp[q])]at U;obtain⟨y,Q⟩:=yE (Va x);have HB:=yh (show YD x=UBb y ⟨x.number,x.kind,0,0,false,0,0,0,0,0,0⟩by rw[Q];rfl)
    have hC:AskAt w3 b1 y:=by
     rw[Q,U,←(Upb I x).1];exact V
    obtain⟨c0,c1,c2,c3,c4,c5,c6,c7,c8,c9,ai⟩:=hC.all;have kq:=fun W=>XQa y ⟨x.number,x.kind,0,0,false,0,0,0,0,0,0⟩ W;dsimp only[QY]at kq;clear U Q q;go_wp2_with fail;go_ret;exact⟨Ux HB.symm,F⟩
def VO (x:Ask) (p:Part):Bool:=Qc (XU x 0 p.ix) 0 p.most
def QS (x:Ask):Int:=
 if Qc x.kind 1 8=false then 7 else if Qc x.number 1 65535=false then 3 else if YD x=false then 1 else if (Qr x.kind).all (VO x)then 0 else 3
theorem Vx {α:Type}{p:α→Bool}{l:List α}{k:Nat}{x:α}(A:l[k]? = some x):(l.take (k+1)).all p=((l.take k).all p && p x):=by rw[Qo A];simp
theorem XOa {α:Type}{p:α→Bool}{l:List α}{k:Nat}{x:α}(D:l[k]? = some x)(A:p x=false):l.all p=false:=by
 rw[List.all_eq_false];exact⟨x,J6 D,by simp[A]⟩
theorem Vy (x:Ask)(w:World):Calls prog 61 #[.agg (QY x)] w fun e w'=>e=.returned (.int .i64 (QS x))∧yw w w':=by
 obtain⟨r,hr⟩:=yE (QS x);rw[←hr];have HR:=yh hr;clear hr;unfold QY;go_enter func61,ntmps61;go_upto_region 1 with(fail);go_cut [1,3] (fun a b wx=>∃F I,yp a F∧yp b I∧AskAt wx F x∧Blk wx I #[.int .i64 0] 3∧yw w wx∧w.heap.size≤F∧w.heap.size≤I∧F≠I)
 case first=>as_aux_lemma=>
  go_wp2_with fail;go_meet;exact⟨_,_,rfl,rfl,QE _ _ _,QF _ _ _,Zo _ _ _,by omega,by omega,by omega⟩
 obtain⟨F,I,rfl,rfl,J,Q,hb,aj,ak,an⟩:=hcut;go_wp2_with fail;refine(Qba F I x.kind _ (J.cell rfl)).mono ?_;rintro e w2 ⟨A,n,cap,rfl,E,V⟩;have E:=E.all (Xt _ _) (by omega);replace J:=J.bel V;replace Q:=Q.bel V;replace hb:=hb.trans (V.mono hb.size);clear V;obtain⟨O,ab⟩:=yE (Qr x.kind);rw[←ab]at E;have ae:=yh ab;clear ab;have al:=E.bd;obtain⟨c0,c1,c2,c3,c4,c5,c6,c7,c8,c9,ah⟩:=J.all
 cases q_HK:Qc x.kind 1 8<;>have HK:=yh q_HK<;>clear q_HK
 ·obtain rfl:r=7:=by rw[HR.out];unfold QS;rw[M3 HK.out]
  go_wp2_with fail;go_ret;exact⟨rfl,hb⟩
 have aq:=yh (show r=if Qc x.number 1 65535=false then 3 else if YD x=false then 1 else if O.all (VO x)then 0 else 3 by
  rw[HR.out];unfold QS;rw[M2 (by rw[HK.out];simp),ae.out])
 by_cases hn1:x.number<1
 ·obtain rfl:r=3:=by rw[aq.out,M3 (QM (.inl hn1))]
  go_wp2_with fail;go_ret;exact⟨rfl,hb⟩
 by_cases hn2:65535<x.number
 ·obtain rfl:r=3:=by rw[aq.out,M3 (QM (.inr hn2))]
  go_wp2_with fail;go_ret;exact⟨rfl,hb⟩
 have af:=yh (show r=if YD x=false then 1 else if O.all (VO x)then 0 else 3 by
  rw[aq.out,M2 (by rw[Zg (by omega) (by omega)];simp)])
 have aa:=fun W=>VVb x W;dsimp only[QY]at aa;have ag:=yh aa;clear aa;go_wp2_with fail;refine yM (ag _) fun w3 D=>?_;replace hb:=hb.trans (D.mono hb.size);replace J:=J.bel D;replace Q:=Q.bel D;replace E:=E.bel D;clear D c0 c1 c2 c3 c4 c5 c6 c7 c8 c9 ah hn1 hn2
 cases q_HBB:YD x<;>have ad:=yh q_HBB<;>clear q_HBB
 ·obtain rfl:r=1:=by rw[af.out,M3 ad.out]
  go_wp2_with fail;go_ret;exact⟨rfl,hb⟩
 have X:=yh (show r=if O.all (VO x)then 0 else 3 by rw[af.out,M2 (by rw[ad.out];simp)]);go_wp2_with fail
 go_loopg [30] n (fun gk i wr=>∃k:Nat,k≤n∧n-k≤gk∧i=.int .i64 k∧Aside ((O.take k).all (VO x)=true)∧yw w3 wr)
 case atStart=>exact⟨0,M0 _,by omega,rfl,rfl,J4 _ _⟩
 case round=>
  obtain⟨k,hk,am,rfl,HA,D⟩:=hrel;by_cases hlt:k<n
  ·obtain⟨b,ao,p,d0,d1,d2,rfl,hx,⟨hc,_⟩,g0,g1,g2⟩:=(E.bel D).at3 hlt;simp only[List.cons.injEq,and_true]at hc;obtain⟨rfl,rfl,rfl⟩:=hc
   have ac:p∈Qr x.kind:=by rw[←ae.out];exact J6 hx
   have U:=D.alloc D.size (.cells #[.int .i64 p.bytes,.int .i64 p.most,.pointer (some (Q1 F I p.ix))] 194);have hP:=(X1a (J.bel U) (Q.bel U) ac).1;obtain⟨v,hv⟩:=yE (XU x 0 p.ix);rw[←hv]at hP;have Z:=yh hx;have Y:=yh (show VO x p=Qc v 0 p.most by rw[hv];rfl);have HM:=yh ac;clear hx ac hv;by_cases hv0:v<0
   ·obtain rfl:r=3:=by rw[X.out,M2 (by rw[XOa Z.out (by rw[Y.out];exact QM (.inl hv0))];simp)]
    have hd:decide (v<0)=true:=J2 hv0;go_wp2_with fail;go_quiet (fail);go_wp2_with fail;go_ret;exact⟨rfl,hb.trans ((below_drewN U _).mono hb.size)⟩
   have hd:decide (v<0)=false:=J3 hv0;by_cases hv1:p.most<v
   ·obtain rfl:r=3:=by rw[X.out,M2 (by rw[XOa Z.out (by rw[Y.out];exact QM (.inr hv1))];simp)]
    have ai:decide (p.most<v)=true:=J2 hv1;go_wp2_with fail;go_quiet (fail);go_wp2_with fail;go_ret;exact⟨rfl,hb.trans ((below_drewN U _).mono hb.size)⟩
   have ai:decide (p.most<v)=false:=J3 hv1;have HH:=yh (show VO x p=true by rw[Y.out];exact Zg (by omega) (by omega));go_wp2_with fail;go_quiet (fail);go_wp2_with fail;go_roundg (n-(k+1))
   case measure=>omega
   case rel=>exact⟨k+1,by omega,by omega,by go_num,(show Aside _ from by show _=_;rw[Vx Z.out,HA,HH.out];rfl),below_drewN U _⟩
  ·obtain rfl:k=n:=by omega
   have HT:=yh (show O.take k=O from M1 (Nat.le_of_eq E.len))
   obtain rfl:r=0:=by rw[X.out,M3 (by rw[←HT.out];exact HA)]
   go_wp2_with fail;go_ret;exact⟨rfl,hb.trans (D.mono hb.size)⟩
def Y6b (x:Ask):Int:=if x.level then 1 else 0
theorem XDb (x:Ask){k:Int}{p:Part}(A:p∈Qr k):XU x (Y6b x) p.ix=fld x p.ix:=by
 rcases Vv A with rfl|rfl|rfl|rfl|rfl|rfl|rfl|rfl|rfl<;>rfl
theorem Yw {k:Int}{p:Part}(A:p∈Qr k):∃m:Nat,p.bytes=(m:Int)∧1≤m∧m≤4:=by
 rcases Vv A with rfl|rfl|rfl|rfl|rfl|rfl|rfl|rfl|rfl
 all_goals first
  | exact⟨1,rfl,by omega,by omega⟩
  | exact⟨2,rfl,by omega,by omega⟩
  | exact⟨3,rfl,by omega,by omega⟩
  | exact⟨4,rfl,by omega,by omega⟩
def Yb (x:Ask) (p:Part):List UInt8:=Zu (fld x p.ix) p.bytes.toNat
def Qra (x:Ask):List UInt8:=Zu x.kind 1++Zu x.number 2
def YGa (x:Ask):List UInt8:=Qra x++(Qr x.kind).flatMap (Yb x)
theorem Ulb (a b:List UInt8):(⟨a.toArray⟩:ByteArray)++⟨b.toArray⟩=⟨(a++b).toArray⟩:=ByteArray.mk_append_mk a b
theorem Xkb (x:Ask)(l:List Part)(h:∀p∈l,p.bytes.toNat≤4):(l.flatMap (Yb x)).length≤4*l.length:=by
 induction l with
 | nil=>simp
 | cons p l ih=>
  rw[List.flatMap_cons,J9,List.length_cons];have D:=ih fun q A=>h q (List.mem_cons_of_mem _ A)
  have E:(Yb x p).length≤4:=by unfold Yb;rw[UP];exact h p (List.mem_cons_self ..)
  omega
theorem Qxb (x:Ask)(w:World):Calls prog 57 #[.agg (QY x)] w fun e w'=>
  e=.returned (.tuple #[.string ⟨(okL (QS x) (YGa x)).toArray⟩,.int .i64 (QS x)])∧yw w w':=by
 obtain⟨r,hr⟩:=yE (QS x);have ae:=fun W=>Vy x W;rw[←hr]at ae ⊢;dsimp only[QY]at ae ⊢;have HC:=yh ae;clear ae;clear hr;go_enter func57,ntmps57;go_upto_region 0 with(fail);go_cut [1] (fun a J=>∃I,yp a I∧AskAt J I x∧yw w J∧w.heap.size≤I)
 case first=>as_aux_lemma=>
  go_wp2_with fail;go_meet;exact⟨_,rfl,Zk _ _,Qi _ _,by omega⟩
 obtain⟨I,rfl,D,hb,aA⟩:=hcut;obtain⟨c0,c1,c2,c3,c4,c5,c6,c7,c8,c9,aw⟩:=D.all;go_wp2_with fail;refine yM (HC _) fun w2 E=>?_;replace hb:=hb.trans (E.mono hb.size);replace D:=D.bel E;clear E c0 c1 c2 c3 c4 c5 c6 c7 c8 c9 aw;by_cases h0:¬r=0
 ·have aC:(r !=0)=true:=by simpa using h0
  have H0:=yh h0;clear h0;go_wp2_with fail;go_ret2;exact⟨by rw[Yu H0.out];rfl,hb⟩
 have h0:r=0:=by omega
 subst h0;have aq:=hb.alloc hb.size (.cells #[.int .i64 0] 3);have aa:=D.bel (Qi w2 (.cells #[.int .i64 0] 3));obtain⟨_,_,_,_,c4,_⟩:=aa.all;obtain⟨q,hq⟩:=yE x.level;have al:Y6b x=if x.level then 1 else 0:=rfl;rw[←hq]at c4 al;have HL:=yh al;clear al;clear hq;go_upto_if 17 with(fail);go_cut [5] (fun a J=>∃O,yp a O∧AskAt J I x∧Blk J O #[.int .i64 (Y6b x)] 3∧yw w J∧w.heap.size≤O∧I≠O)
 case first=>
  have ar:=Blk.lt D;have au:=hb.size;have hN:=Blk.new w2 #[.int .i64 0] 3;have HB:=yh aa;have HN:=yh hN;clear aa hN;cases q
  ·go_wp2_with fail;go_meet;exact⟨_,rfl,HB,by rw[HL.out];exact HN,aq,au,by omega⟩
  ·go_wp2_with fail;go_meet;exact⟨_,rfl,D.bel (Qi _ _),by rw[show Y6b x=1 by rw[HL.out];rfl];exact Blk.new _ _ _,hb.alloc hb.size _,au,by omega⟩
 clear hb aq D aa c4;obtain⟨O,rfl,D,X,hb,aB,aM⟩:=hcut;obtain⟨k0,k1,_⟩:=D.all;have l1:=UP 1 x.kind;have l2:=UP 2 x.number;have hs:Qra x=Zu x.kind 1++Zu x.number 2:=rfl;obtain⟨L1,ap⟩:=yE (Zu x.kind 1);obtain⟨L2,V⟩:=yE (Zu x.number 2);have ai:∀W,Calls prog 137 #[.int .i64 x.kind,.int .i64 1] W fun e w'=>e=.returned (.string ⟨(Zu x.kind 1).toArray⟩)∧yw W w':=fun W=>ZAa x.kind 1 W (by omega);have aj:∀W,Calls prog 137 #[.int .i64 x.number,.int .i64 2] W fun e w'=>e=.returned (.string ⟨(Zu x.number 2).toArray⟩)∧yw W w':=fun W=>ZAa x.number 2 W (by omega);rw[←ap]at l1 hs ai;rw[←V]at l2 hs aj;have am:=yh ai;clear ai;have an:=yh aj;clear aj;have HS:=yh hs;clear hs;clear ap V;go_upto_region 7 with(fail);go_cut [6] (fun a J=>a=.string ⟨(Qra x).toArray⟩∧yw wc J)
 case first=>as_aux_lemma=>
  have ac:yw wc wc.drew:=(J4 _ wc).drew
  go_region_with (first
   | (go_at_call_of 137 (Value.int IntKind.i64 x.number);first
     | (refine yM (an wn) fun wm ag=>?_;have ad:=U.trans (ag.mono U.size))
     | (refine yM (an _) fun wn ah=>?_;have U:=ac.trans (ah.mono ac.size);obtain⟨m0,m1,_⟩:=(D.bel U).all))
   | (go_at_call_of 137 (Value.int IntKind.i64 x.kind);first
     | (refine yM (am wn) fun wm ag=>?_;have ad:=U.trans (ag.mono U.size))
     | (refine yM (am _) fun wn ah=>?_;have U:=ac.trans (ah.mono ac.size);obtain⟨m0,m1,_⟩:=(D.bel U).all)))
  all_goals
   go_wp2_with fail;go_meet;exact⟨by rw[HS.out,Ulb],ad⟩
 obtain⟨rfl,E⟩:=hcut;replace hb:=hb.trans (E.mono hb.size);replace D:=D.bel E;replace X:=X.bel E
 have aH:(Qra x).length=3:=by rw[HS.out,J9,l1,l2]
 clear E k0 k1;go_wp2_with fail;refine(Qba I O x.kind _ (D.cell rfl)).mono ?_;rintro e w3 ⟨A,n,cap,rfl,Q,E⟩;have Q:=Q.all (Xt _ _) (by omega);replace D:=D.bel E;replace X:=X.bel E;replace hb:=hb.trans (E.mono hb.size);clear E;obtain⟨F,Z⟩:=yE (Qr x.kind)
 have he:YGa x=Qra x++F.flatMap (Yb x):=by rw[Z];rfl
 have aL:F.length≤7:=by rw[Z];unfold Qr;(repeat' split)<;>simp
 rw[←Z]at Q;have ao:=yh Z;clear Z;have HE:=yh he;clear he;have aE:=Q.bd;have aI:=Q.len;go_wp2_with fail
 go_loopg [6,31] n (fun gk s i wr=>∃k:Nat,k≤n∧n-k≤gk∧i=.int .i64 k∧s=.string ⟨(Qra x++(F.take k).flatMap (Yb x)).toArray⟩∧yw w3 wr)
 case atStart=>exact⟨0,M0 _,by omega,rfl,by simp,J4 _ _⟩
 case round=>
  obtain⟨k,hk,aF,rfl,rfl,ab⟩:=hrel;by_cases ar:k<n
  ·obtain⟨b,aN,p,d0,d1,d2,rfl,hx,⟨hc,_⟩,g0,g1,g2⟩:=(Q.bel ab).at3 ar;simp only[List.cons.injEq,and_true]at hc;obtain⟨rfl,rfl,rfl⟩:=hc
   have af:p∈Qr x.kind:=by rw[←ao.out];exact J6 hx
   have Y:=ab.alloc ab.size (.cells #[.int .i64 p.bytes,.int .i64 p.most,.pointer (some (Q1 I O p.ix))] 194);have hP:=(X1a (D.bel Y) (X.bel Y) af).1;rw[XDb x af]at hP;obtain⟨m,hm,aK,az⟩:=Yw af;obtain⟨v,hv⟩:=yE (fld x p.ix);rw[←hv]at hP;rw[hm]at g0 Y hP
   have HX:=yh (show Qra x++(F.take (k+1)).flatMap (Yb x)=Qra x++(F.take k).flatMap (Yb x)++Zu v m by
    rw[Qo hx,List.flatMap_append,List.append_assoc,hv];simp[Yb,hm])
   have ay:((F.take k).flatMap (Yb x)).length≤4*k:=by
    have:=Xkb x (F.take k) fun q hq=>by
     obtain⟨m',aJ,_,h4⟩:=Yw (k:=x.kind) (by rw[←ao.out];exact List.mem_of_mem_take hq);omega
    have:=List.length_take_le k F;omega
   obtain⟨L,V⟩:=yE (Qra x++(F.take k).flatMap (Yb x))
   have aD:L.length≤3+4*k:=by rw[V,J9];omega
   have aG:k≤7:=by omega
   rw[←V]at HX ⊢;have ad:=UP m v;obtain⟨M,hM⟩:=yE (Zu v m);have ak:=fun W=>ZAa v m W az;rw[←hM]at HX ad ak;have av:=yh ak;clear ak;clear hx af hv hm hM V ay;go_wp2_with fail;go_region_with (go_at_call 137;refine yM (av _) fun w4 ax=>?_)
   all_goals go_wp2_with fail
   all_goals go_roundg (n-(k+1))
   all_goals first
    | omega
    | exact⟨k+1,by omega,by omega,by go_num,by rw[HX.out,Ulb],Y.drew.trans (ax.mono Y.size)⟩
  ·obtain rfl:k=n:=by omega
   have HT:=yh (show F.take k=F from M1 (Nat.le_of_eq Q.len));go_wp2_with fail;go_ret2;exact⟨by rw[QR,HE.out,HT.out];rfl,hb.trans (ab.mono hb.size)⟩
abbrev Dec:=Ask×Int×(List UInt8×Bool)
def Vf (d:Dec) (p:Part):Dec:=(Y2 d.1 p.ix (Zh d.2.2 p.bytes.toNat).1,VQa d.2.1 p.ix (Zh d.2.2 p.bytes.toNat).1,(Zh d.2.2 p.bytes.toNat).2)
def ZS:Ask:=⟨0,0,0,0,false,0,0,0,0,0,0⟩
def ZE (s:List UInt8):Dec:=(⟨(Zh (Zh (s,false) 1).2 2).1,(Zh (s,false) 1).1,0,0,false,0,0,0,0,0,0⟩,0,(Zh (Zh (s,false) 1).2 2).2)
def ZJ (l:List Part) (d:Dec):Dec:=l.foldl Vf d
theorem Xia {l:List Part}{k:Nat}{p:Part}(d:Dec)(h:l[k]? = some p):ZJ (l.take (k+1)) d=Vf (ZJ (l.take k) d) p:=by rw[Qo h];simp[ZJ]
def UM (s:List UInt8):Dec:=ZJ (Qr (ZE s).1.kind) (ZE s)
def Vr (d:Dec):Ask:={ d.1 with level:=d.2.1==1 }
def VM (d:Dec) (k:Int):Bool:=Qc k 1 8==false || d.2.2.2 || decide (d.2.2.1≠[]) || decide (1<d.2.1)
def Ue (s:List UInt8):Ask×Int:=if VM (UM s) (ZE s).1.kind then (ZS,1)else if QS (Vr (UM s))≠0 then (ZS,QS (Vr (UM s)))else (Vr (UM s),0)
theorem UNb (l:List Part)(d:Dec):(ZJ l d).1.kind=d.1.kind:=by
 unfold ZJ
 induction l generalizing d with
 | nil=>rfl
 | cons p l ih=>rw[List.foldl_cons,ih];rfl
theorem RdAt.bel {w w':World}{b:Nat}{r:List UInt8×Bool}(h:RdAt w b r)(A:yw w w'):RdAt w' b r:=Blk.bel h A
theorem AskAt.kept {S:Nat→Prop}{w w':World}{b:Nat}{x:Ask}(h:AskAt w b x)(D:Kept S w w')(A:¬S b):AskAt w' b x:=Blk.kept h D A
theorem YSa {w:World}{b:Nat}{x:Ask}(h:AskAt w b x):(loadVar 53 ⟨b,0,none⟩).run prog w=.ok (.agg (QY x)) w:=by
 obtain⟨A,D,F,I,J,O,Q,U,V,W,E⟩:=h.all;unfold QY;go_simp
theorem UF {w:World}{b:Nat}{x:Ask}{e:Int}{D:Func}{A:Array Value}(I:D.results=#[.cell 2 53,.tmp 3])(h:AskAt w b x)(E:A.getD 2 undef=.pointer (some ⟨b,0,none⟩))(F:A.getD 3 undef=.int .i64 e) :
  (results D A).run prog w=.ok (.tuple #[.agg (QY x),.int .i64 e]) w:=by
 rw[results_cell_tmp (p:=2) (u:=3) (ty:=53) I,E,F];simp[asAddr,YSa h,Sem.run_pure]
theorem Qvc (x y:Ask):((((((((((((QY x).set! 0 (.int .i64 y.number)).set! 1 (.int .i64 y.kind)).set! 2 (.int .i64 y.id)).set! 3 (.int .i64 y.guests)).set! 4 (.bool y.level)).set! 5 (.int .i64 y.cabin)).set! 6 (.int .i64 y.category)).set! 7 (.int .i64 y.frm)).set! 8 (.int .i64 y.upto)).set! 9 (.int .i64 y.til)).set! 10 (.int .i64 y.amount))=QY y:=by
 simp[QY]
theorem Xca {w:World}{z:Nat}{x:Ask}(y:Ask)(A:AskAt w z x) :
  AskAt (((((((((((w.setCell ⟨z,0,none⟩ (.int .i64 y.number)).setCell ⟨z,1,none⟩ (.int .i64 y.kind)).setCell ⟨z,2,none⟩ (.int .i64 y.id)).setCell ⟨z,3,none⟩ (.int .i64 y.guests)).setCell ⟨z,4,none⟩ (.bool y.level)).setCell ⟨z,5,none⟩ (.int .i64 y.cabin)).setCell
   ⟨z,6,none⟩ (.int .i64 y.category)).setCell ⟨z,7,none⟩ (.int .i64 y.frm)).setCell ⟨z,8,none⟩ (.int .i64 y.upto)).setCell ⟨z,9,none⟩ (.int .i64 y.til)).setCell ⟨z,10,none⟩ (.int .i64 y.amount)) z y:=by
 unfold AskAt at A ⊢;rw[←Qvc x y]
 generalize QY x=cs at A
 have D:=A.set (j:=0) (.int .i64 y.number);have E:=D.set (j:=1) (.int .i64 y.kind);have F:=E.set (j:=2) (.int .i64 y.id);have I:=F.set (j:=3) (.int .i64 y.guests);have J:=I.set (j:=4) (.bool y.level);have O:=J.set (j:=5) (.int .i64 y.cabin);have Q:=O.set (j:=6) (.int .i64 y.category);have U:=Q.set (j:=7) (.int .i64 y.frm);have V:=U.set (j:=8) (.int .i64 y.upto);have W:=V.set (j:=9) (.int .i64 y.til);exact W.set (j:=10) (.int .i64 y.amount)
theorem Qvb (s:List UInt8)(w:World):Calls prog 60 #[.string ⟨s.toArray⟩] w fun e w'=>
  e=.returned (.tuple #[.agg (QY (Ue s).1),.int .i64 (Ue s).2])∧yw w w':=by
 obtain⟨V,hV⟩:=yE (Ue s);rw[←hV];have HV:=yh hV;clear hV;go_enter func60,ntmps60;go_upto_region 1 with(fail);go_cut [2,4] (fun c a Q=>∃z b,yp c z∧yp a b∧AskAt Q z ZS∧RdAt Q b (s,false)∧yw w Q∧w.heap.size≤z∧w.heap.size≤b∧z≠b)
 case first=>as_aux_lemma=>
  go_wp2_with fail;go_meet;exact⟨_,_,rfl,rfl,QE _ _ _,QF _ _ _,Zo _ _ _,by omega,by omega,by omega⟩
 obtain⟨z,b,rfl,rfl,I,E,F,gz,gb,aF⟩:=hcut;obtain⟨⟨kd,r1⟩,h1⟩:∃q,q=Zh (s,false) 1:=⟨_,rfl⟩;obtain⟨⟨nu,r2⟩,h2⟩:∃q,q=Zh r1 2:=⟨_,rfl⟩
 have ae:ZE s=(⟨nu,kd,0,0,false,0,0,0,0,0,0⟩,0,r2):=by unfold ZE;rw[←h1,←h2]
 have av:=yh ae;clear ae;go_upto_region 2 with(fail);go_cut [5] (fun a Q=>∃D,yp a D∧AskAt Q D ⟨0,kd,0,0,false,0,0,0,0,0,0⟩∧RdAt Q b r1∧AskAt Q z ZS∧yw w Q∧w.heap.size≤D∧D≠z∧D≠b)
 case first=>as_aux_lemma=>
  have hn:Calls prog 139 #[.pointer (some ⟨b,0,none⟩),.int .i64 1] wc fun e w'=>e=.returned (.int .i64 kd)∧RdAt w' b r1∧Kept (fun k=>k=b) wc w':=by
   have:=QGa b (s,false) 1 wc (by omega) E;rw[←h1]at this;exact this
  have l1:=Blk.lt E;have l2:=Blk.lt I;have HN:=yh hn;clear hn;clear h1 h2 E;go_wp2_with fail;refine HN.mono ?_;rintro e w1 ⟨rfl,ai,Y⟩;have bh:=Y.size;have aj:=I.kept Y aF;have ak:=Y.below (B:=w.heap.size) F.size (by intro j hj (e:j=b);omega);have aw:=yh ai;have az:=yh aj;have ag:=yh (F.trans ak);clear ai aj Y I ak;go_wp2_with fail;go_meet;exact⟨_,rfl,Blk.new _ _ _,aw.bel (Qi _ _),az.bel (Qi _ _),ag.alloc ag.size _,ag.size,by omega,by omega⟩
 clear h1 E I F;obtain⟨D,rfl,O,E,I,F,aH,aE,al⟩:=hcut;go_upto_region 3 with(fail);go_cut [] (fun Q=>AskAt Q D ⟨nu,kd,0,0,false,0,0,0,0,0,0⟩∧RdAt Q b r2∧AskAt Q z ZS∧yw w Q)
 case first=>as_aux_lemma=>
  have hn:Calls prog 139 #[.pointer (some ⟨b,0,none⟩),.int .i64 2] wc fun e w'=>e=.returned (.int .i64 nu)∧RdAt w' b r2∧Kept (fun k=>k=b) wc w':=by
   have:=QGa b r1 2 wc (by omega) E;rw[←h2]at this;exact this
  have HN:=yh hn;clear hn;clear h2 E;go_wp2_with fail;refine HN.mono ?_;rintro e w1 ⟨rfl,ai,Y⟩;have aj:=I.kept Y aF;have aa:=O.kept Y al;have ak:=Y.below (B:=w.heap.size) F.size (by intro j hj (e:j=b);omega);have f0:=aa.free 0;obtain⟨a0,_⟩:=aa.all;have aw:=yh ai;have az:=yh aj;have aX:=yh aa;have ag:=yh (F.trans ak);clear ai aj Y I ak aa;go_wp2_with fail;go_meet;exact⟨aX.set _,aw.other (p:=⟨D,0,none⟩) al _,az.other (p:=⟨D,0,none⟩) aE _,ag.setCell (p:=⟨D,0,none⟩) aH _⟩
 clear h2 E I F O;obtain⟨O,E,I,F⟩:=hcut;go_upto_region 4 with(fail);go_cut [6] (fun a Q=>∃J,yp a J∧AskAt Q D ⟨nu,kd,0,0,false,0,0,0,0,0,0⟩∧RdAt Q b r2∧AskAt Q z ZS∧Blk Q J #[.int .i64 0] 3∧yw w Q∧w.heap.size≤J∧D≠J∧z≠J∧b≠J)
 case first=>as_aux_lemma=>
  have l1:=Blk.lt O;have l2:=Blk.lt E;have l3:=Blk.lt I;go_wp2_with fail;go_meet;exact⟨_,rfl,O.bel (Qi _ _),E.bel (Qi _ _),I.bel (Qi _ _),Blk.new _ _ _,F.alloc F.size _,F.size,by omega,by omega,by omega⟩
 clear E I F O;obtain⟨J,rfl,O,E,I,U,F,ba,aU,bt,aV⟩:=hcut;go_wp2_with fail;refine(Qba D J kd _ (O.cell rfl)).mono ?_;rintro e w3 ⟨A,n,cap,rfl,hS,ad⟩;have la:=Blk.lt O;have ll:=U.lt;have lr:=Blk.lt E;replace O:=O.bel ad;replace U:=U.bel ad;replace E:=E.bel ad;replace I:=I.bel ad;replace F:=F.trans (ad.mono F.size);clear ad;obtain⟨Z,au⟩:=yE (Qr kd)
 have aI:UM s=ZJ Z (ZE s):=by unfold UM;rw[av.out,au]
 have aS:(ZE s).1.kind=kd:=by rw[av.out]
 rw[←au]at hS;have bn:=yh au;clear au;have aZ:=yh aI;clear aI;have bk:=yh aS;clear aS;have bc:=hS.bd;obtain⟨X,ae⟩:=yE (ZE s)
 have ar:(⟨nu,kd,0,0,false,0,0,0,0,0,0⟩,(0:Int),r2)=X:=by rw[ae,av.out]
 have HD:=yh ae;clear ae
 have e1:(⟨nu,kd,0,0,false,0,0,0,0,0,0⟩:Ask)=X.1:=by rw[←ar]
 have e2:(0:Int)=X.2.1:=by rw[←ar]
 have e3:r2=X.2.2:=by rw[←ar]
 rw[e1]at O;rw[e3]at E;rw[e2]at U;clear e1 e2 e3 ar;go_wp2_with fail
 go_loopg [27] n (fun gk i wr=>∃k:Nat,k≤n∧n-k≤gk∧i=.int .i64 k∧AskAt wr D (ZJ (Z.take k) X).1∧Blk wr J #[.int .i64 (ZJ (Z.take k) X).2.1] 3∧RdAt wr b (ZJ (Z.take k) X).2.2∧Kept (fun j=>j=D∨j=J∨j=b) w3 wr)
 case atStart=>exact⟨0,M0 _,by omega,rfl,O,U,E,Kept.refl _ _⟩
 case round=>
  clear O U E;obtain⟨k,hk,be,rfl,O,U,E,hK⟩:=hrel;have aA:=hS.kept hK (fun j _ hT=>by have hT:wc.heap.size≤j:=hT;rintro(rfl|rfl|rfl)<;>omega);by_cases hlt:k<n
  ·obtain⟨o,bi,p,c0,c1,c2,rfl,hx,⟨hc,_⟩,g0,g1,g2⟩:=aA.at3 hlt;simp only[List.cons.injEq,and_true]at hc;obtain⟨rfl,rfl,rfl⟩:=hc
   have aD:p∈Qr kd:=by rw[←bn.out];exact J6 hx
   obtain⟨m,hm,bg,br⟩:=Yw aD;have am:=yh (Xia X hx);obtain⟨d,hd⟩:=yE (ZJ (Z.take k) X);rw[←hd]at O U E am;obtain⟨q,hq⟩:=yE (Zh d.2.2 m);have an:=yh (show Vf d p=(Y2 d.1 p.ix q.1,VQa d.2.1 p.ix q.1,q.2)by unfold Vf;rw[hm,hq];rfl)
   have aC:∀W,RdAt W b d.2.2→Calls prog 139 #[.pointer (some ⟨b,0,none⟩),.int .i64 m] W fun e w'=>e=.returned (.int .i64 q.1)∧RdAt w' b q.2∧Kept (fun k=>k=b) W w':=fun W h=>by
    have:=QGa b d.2.2 m W br h;rw[←hq]at this;exact this
   obtain⟨v,hv⟩:=yE q.1;rw[←hv]at an aC;rw[hm]at g0;have bf:=Blk.lt E;have bm:=yh aC;clear aC;have HM:=yh aD;clear aD;have aM:Blk (wr.alloc (.cells #[.int .i64 m,.int .i64 p.most,.pointer (some (Q1 D J p.ix))] 194)).drew wr.heap.size #[.int .i64 m,.int .i64 p.most,.pointer (some (Q1 D J p.ix))] 194:=Blk.new wr _ _;have aa:AskAt (wr.alloc (.cells #[.int .i64 m,.int .i64 p.most,.pointer (some (Q1 D J p.ix))] 194)).drew D d.1:=O.bel (Qi wr _).drew;have aK:Blk (wr.alloc (.cells #[.int .i64 m,.int .i64 p.most,.pointer (some (Q1 D J p.ix))] 194)).drew J #[.int .i64 d.2.1] 3:=U.bel (Qi wr _).drew;have bp:RdAt (wr.alloc (.cells #[.int .i64 m,.int .i64 p.most,.pointer (some (Q1 D J p.ix))] 194)).drew b d.2.2:=E.bel (Qi wr _).drew;have aJ:=(hK.alloc (.cells #[.int .i64 m,.int .i64 p.most,.pointer (some (Q1 D J p.ix))] 194)).drew
   have aT:∀w4,Kept (fun k=>k=b) (wr.alloc (.cells #[.int .i64 m,.int .i64 p.most,.pointer (some (Q1 D J p.ix))] 194)).drew w4→
     (yI w4 wr.heap.size 0 m∧w4.cell? ⟨wr.heap.size,2,none⟩=some (.pointer (some (Q1 D J p.ix))))∧
     (w4.cell? (Q1 D J p.ix)=some (.int .i64 (XU d.1 d.2.1 p.ix))∧w4.frozen? (Q1 D J p.ix)=false)∧
     AskAt (w4.setCell (Q1 D J p.ix) (.int .i64 v)) D (Y2 d.1 p.ix v)∧Blk (w4.setCell (Q1 D J p.ix) (.int .i64 v)) J #[.int .i64 (VQa d.2.1 p.ix v)] 3∧
     Kept (fun j=>j=D∨j=J∨j=b) w3 (w4.setCell (Q1 D J p.ix) (.int .i64 v)):=fun w4 ac=>by
    have aL:=Blk.kept aM ac (by show ¬wr.heap.size=b;omega);have ao:=aa.kept ac al;have ap:=aK.kept ac (fun e=>aV e.symm);have aN:=Z7b ao ap aU HM v;refine⟨⟨aL.cell rfl,aL.cell rfl⟩,X1a ao ap HM,aN.1,aN.2,(aJ.trans (ac.mono fun j _ h=>.inr (.inr h))).setCell (.inl ?_) _⟩;unfold Q1;split
    ·exact .inr (.inl rfl)
    ·exact .inl rfl
   have bl:=yh aT;clear aT
   have bs:(Q1 D J p.ix).block≠b:=by
    unfold Q1;split
    ·exact fun e=>aV e.symm
    ·exact al
   clear hx hd hq hv hm aA aJ aM aa aK;go_wp2_with fail;go_region_with (go_at_call 139;refine(bm _ bp).mono ?_;rintro e w4 ⟨rfl,bq,ac⟩;obtain⟨⟨p0,p2⟩,⟨m4,f4⟩,ao,ap,bo⟩:=bl w4 ac)
   all_goals go_wp2_with fail
   all_goals go_roundg (n-(k+1))
   all_goals first
    | omega
    | exact⟨k+1,by omega,by omega,by go_num,by rw[am.out,an.out];exact ao,by rw[am.out,an.out];exact ap,by rw[am.out,an.out];exact Blk.other bq bs _,bo⟩
  ·obtain rfl:k=n:=by omega
   have hT:Z.take k=Z:=M1 (Nat.le_of_eq hS.len);obtain⟨d,hd⟩:=yE (UM s)
   have aR:ZJ (Z.take k) X=d:=by rw[hT,hd,aZ.out,HD.out]
   rw[aR]at O U E;have ax:=yh (show V=if VM d kd then (ZS,1)else if QS (Vr d)≠0 then (ZS,QS (Vr d))else (Vr d,0)by rw[HV.out,hd];unfold Ue;rw[bk.out]);have aP:=I.kept hK (by rintro(h|h|h);exact aE h.symm;exact bt h;exact aF h);replace F:=F.trans (hK.below (B:=w.heap.size) F.size (by rintro j hj (h|h|h)<;>omega));clear hd aR hT hK I aA;go_upto_region 11 with(fail);go_cut [] (fun Q=>AskAt Q D (Vr d)∧Blk Q J #[.int .i64 d.2.1] 3∧RdAt Q b d.2.2∧AskAt Q z ZS∧yw w Q)
   case first=>as_aux_lemma=>
    have l0:=U.cell (j:=0) rfl;have f4:=O.free 4;obtain⟨_,_,_,_,a4,_⟩:=O.all;have HA:=yh O;have HL:=yh U;have HR:=yh E;clear O U E;go_wp2_with fail;go_meet;exact⟨HA.set _,HL.other (p:=⟨D,4,none⟩) aU _,HR.other (p:=⟨D,4,none⟩) al _,aP.other (p:=⟨D,4,none⟩) aE _,F.setCell (p:=⟨D,4,none⟩) aH _⟩
   clear O U E aP F;obtain⟨O,U,E,I,F⟩:=hcut;obtain⟨dx,lev,af,sh⟩:=d;have l0:yI wc J 0 lev:=U.cell rfl;have r0:wc.cell? ⟨b,0,none⟩=some (.string ⟨af.toArray⟩):=Blk.cell E (j:=0) rfl;have r1:wc.cell? ⟨b,1,none⟩=some (.bool sh):=Blk.cell E (j:=1) rfl;obtain⟨z0,z1,z2,z3,z4,z5,z6,z7,z8,z9,aW⟩:=I.all;have zf:=I.free;have aQ:VM (dx,lev,(af,sh)) kd=(Qc kd 1 8==false || sh || decide (af≠[]) || decide (1<lev)):=rfl;have ab:=yh aQ;clear aQ
   have aO:VM (dx,lev,(af,sh)) kd=true→V=(ZS,1):=fun h=>by rw[ax.out,M3 h]
   have ah:=yh aO;clear aO;clear E
   cases q_HK:Qc kd 1 8<;>have HK:=yh q_HK<;>clear q_HK
   ·obtain rfl:V=(ZS,1):=ah (by rw[ab.out,HK.out];rfl);go_wp2_with fail;exact M4 (v:=.tuple #[.agg (QY ZS),.int .i64 1]) (UF (by kernel_rfl) (((((((((((Blk.set I _).set _).set _).set _).set _).set _).set _).set _).set _).set _).set _) rfl rfl) rfl ⟨rfl,((((((((((Below.setCell F (p:=⟨z,0,none⟩) gz _).setCell (p:=⟨z,1,none⟩) gz _).setCell (p:=⟨z,2,none⟩) gz _).setCell (p:=⟨z,3,none⟩) gz _).setCell (p:=⟨z,4,none⟩) gz _).setCell (p:=⟨z,5,none⟩) gz _).setCell (p:=⟨z,6,none⟩) gz _).setCell (p:=⟨z,7,none⟩) gz _).setCell (p:=⟨z,8,none⟩) gz _).setCell (p:=⟨z,9,none⟩) gz _).setCell (p:=⟨z,10,none⟩) gz _⟩
   cases sh with
   | true=>
    obtain rfl:V=(ZS,1):=ah (by rw[ab.out,HK.out];rfl);go_wp2_with fail;exact M4 (v:=.tuple #[.agg (QY ZS),.int .i64 1]) (UF (by kernel_rfl) (((((((((((Blk.set I _).set _).set _).set _).set _).set _).set _).set _).set _).set _).set _) rfl rfl) rfl ⟨rfl,((((((((((Below.setCell F (p:=⟨z,0,none⟩) gz _).setCell (p:=⟨z,1,none⟩) gz _).setCell (p:=⟨z,2,none⟩) gz _).setCell (p:=⟨z,3,none⟩) gz _).setCell (p:=⟨z,4,none⟩) gz _).setCell (p:=⟨z,5,none⟩) gz _).setCell (p:=⟨z,6,none⟩) gz _).setCell (p:=⟨z,7,none⟩) gz _).setCell (p:=⟨z,8,none⟩) gz _).setCell (p:=⟨z,9,none⟩) gz _).setCell (p:=⟨z,10,none⟩) gz _⟩
   | false=>
    cases af with
    | cons c af=>
     obtain rfl:V=(ZS,1):=ah (by rw[ab.out,HK.out];simp);go_wp2_with fail;exact M4 (v:=.tuple #[.agg (QY ZS),.int .i64 1]) (UF (by kernel_rfl) (((((((((((Blk.set I _).set _).set _).set _).set _).set _).set _).set _).set _).set _).set _) rfl rfl) rfl ⟨rfl,((((((((((Below.setCell F (p:=⟨z,0,none⟩) gz _).setCell (p:=⟨z,1,none⟩) gz _).setCell (p:=⟨z,2,none⟩) gz _).setCell (p:=⟨z,3,none⟩) gz _).setCell (p:=⟨z,4,none⟩) gz _).setCell (p:=⟨z,5,none⟩) gz _).setCell (p:=⟨z,6,none⟩) gz _).setCell (p:=⟨z,7,none⟩) gz _).setCell (p:=⟨z,8,none⟩) gz _).setCell (p:=⟨z,9,none⟩) gz _).setCell (p:=⟨z,10,none⟩) gz _⟩
    | nil=>
     by_cases hlev:1<lev
     ·obtain rfl:V=(ZS,1):=ah (by rw[ab.out,HK.out];simp[hlev]);go_wp2_with fail;exact M4 (v:=.tuple #[.agg (QY ZS),.int .i64 1]) (UF (by kernel_rfl) (((((((((((Blk.set I _).set _).set _).set _).set _).set _).set _).set _).set _).set _).set _) rfl rfl) rfl ⟨rfl,((((((((((Below.setCell F (p:=⟨z,0,none⟩) gz _).setCell (p:=⟨z,1,none⟩) gz _).setCell (p:=⟨z,2,none⟩) gz _).setCell (p:=⟨z,3,none⟩) gz _).setCell (p:=⟨z,4,none⟩) gz _).setCell (p:=⟨z,5,none⟩) gz _).setCell (p:=⟨z,6,none⟩) gz _).setCell (p:=⟨z,7,none⟩) gz _).setCell (p:=⟨z,8,none⟩) gz _).setCell (p:=⟨z,9,none⟩) gz _).setCell (p:=⟨z,10,none⟩) gz _⟩
     have ay:=yh (show V=if QS (Vr (dx,lev,([],false)))≠0 then (ZS,QS (Vr (dx,lev,([],false))))else (Vr (dx,lev,([],false)),0)by
      rw[ax.out,M2 (by rw[ab.out,HK.out];simp[hlev])])
     obtain⟨y,hy⟩:=yE (Vr (dx,lev,([],false)));obtain⟨r,hr⟩:=yE (QS y);rw[←hy,←hr]at ay;rw[←hy]at O;have aq:=fun W=>Vy y W;rw[←hr]at aq;dsimp only[QY]at aq;have aY:=yh aq;clear aq;obtain⟨a0,a1,a2,a3,a4,a5,a6,a7,a8,a9,aG⟩:=O.all;clear hy hr ax ab ah z0 z1 z2 z3 z4 z5 z6 z7 z8 z9 aW;go_wp2_with fail;refine yM (aY _) fun w5 aB=>?_;replace O:=O.bel aB;replace I:=I.bel aB;replace F:=F.trans (aB.mono F.size);obtain⟨z0,z1,z2,z3,z4,z5,z6,z7,z8,z9,aW⟩:=I.all;replace zf:=I.free;by_cases h0:¬r=0
     ·obtain rfl:V=(ZS,r):=by rw[ay.out,M3 h0]
      have bb:(r !=0)=true:=by simpa using h0
      clear h0;go_wp2_with fail;exact M4 (v:=.tuple #[.agg (QY ZS),.int .i64 r]) (UF (by kernel_rfl) (((((((((((Blk.set I _).set _).set _).set _).set _).set _).set _).set _).set _).set _).set _) rfl rfl) rfl ⟨rfl,((((((((((Below.setCell F (p:=⟨z,0,none⟩) gz _).setCell (p:=⟨z,1,none⟩) gz _).setCell (p:=⟨z,2,none⟩) gz _).setCell (p:=⟨z,3,none⟩) gz _).setCell (p:=⟨z,4,none⟩) gz _).setCell (p:=⟨z,5,none⟩) gz _).setCell (p:=⟨z,6,none⟩) gz _).setCell (p:=⟨z,7,none⟩) gz _).setCell (p:=⟨z,8,none⟩) gz _).setCell (p:=⟨z,9,none⟩) gz _).setCell (p:=⟨z,10,none⟩) gz _⟩
     ·obtain rfl:r=0:=by omega
      obtain rfl:V=(y,0):=by rw[ay.out,M2 (by simp)]
      clear a0 a1 a2 a3 a4 a5 a6 a7 a8 a9 aG;obtain⟨a0,a1,a2,a3,a4,a5,a6,a7,a8,a9,aG⟩:=O.all;go_wp2_with fail;exact M4 (v:=.tuple #[.agg (QY y),.int .i64 0]) (UF (x:=y) (e:=0) (by kernel_rfl) (Xca y I) rfl rfl) rfl ⟨rfl,((((((((((Below.setCell F (p:=⟨z,0,none⟩) gz _).setCell (p:=⟨z,1,none⟩) gz _).setCell (p:=⟨z,2,none⟩) gz _).setCell (p:=⟨z,3,none⟩) gz _).setCell (p:=⟨z,4,none⟩) gz _).setCell (p:=⟨z,5,none⟩) gz _).setCell (p:=⟨z,6,none⟩) gz _).setCell (p:=⟨z,7,none⟩) gz _).setCell (p:=⟨z,8,none⟩) gz _).setCell (p:=⟨z,9,none⟩) gz _).setCell (p:=⟨z,10,none⟩) gz _⟩
theorem XSa (n:Nat):∀l:List UInt8,l.length=n→Zu (Ur l) n=l:=by
 induction n with
 | zero=>intro l h;obtain rfl:l=[]:=List.length_eq_zero_iff.1 h;rfl
 | succ n ih=>
  intro l h;rcases List.eq_nil_or_concat l with rfl|⟨A,c,rfl⟩
  ·simp at h
  ·rw[List.concat_eq_append]at h ⊢;have D:=c.toNat_lt;rw[Yt,Zu,show(256*Ur A+(c.toNat:Int)) / 256=Ur A by omega,show(256*Ur A+(c.toNat:Int)) % 256=(c.toNat:Int)by omega,ih A (by simp at h;omega)];simp
theorem X7a {r:List UInt8×Bool}{m:Nat}(h:(Zh r m).2.2=false):r.2=false∧r.1=Zu (Zh r m).1 m++(Zh r m).2.1∧0≤(Zh r m).1:=by
 unfold Zh at h ⊢;by_cases hl:r.1.length<m
 ·rw[M3 hl]at h;simp at h
 ·rw[M2 hl]at h ⊢;refine⟨h,?_,(YZ _).1⟩;simp only;rw[XSa m (r.1.take m) (by rw[J8];omega),List.take_append_drop]
theorem QVb {α β:Type}{f g:α→List β}{l:List α}(h:∀p∈l,f p=g p):l.flatMap f=l.flatMap g:=by
 induction l with
 | nil=>rfl
 | cons p l ih=>rw[List.flatMap_cons,List.flatMap_cons,h p (List.mem_cons_self ..),ih fun q A=>h q (List.mem_cons_of_mem _ A)]
def Xs (i:Nat):Prop:=i=2∨i=3∨i=4∨i=5∨i=6∨i=7∨i=8∨i=9∨i=10
theorem XEb {x:Ask}{lev v:Int}{i:Nat}(h:Xs i):XU (Y2 x i v) (VQa lev i v) i=v:=by
 rcases h with rfl|rfl|rfl|rfl|rfl|rfl|rfl|rfl|rfl<;>rfl
theorem Xqa {x:Ask}{lev v:Int}{i j:Nat}(h:Xs i)(A:i≠j):XU (Y2 x j v) (VQa lev j v) i=XU x lev i:=by
 rcases h with rfl|rfl|rfl|rfl|rfl|rfl|rfl|rfl|rfl<;>simp[XU,fld,Y2,VQa]<;>exact fun e=>absurd e.symm A
theorem Y8 (p:Part)(l:List Part)(d:Dec):ZJ (p::l) d=ZJ l (Vf d p):=rfl
theorem QEa {i:Nat}(A:Xs i)(l:List Part):∀(d:Dec),i∉l.map Part.ix→XU (ZJ l d).1 (ZJ l d).2.1 i=XU d.1 d.2.1 i:=by
 induction l with
 | nil=>intro d _;rfl
 | cons p l ih=>
  intro d h;rw[List.map_cons,List.mem_cons,not_or]at h;rw[Y8,ih _ h.2];exact Xqa A h.1
theorem UMb (l:List Part):∀(d:Dec),(∀p∈l,Xs p.ix)→(l.map Part.ix).Nodup→(ZJ l d).2.2.2=false→
  d.2.2.2=false∧d.2.2.1=l.flatMap (fun p=>Zu (XU (ZJ l d).1 (ZJ l d).2.1 p.ix) p.bytes.toNat)++(ZJ l d).2.2.1∧∀p∈l,0≤XU (ZJ l d).1 (ZJ l d).2.1 p.ix:=by
 induction l with
 | nil=>intro d _ _ h;exact⟨h,by simp[ZJ],by simp⟩
 | cons p l ih=>
  intro d F D h;rw[List.map_cons,List.nodup_cons]at D;rw[Y8]at h ⊢;obtain⟨J,O,Q⟩:=ih (Vf d p) (fun q A=>F q (List.mem_cons_of_mem _ A)) D.2 h;obtain⟨U,V,W⟩:=X7a (r:=d.2.2) (m:=p.bytes.toNat) J;have I:=F p (List.mem_cons_self ..)
  have E:XU (ZJ l (Vf d p)).1 (ZJ l (Vf d p)).2.1 p.ix=(Zh d.2.2 p.bytes.toNat).1:=by
   rw[QEa I l _ D.1];exact XEb I
  refine⟨U,?_,fun q A=>?_⟩
  ·rw[List.flatMap_cons,E,List.append_assoc,←O];exact V
  ·rcases List.mem_cons.1 A with rfl|A
   ·rw[E];exact W
   ·exact Q q A
theorem Y3a (k:Int):(∀p∈Qr k,Xs p.ix)∧((Qr k).map Part.ix).Nodup:=by
 refine⟨fun p A=>?_,?_⟩
 ·rcases Vv A with rfl|rfl|rfl|rfl|rfl|rfl|rfl|rfl|rfl<;>simp[Xs,pId,VC,VN,XV,Vu,Z9a,pTo,ZJa,Yv]
 ·unfold Qr
  repeat' split
  all_goals decide
theorem YOb {x y:Ask}(U:x.number=y.number)(V:x.kind=y.kind)(h:∀i,Xs i→fld x i=fld y i):x=y:=by
 have D:=h 2 (by simp[Xs]);have E:=h 3 (by simp[Xs]);have Y:=h 4 (by simp[Xs]);have F:=h 5 (by simp[Xs]);have I:=h 6 (by simp[Xs]);have J:=h 7 (by simp[Xs]);have O:=h 8 (by simp[Xs]);have Q:=h 9 (by simp[Xs]);have A:=h 10 (by simp[Xs]);obtain⟨Z,a1,a2,a3,W,a5,a6,a7,a8,a9,aa⟩:=x;obtain⟨b0,b1,b2,b3,X,b5,b6,b7,b8,b9,ab⟩:=y;simp[fld]at U V D E Y F I J O Q A;simp only[Ask.mk.injEq];refine⟨U,V,D,E,?_,F,I,J,O,Q,A⟩;cases W<;>cases X<;>simp_all
theorem ZCc (l:List Part):∀(x:Ask) (i:Nat),Xs i→i≠4→fld (zf l x) i=if i∈l.map Part.ix then 0 else fld x i:=by
 induction l with
 | nil=>intro x i _ _;simp[zf]
 | cons p l ih=>
  intro x i D A
  show fld (zf l (Y2 x p.ix 0)) i=_
  rw[ih _ i D A];by_cases h:i∈l.map Part.ix
  ·rw[M3 h,List.map_cons,M3 (List.mem_cons_of_mem _ h)]
  ·rw[M2 h,List.map_cons];by_cases e:i=p.ix
   ·rw[M3 (by rw[←e];exact List.mem_cons_self ..),←e]
    rcases D with rfl|rfl|rfl|rfl|rfl|rfl|rfl|rfl|rfl<;>first|rfl|exact absurd rfl A
   ·rw[M2 (by rw[List.mem_cons,not_or];exact⟨e,h⟩)];have:=Xqa (x:=x) (lev:=0) (v:=0) D e
    simpa [XU,A] using this
theorem VWb {x:Ask} : YD x=true↔∀i,Xs i→i∉(Qr x.kind).map Part.ix→fld x i=0:=by
 unfold YD;rw[decide_eq_true_eq]
 have D:((Qr x.kind).any (fun p=>p.ix==4)=true)↔4∈(Qr x.kind).map Part.ix:=by
  rw[List.any_eq_true,List.mem_map]
  constructor
  ·rintro⟨p,h,e⟩;exact⟨p,h,by simpa using e⟩
  ·rintro⟨p,h,e⟩;exact⟨p,h,by simpa using e⟩
 have F:=Upb (Qr x.kind) x
 have E:∀i,Xs i→fld (Va x) i=if i∈(Qr x.kind).map Part.ix then 0 else fld x i:=fun i A=>by
  by_cases e4:i=4
  ·subst e4;have:fld (Va x) 4=if (Va x).level then 1 else 0:=rfl;rw[this];have J:fld x 4=if x.level then 1 else 0:=rfl;rw[J];unfold Va;by_cases h:4∈(Qr x.kind).map Part.ix
   ·rw[M3 h,M3 (D.2 h)];rfl
   ·rw[M2 h,M2 (fun e=>h (D.1 e))]
  ·rw[←ZCc _ x i A e4];unfold Va
   rcases A with rfl|rfl|rfl|rfl|rfl|rfl|rfl|rfl|rfl<;>first|rfl|exact absurd rfl e4
 constructor
 ·intro h i A O;have:=E i A;rw[h,M2 O]at this;rw[←this];rcases A with rfl|rfl|rfl|rfl|rfl|rfl|rfl|rfl|rfl<;>rfl
 ·intro h;refine YOb F.2.1 F.2.2 fun i A=>?_;rw[E i A]
  have I:fld ({ (default:Ask)with number:=x.number,kind:=x.kind }) i=0:=by
   rcases A with rfl|rfl|rfl|rfl|rfl|rfl|rfl|rfl|rfl<;>rfl
  rw[I];by_cases e:i∈(Qr x.kind).map Part.ix
  ·rw[M3 e]
  ·rw[M2 e];exact h i A e
theorem Xlb {d:Dec}(D:0≤d.2.1)(E:d.2.1≤1){i:Nat}(A:Xs i):fld (Vr d) i=XU d.1 d.2.1 i:=by
 rcases A with rfl|rfl|rfl|rfl|rfl|rfl|rfl|rfl|rfl
 all_goals first
  | rfl
  |
   show(if (d.2.1==1)=true then (1:Int)else 0)=d.2.1
   by_cases e:d.2.1=1
   ·rw[M3 (by simpa using e),e]
   ·rw[M2 (by simpa using e)];omega
theorem YDa (l:List Part):∀d,(ZJ l d).1.number=d.1.number:=by
 induction l with
 | nil=>intro d;rfl
 | cons p l ih=>intro d;rw[Y8,ih];rfl
theorem ZZb {s:List UInt8}(h:(Ue s).2=0):QS (Ue s).1=0∧YGa (Ue s).1=s:=by
 unfold Ue at h ⊢;by_cases hb:VM (UM s) (ZE s).1.kind=true
 ·rw[M3 hb]at h;simp at h
 rw[M2 hb]at h ⊢;by_cases hc:QS (Vr (UM s))≠0
 ·rw[M3 hc]at h;exact absurd h hc
 rw[M2 hc]at ⊢
 have X:QS (Vr (UM s))=0:=by omega
 refine⟨X,?_⟩;have A:=Y3a (ZE s).1.kind;unfold VM at hb;simp only[Bool.or_eq_true,not_or,beq_iff_eq,decide_eq_true_eq,Bool.not_eq_true]at hb;obtain⟨⟨⟨hk,ad⟩,hr⟩,hl⟩:=hb;obtain⟨W,E,F⟩:=UMb (Qr (ZE s).1.kind) (ZE s) A.1 A.2 ad
 have ac:(UM s).2.2.1=[]:=by simpa using hr
 rw[show ZJ (Qr (ZE s).1.kind) (ZE s)=UM s from rfl]at E F
 have I:0≤(UM s).2.1∧(UM s).2.1≤1:=by
  refine⟨?_,by omega⟩;by_cases e:4∈(Qr (ZE s).1.kind).map Part.ix
  ·obtain⟨p,D,Y⟩:=List.mem_map.1 e;have:=F p D;rw[Y]at this;exact this
  ·have:=QEa (i:=4) (by simp[Xs]) (Qr (ZE s).1.kind) (ZE s) e;have V:XU (ZE s).1 (ZE s).2.1 4=0:=rfl;rw[V]at this;have J:XU (UM s).1 (UM s).2.1 4=(UM s).2.1:=rfl;rw[←J]
   show 0≤XU (ZJ (Qr (ZE s).1.kind) (ZE s)).1 (ZJ (Qr (ZE s).1.kind) (ZE s)).2.1 4
   rw[this];omega
 have aa:(Vr (UM s)).kind=(ZE s).1.kind:=UNb _ _;have ab:(Vr (UM s)).number=(ZE s).1.number:=YDa _ _
 have Z:(Qr (ZE s).1.kind).flatMap (Yb (Vr (UM s)))=(ZE s).2.2.1:=by
  rw[E,ac,List.append_nil];refine QVb fun p D=>?_;unfold Yb;rw[Xlb I.1 I.2 (A.1 p D)]
 obtain⟨O,Q,_⟩:=X7a (r:=(Zh (s,false) 1).2) (m:=2) W;obtain⟨_,U,_⟩:=X7a (r:=(s,false)) (m:=1) O;unfold YGa Qra;rw[aa,ab,Z,List.append_assoc]
 show Zu (Zh (s,false) 1).1 1++(Zu (Zh (Zh (s,false) 1).2 2).1 2++(Zh (Zh (s,false) 1).2 2).2.1)=s
 rw[←Q];exact U.symm
theorem XF {L:List UInt8}{k:Nat}{d:UInt8}(h:L[k]? = some d)(W:World):(Instr.index 9 (.string ⟨L.toArray⟩) (.int .i64 (k:Int))).run prog W=.ok (.int .u8 (d.toNat:Int)) W:=by
 have E:k<L.length:=(J0.1 h).1
 have A:(⟨L.toArray⟩:ByteArray).size=L.length:=by show L.toArray.size=_;simp
 rw[run_index_string _ _ _ _ _ underlying9,dif_pos ⟨by omega,by rw[A];omega⟩];have D:L[k]=d:=(J0.1 h).2
 have:(⟨L.toArray⟩:ByteArray)[k]'(by rw[A];exact E)=d:=by rw[←D];rfl
 simp only[Int.toNat_natCast,this]
theorem ZBc (c d:UInt8):((c.toNat:Int)==(d.toNat:Int))=(c==d):=by
 by_cases h:c=d
 ·subst h;simp
 ·have:¬(c.toNat:Int)=(d.toNat:Int):=fun e=>h (UInt8.toNat_inj.1 (by omega));rw[beq_eq_false_iff_ne.2 this,beq_eq_false_iff_ne.2 h]
def C9:List UInt8:=[105,103,99,107,102,116,117,97,108]
def C10:List UInt8:=[105,103,99,107,102,116,117,97,108,115]
def U4a (x:Ask) (c:UInt8):Bool:=(ZR x.kind).any (fun d=>d==c) || fld x (QG c).ix==0
def Qob (x:Ask) (c:UInt8):Bool:=Qc (fld x (QG c).ix) 0 (QG c).most
def UCb (x:Ask):Int:=if Qc x.kind 1 8=false then 7 else if Qc x.number 1 65535=false then 3 else if C9.all (U4a x)=false then 1 else if (ZR x.kind).all (Qob x)then 0 else 3
theorem QOa (x:Ask)(w:World):Calls prog 51 #[.agg (QY x)] w fun e w'=>e=.returned (.int .i64 (UCb x))∧yw w w':=by
 obtain⟨r,hr⟩:=yE (UCb x);rw[←hr];have HR:=yh hr;clear hr;have af:=fun(c:UInt8) W=>Uda x c W;unfold QY at af ⊢;have aj:=yh af;clear af;go_enter func51,ntmps51;go_upto_region 0 with(fail);go_cut [1] (fun a J=>∃b,yp a b∧AskAt J b x∧yw w J)
 case first=>as_aux_lemma=>
  go_wp2_with fail;go_meet;exact⟨_,rfl,Zk _ _,Qi _ _⟩
 obtain⟨b,rfl,hA,D⟩:=hcut;obtain⟨c0,c1,c2,c3,c4,c5,c6,c7,c8,c9,ak⟩:=hA.all;go_wp2_with fail;refine(Qj x.kind 1 8 _).mono ?_;rintro e w9 ⟨rfl,rfl⟩
 cases q_HK:Qc x.kind 1 8<;>have HK:=yh q_HK<;>clear q_HK
 ·obtain rfl:r=7:=by rw[HR.out];unfold UCb;rw[M3 HK.out]
  go_wp2_with fail;go_ret;exact⟨rfl,D⟩
 have ag:=yh (show r=if Qc x.number 1 65535=false then 3 else if C9.all (U4a x)=false then 1 else if (ZR x.kind).all (Qob x)then 0 else 3 by rw[HR.out];unfold UCb;rw[M2 (by rw[HK.out];simp)]);go_wp2_with fail;refine(Qj x.number 1 65535 _).mono ?_;rintro e w9 ⟨rfl,rfl⟩
 cases q_HN:Qc x.number 1 65535<;>have HN:=yh q_HN<;>clear q_HN
 ·obtain rfl:r=3:=by rw[ag.out,M3 HN.out]
  go_wp2_with fail;go_ret;exact⟨rfl,D⟩
 have Y:=yh (show r=if C9.all (U4a x)=false then 1 else if (ZR x.kind).all (Qob x)then 0 else 3 by rw[ag.out,M2 (by rw[HN.out];simp)]);go_wp2_with fail;refine(Z7a x.kind _).mono ?_;rintro e w9 ⟨rfl,rfl⟩;obtain⟨N,O⟩:=yE (ZR x.kind)
 have ax:N.length≤7:=by rw[O];unfold ZR;(repeat' split)<;>simp
 have am:∀c,U4a x c=(N.any (fun d=>d==c) || fld x (QG c).ix==0):=fun c=>by rw[O];rfl
 rw[←O]at Y ⊢;have aw:=yh O;clear O;have ao:=yh am;clear am;go_wp2_with fail
 go_loopg [5] 9 (fun gk i wr=>∃k:Nat,k≤9∧9-k≤gk∧i=.int .i64 k∧Aside ((C9.take k).all (U4a x)=true)∧yw wc wr)
 case atStart=>exact⟨0,by omega,by omega,rfl,rfl,J4 _ _⟩
 case round=>
  obtain⟨k,hk,ar,rfl,E,A⟩:=hrel;by_cases hlt:k<9
  ·obtain⟨c,F⟩:∃c,C9[k]? = some c:=⟨_,J1 (by simp[C9];omega)⟩
   have al:C10[k]? = some c:=by
    have aq:C10=C9++[115]:=rfl;rw[aq,List.getElem?_append_left (by simp[C9];omega)];exact F
   have au:=fun W=>XF al W;simp only[C10]at au;obtain⟨q,hq⟩:=yE (N.any (fun d=>d==c));have U:=yh (show U4a x c=(q || fld x (QG c).ix==0)by rw[ao.out,hq]);have I:=yh F;clear F;have HQ:=yh hq;clear hq;clear al;go_upto_region 12 with(fail)
   go_loopg [6,7] N.length (fun ap nm j wq=>∃m:Nat,m≤N.length∧N.length-m≤ap∧j=.int .i64 m∧nm=.bool ((N.take m).any (fun d=>d==c))∧yw wr wq)
   case atStart=>exact⟨0,by omega,by omega,rfl,rfl,J4 _ _⟩
   case round=>
    obtain⟨m,hm,ay,rfl,rfl,aB⟩:=hrel;by_cases hltm:m<N.length
    ·obtain⟨d,hd⟩:∃d,N[m]? = some d:=⟨_,J1 hltm⟩;have av:=fun W=>XF hd W;have ae:=Qu (p:=fun d=>d==c) hd;obtain⟨q1,an⟩:=yE ((N.take m).any (fun d=>d==c));rw[←an]at ae ⊢;have ai:=yh ae;clear ae;clear an hd;cases q1
     ·go_wp2_with fail;go_quiet (fail);go_wp2_with fail;go_roundg (N.length-(m+1))
      case measure=>omega
      case rel=>exact⟨m+1,by omega,by omega,by go_num,by rw[ai.out];simp[ZBc],below_drewN aB _⟩
     ·go_wp2_with fail;go_quiet (fail);go_wp2_with fail;go_roundg (N.length-(m+1))
      case measure=>omega
      case rel=>exact⟨m+1,by omega,by omega,by go_num,by rw[ai.out];rfl,below_drewN aB _⟩
    ·obtain rfl:m=N.length:=by omega
     rw[List.take_length,←HQ.out];have V:=A.trans (aB.mono A.size);have ab:=hA.bel V;obtain⟨Z,d1,d2,d3,d4,d5,d6,d7,d8,d9,aa⟩:=ab.all;clear c0 c1 c2 c3 c4 c5 c6 c7 c8 c9 ak;go_upto_region 15 with(fail);go_cut [8,9,10] (fun v e f J=>v=.int .i64 (fld x (QG c).ix)∧yw wr J)
     case first=>as_aux_lemma=>
      go_region_with (go_at_call 126;refine yM (aj c _) fun wn ad=>?_)
      all_goals
       go_wp2_with fail;go_meet;exact⟨rfl,(J4 _ wr).drew.trans ad⟩
     obtain⟨rfl,Q⟩:=hcut;have ac:=V.trans (Q.mono V.size);clear aB Q V Z d1 d2 d3 d4 d5 d6 d7 d8 d9 aa;obtain⟨v,hv⟩:=yE (fld x (QG c).ix);rw[←hv]at U ⊢;clear hv;cases q
     ·by_cases hv0:v=0
      ·subst hv0;have X:=yh (show U4a x c=true by rw[U.out];rfl);go_wp2_with fail;go_roundg (9-(k+1))
       case measure=>omega
       case rel=>exact⟨k+1,by omega,by omega,by go_num,(show Aside _ from by show _=_;rw[Vx I.out,E,X.out];rfl),ac⟩
      ·have az:(v !=0)=true:=by simpa using hv0
       obtain rfl:r=1:=by rw[Y.out,M3 (XOa I.out (by rw[U.out];simpa using hv0))]
       clear hv0;go_wp2_with fail;go_ret;exact⟨rfl,D.trans (ac.mono D.size)⟩
     ·have X:=yh (show U4a x c=true by rw[U.out];rfl);go_wp2_with fail;go_roundg (9-(k+1))
      case measure=>omega
      case rel=>exact⟨k+1,by omega,by omega,by go_num,(show Aside _ from by show _=_;rw[Vx I.out,E,X.out];rfl),ac⟩
  ·obtain rfl:k=9:=by omega
   have ah:=yh (show r=if N.all (Qob x)then 0 else 3 by rw[Y.out,M2 (by rw[show C9=C9.take 9 from rfl,E];simp)]);go_wp2_with fail
   go_loopg [11] N.length (fun gk i wq=>∃k:Nat,k≤N.length∧N.length-k≤gk∧i=.int .i64 k∧Aside ((N.take k).all (Qob x)=true)∧yw wc wq)
   case atStart=>exact⟨0,by omega,by omega,rfl,rfl,A⟩
   case round=>
    clear A;obtain⟨k,hk,ar,rfl,E,A⟩:=hrel;by_cases hlt:k<N.length
    ·obtain⟨c,F⟩:∃c,N[k]? = some c:=⟨_,J1 hlt⟩;have av:=fun W=>XF F W;have I:=yh F;clear F;have ab:=hA.bel A;clear c0 c1 c2 c3 c4 c5 c6 c7 c8 c9 ak;obtain⟨Z,d1,d2,d3,d4,d5,d6,d7,d8,d9,aa⟩:=ab.all;go_upto_region 21 with(fail);go_cut [12,13,14] (fun v e f J=>v=.int .i64 (fld x (QG c).ix)∧f=.int .i64 (QG c).most∧yw wr J)
     case first=>as_aux_lemma=>
      go_region_with (go_at_call 126;refine yM (aj c _) fun wn ad=>?_)
      all_goals
       go_wp2_with fail;go_meet;exact⟨rfl,rfl,(J4 _ wr).drew.trans ad⟩
     obtain⟨rfl,rfl,Q⟩:=hcut;replace A:=A.trans (Q.mono A.size);clear Q Z d1 d2 d3 d4 d5 d6 d7 d8 d9 aa;have HV:=yh (show Qob x c=Qc (fld x (QG c).ix) 0 (QG c).most from rfl);go_wp2_with fail;refine yN (Qj (fld x (QG c).ix) 0 (QG c).most _) ?_
     cases q_HB:Qc (fld x (QG c).ix) 0 (QG c).most<;>have HB:=yh q_HB<;>clear q_HB
     ·obtain rfl:r=3:=by rw[ah.out,M2 (by rw[XOa I.out (by rw[HV.out];exact HB.out)];simp)]
      go_wp2_with fail;go_ret;exact⟨rfl,D.trans (A.mono D.size)⟩
     ·go_wp2_with fail;go_roundg (N.length-(k+1))
      case measure=>omega
      case rel=>exact⟨k+1,by omega,by omega,by go_num,(show Aside _ from by show _=_;rw[Vx I.out,E,HV.out,HB.out];rfl),A⟩
    ·obtain rfl:k=N.length:=by omega
     obtain rfl:r=0:=by rw[ah.out,M3 (by rw[List.take_length]at E;exact E)]
     go_wp2_with fail;go_ret;exact⟨rfl,D.trans (A.mono D.size)⟩
theorem Vbb (k:Int):(ZR k).length≤7:=by unfold ZR;(repeat' split)<;>simp
theorem ZHa {k:Int}{c:UInt8}(h:c∈ZR k):QG c∈Qr k:=by rw[←XG];exact List.mem_map_of_mem h
theorem YWa {k:Int}{c:UInt8}(h:c∈ZR k):c∈C9:=by
 have A:∀c∈ZR k,c∈C9:=by
  unfold ZR
  repeat' split
  all_goals decide
 exact A c h
theorem ZDc {c:UInt8}(h:c∈C9):Xs (QG c).ix:=by
 have A:∀c∈C9,(QG c).ix=2∨(QG c).ix=3∨(QG c).ix=4∨(QG c).ix=5∨(QG c).ix=6∨(QG c).ix=7∨(QG c).ix=8∨(QG c).ix=9∨(QG c).ix=10:=by decide
 exact A c h
theorem Q3c:∀c∈C9,∀d∈C9,(QG c).ix=(QG d).ix→c=d:=by decide
theorem Q2c:∀i:Nat,(i=2∨i=3∨i=4∨i=5∨i=6∨i=7∨i=8∨i=9∨i=10)→∃c∈C9,(QG c).ix=i:=by
 intro i A;rcases A with rfl|rfl|rfl|rfl|rfl|rfl|rfl|rfl|rfl<;>decide
theorem Xba (x:Ask):UCb x=QS x:=by
 have Q:C9.all (U4a x)=YD x:=by
  rw[Bool.eq_iff_iff,VWb,List.all_eq_true]
  constructor
  ·intro h i O U;obtain⟨c,A,rfl⟩:=Q2c i O;have:=h c A;unfold U4a at this;rw[Bool.or_eq_true]at this;rcases this with E|E
   ·obtain⟨d,D,F⟩:=List.any_eq_true.1 E
    obtain rfl:d=c:=by simpa using F
    exact absurd (List.mem_map_of_mem (f:=Part.ix) (ZHa D)) U
   ·simpa using E
  ·intro h c A;unfold U4a;rw[Bool.or_eq_true];by_cases hm:(QG c).ix∈(Qr x.kind).map Part.ix
   ·left
    obtain⟨p,J,F⟩:=List.mem_map.1 hm;rw[←XG]at J;obtain⟨d,D,rfl⟩:=List.mem_map.1 J;have:=Q3c d (YWa D) c A F;subst this;exact List.any_eq_true.2 ⟨d,D,by simp⟩
   ·right
    simpa using h _ (ZDc A) hm
 have V:(ZR x.kind).all (Qob x)=(Qr x.kind).all (VO x):=by
  rw[←XG,List.all_map,Bool.eq_iff_iff,List.all_eq_true,List.all_eq_true]
  have I:∀c∈ZR x.kind,(Qob x c=true↔(VO x ∘ QG) c=true):=fun c A=>by
   show Qc (fld x (QG c).ix) 0 (QG c).most=true↔Qc (XU x 0 (QG c).ix) 0 (QG c).most=true
   rcases Vv (ZHa A)with e|e|e|e|e|e|e|e|e
   all_goals rw[e]
   all_goals first
    | exact Iff.rfl
    |
     refine⟨fun _=>rfl,fun _=>?_⟩
     show Qc (if x.level then (1:Int)else 0) 0 1=true
     cases x.level<;>decide
  exact⟨fun h c A=>(I c A).1 (h c A),fun h c A=>(I c A).2 (h c A)⟩
 unfold UCb QS;rw[Q,V]
theorem Qhb (l:List Part):∀d:Dec,d.2.2.2=true→(ZJ l d).2.2.2=true:=by
 induction l with
 | nil=>intro d h;exact h
 | cons p l ih=>
  intro d h;rw[Y8];refine ih _ ?_
  show(Zh d.2.2 p.bytes.toNat).2.2=true
  unfold Zh
  split
  ·rfl
  ·exact h
theorem QPb {s:List UInt8}(h:(UM s).2.2.2=true):Ue s=(ZS,1):=by
 unfold Ue;rw[M3];unfold VM;rw[h];simp
theorem YCa (l m:List Part)(d:Dec):ZJ (l++m) d=ZJ m (ZJ l d):=by simp[ZJ]
theorem Qma {s:List UInt8}{k:Nat}(h:(ZJ ((Qr (ZE s).1.kind).take k) (ZE s)).2.2.2=true):Ue s=(ZS,1):=by
 refine QPb ?_
 have:UM s=ZJ ((Qr (ZE s).1.kind).drop k) (ZJ ((Qr (ZE s).1.kind).take k) (ZE s)):=by
  rw[←YCa,List.take_append_drop];rfl
 rw[this];exact Qhb _ _ h
theorem UPb {s:List UInt8}(h:Qc (ZE s).1.kind 1 8=false):Ue s=(ZS,1):=by
 unfold Ue;rw[M3];unfold VM;rw[h];rfl
theorem V6b {s:List UInt8}(h:s.length<3):Ue s=(ZS,1):=by
 refine Qma (k:=0) ?_
 show(Zh (Zh (s,false) 1).2 2).2.2=true
 by_cases h1:s.length<1
 ·have:Zh (s,false) 1=(0,([],true)):=M3 h1;rw[this];rfl
 ·have:Zh (s,false) 1=(Ur (s.take 1),(s.drop 1,false)):=M2 h1;rw[this];have A:Zh (s.drop 1,false) 2=(0,([],true)):=M3 (by simp;omega);rw[A]
theorem V7b {s:List UInt8}{k:Nat}(h:1<(ZJ ((Qr (ZE s).1.kind).take k) (ZE s)).2.1)(D:4∉((Qr (ZE s).1.kind).drop k).map Part.ix):Ue s=(ZS,1):=by
 unfold Ue;rw[M3]
 have e:UM s=ZJ ((Qr (ZE s).1.kind).drop k) (ZJ ((Qr (ZE s).1.kind).take k) (ZE s)):=by
  rw[←YCa,List.take_append_drop];rfl
 have:=QEa (i:=4) (by simp[Xs]) ((Qr (ZE s).1.kind).drop k) (ZJ ((Qr (ZE s).1.kind).take k) (ZE s)) D;rw[←e]at this;have A:(UM s).2.1=(ZJ ((Qr (ZE s).1.kind).take k) (ZE s)).2.1:=this;unfold VM;rw[A];simp[h]
theorem UQb {s:List UInt8}(h:(UM s).2.2.1≠[]):Ue s=(ZS,1):=by
 unfold Ue;rw[M3];unfold VM;simp[h]
theorem UOb {s:List UInt8}(A:Qc (ZE s).1.kind 1 8=true)(D:(UM s).2.2=([],false))(F:(UM s).2.1≤1):Ue s=if QS (Vr (UM s))≠0 then (ZS,QS (Vr (UM s)))else (Vr (UM s),0):=by
 have E:¬VM (UM s) (ZE s).1.kind=true:=by
  unfold VM;rw[A,D];simp;omega
 unfold Ue;rw[M2 E]
theorem Q9b {l:List Part}{k:Nat}{p:Part}(A:(l.map Part.ix).Nodup)(h:l[k]? = some p):p.ix∉(l.drop (k+1)).map Part.ix:=by
 induction l generalizing k with
 | nil=>simp at h
 | cons q l ih=>
  rw[List.map_cons,List.nodup_cons]at A
  cases k with
  | zero=>
   simp only[List.getElem?_cons_zero,Option.some.injEq]at h;subst h
   simpa using A.1
  | succ k=>exact ih A.2 (by simpa using h)
theorem QOb {a b c:UInt8}{r:List UInt8} : ZE (a::b::c::r)=(⟨256*(b.toNat:Int)+(c.toNat:Int),(a.toNat:Int),0,0,false,0,0,0,0,0,0⟩,0,(r,false)):=by
 have A:Zh (a::b::c::r,false) 1=((a.toNat:Int),(b::c::r,false)):=by
  unfold Zh;rw[M2 (by simp)];simp[Ur]
 have D:Zh (b::c::r,false) 2=(256*(b.toNat:Int)+(c.toNat:Int),(r,false)):=by
  unfold Zh;rw[M2 (by simp)];simp[Ur]
 unfold ZE;rw[A,D]
theorem Uqb (s:List UInt8)(w:World)(aj:s.length≤maxLen):Calls prog 136 #[.string ⟨s.toArray⟩] w fun e w'=>
  e=.returned (.tuple #[.agg (QY (Ue s).1),.int .i64 (Ue s).2])∧yw w w':=by
 obtain⟨V,hV⟩:=yE (Ue s);rw[←hV];have O:=yh hV;clear hV;unfold maxLen at aj;go_enter func136,ntmps136;go_upto_region 0 with(fail);go_cut [2] (fun c U=>∃z,yp c z∧AskAt U z ZS∧yw w U∧w.heap.size≤z)
 case first=>as_aux_lemma=>
  go_wp2_with fail;go_meet;exact⟨_,rfl,Blk.new _ _ _,Qi _ _,by omega⟩
 obtain⟨z,rfl,D,E,A⟩:=hcut;obtain⟨z0,z1,z2,z3,z4,z5,z6,z7,z8,z9,ac⟩:=D.all;have zf:=D.free;by_cases hfew:s.length<3
 ·obtain rfl:V=(ZS,1):=by rw[O.out];exact V6b hfew
  go_wp2_with fail;exact M4 (v:=.tuple #[.agg (QY ZS),.int .i64 1]) (UF (by kernel_rfl) (((((((((((Blk.set D _).set _).set _).set _).set _).set _).set _).set _).set _).set _).set _) rfl rfl) rfl ⟨rfl,((((((((((Below.setCell E (p:=⟨z,0,none⟩) A _).setCell (p:=⟨z,1,none⟩) A _).setCell (p:=⟨z,2,none⟩) A _).setCell (p:=⟨z,3,none⟩) A _).setCell (p:=⟨z,4,none⟩) A _).setCell (p:=⟨z,5,none⟩) A _).setCell (p:=⟨z,6,none⟩) A _).setCell (p:=⟨z,7,none⟩) A _).setCell (p:=⟨z,8,none⟩) A _).setCell (p:=⟨z,9,none⟩) A _).setCell (p:=⟨z,10,none⟩) A _⟩
 match s,hfew,aj,O with
 | [],hfew,_,_=>exact absurd (show([]:List UInt8).length<3 by decide) hfew
 | [_],hfew,_,_=>exact absurd (show[_].length<3 by simp) hfew
 | [_,_],hfew,_,_=>exact absurd (show[_,_].length<3 by simp) hfew
 | ca::cb::cc::rs,hfew,aj,O=>
  clear hfew;have ba:=QOb (a:=ca) (b:=cb) (c:=cc) (r:=rs);obtain⟨s,Y⟩:=yE (ca::cb::cc::rs);rw[←Y]at O ba aj ⊢;have X:=fun W=>XF (L:=s) (k:=0) (d:=ca) (by rw[Y];rfl) W;have aA:=fun W=>XF (L:=s) (k:=1) (d:=cb) (by rw[Y];rfl) W;have aQ:∀W,(Instr.index 9 (.string ⟨s.toArray⟩) (.int .i64 2)).run prog W=.ok (.int .u8 (cc.toNat:Int)) W:=fun W=>XF (L:=s) (k:=2) (d:=cc) (by rw[Y];rfl) W
  have aT:3≤s.length:=by rw[Y];simp
  have aC:s.drop 3=rs:=by rw[Y];rfl
  simp only[Int.natCast_zero,Int.natCast_one]at X aA;have ha:=ca.toNat_lt;have aO:=cb.toNat_lt;have ag:=cc.toNat_lt;have al:=yh ba;clear ba;have aI:=yh aC;clear aC;clear Y;obtain⟨N,hN⟩:=yE (ZR (ca.toNat:Int));go_wp2_with fail;refine(Qj (ca.toNat:Int) 1 8 _).mono ?_;rintro e w9 ⟨rfl,rfl⟩
  cases q_HK:Qc (ca.toNat:Int) 1 8<;>have HK:=yh q_HK<;>clear q_HK
  ·obtain rfl:V=(ZS,1):=by rw[O.out];exact UPb (by rw[al.out];exact HK)
   go_wp2_with fail;exact M4 (v:=.tuple #[.agg (QY ZS),.int .i64 1]) (UF (by kernel_rfl) (((((((((((Blk.set D _).set _).set _).set _).set _).set _).set _).set _).set _).set _).set _) rfl rfl) rfl ⟨rfl,((((((((((Below.setCell E (p:=⟨z,0,none⟩) A _).setCell (p:=⟨z,1,none⟩) A _).setCell (p:=⟨z,2,none⟩) A _).setCell (p:=⟨z,3,none⟩) A _).setCell (p:=⟨z,4,none⟩) A _).setCell (p:=⟨z,5,none⟩) A _).setCell (p:=⟨z,6,none⟩) A _).setCell (p:=⟨z,7,none⟩) A _).setCell (p:=⟨z,8,none⟩) A _).setCell (p:=⟨z,9,none⟩) A _).setCell (p:=⟨z,10,none⟩) A _⟩
  go_upto_region 3 with(fail);go_cut [4] (fun a U=>∃J,yp a J∧AskAt U J ⟨256*(cb.toNat:Int)+(cc.toNat:Int),(ca.toNat:Int),0,0,false,0,0,0,0,0,0⟩∧AskAt U z ZS∧yw w U∧w.heap.size≤J∧J≠z)
  case first=>as_aux_lemma=>
   have be:=Blk.lt D;go_region
   all_goals go_wp2_with fail
   all_goals go_meet
   all_goals exact⟨_,rfl,Blk.new wc _ _,D.bel (Qi wc _).drew,(E.alloc E.size _).drew,E.size,by omega⟩
  clear D E z0 z1 z2 z3 z4 z5 z6 z7 z8 z9 ac zf X aA aQ;obtain⟨J,rfl,F,D,E,ga,aE⟩:=hcut;obtain⟨_,k1,_⟩:=F.all;go_wp2_with fail;refine yN (Z7a (ca.toNat:Int) _) ?_;rw[←hN];clear k1;obtain⟨Q,ar⟩:=yE (Qr (ca.toNat:Int))
  have az:N.map QG=Q:=by rw[hN,ar,XG]
  have aW:N.length≤7:=by rw[hN];exact Vbb _
  have aB:(ZE s).1.kind=(ca.toNat:Int):=by rw[al.out]
  obtain⟨I,ba⟩:=yE (ZE s)
  have X:(⟨256*(cb.toNat:Int)+(cc.toNat:Int),(ca.toNat:Int),0,0,false,0,0,0,0,0,0⟩,(0:Int),(rs,false))=I:=by rw[ba,al.out]
  have e1:(⟨256*(cb.toNat:Int)+(cc.toNat:Int),(ca.toNat:Int),0,0,false,0,0,0,0,0,0⟩:Ask)=Vr I:=by rw[←X];rfl
  rw[e1]at F
  have e2:I.2.2=(s.drop 3,false):=by rw[←X,aI.out]
  have e3:0≤I.2.1∧I.2.1≤1:=by rw[←X];exact⟨Int.le_refl 0,by show(0:Int)≤1;decide⟩
  have E2:=yh e2;clear e2;have E3:=yh e3;clear e3;have HN:=yh hN;clear hN;have ae:=yh ar;clear ar;have aw:=yh az;clear az;have HD:=yh ba;clear ba;have ad:=yh aB;clear aB;clear e1 X ha aO ag;go_wp2_with fail
  go_loopg [6,7] N.length (fun gk a6 i wr=>∃k a:Nat,k≤N.length∧N.length-k≤gk∧i=.int .i64 k∧a6=.int .i64 a∧a≤s.length∧Aside ((ZJ (Q.take k) I).2.2=(s.drop a,false)∧0≤(ZJ (Q.take k) I).2.1∧(ZJ (Q.take k) I).2.1≤1)∧
   AskAt wr J (Vr (ZJ (Q.take k) I))∧AskAt wr z ZS∧yw w wr)
  case atStart=>exact⟨0,3,M0 _,by omega,rfl,rfl,aT,⟨E2,E3⟩,F,D,E⟩
  case round=>
   clear F D E;obtain⟨k,a,hk,bb,rfl,rfl,aX,HS,F,D,E⟩:=hrel;obtain⟨d,hd⟩:=yE (ZJ (Q.take k) I);have av:=yh hd;rw[←hd]at HS F;clear hd;by_cases hlt:k<N.length
   ·obtain⟨c,hc⟩:∃c,N[k]? = some c:=⟨_,J1 hlt⟩;have bc:=fun W=>XF hc W
    have ap:c∈ZR (ca.toNat:Int):=by rw[←HN.out];exact J6 hc
    have aq:Q[k]? = some (QG c):=by rw[←aw.out,List.getElem?_map,hc];rfl
    have aR:QG c∈Qr (ca.toNat:Int):=ZHa ap;obtain⟨m,hm,bf,bg⟩:=Yw aR;have aa:=yh (show ZJ (Q.take (k+1)) I=Vf d (QG c)by rw[Xia I aq,av.out]);have aF:=yh (YWa ap);have aH:=yh aq;obtain⟨y,hy⟩:=yE (Vr d);have ak:=fun W=>Uda y c W;rw[hm]at ak;dsimp only[QY]at ak;have an:=F;rw[←hy]at an;have aK:=yh ak;clear ak;obtain⟨c0,c1,c2,c3,c4,c5,c6,c7,c8,c9,ay⟩:=an.all;clear hc ap aq hy an;go_upto_region 9 with(fail);go_cut [8,9,10] (fun u t f U=>t=.int .i64 m∧yw wr U)
    case first=>as_aux_lemma=>
     go_region_with (go_at_call 126;refine yM (aK _) fun wn aP=>?_)
     all_goals
      go_wp2_with fail;go_meet;exact⟨rfl,(J4 _ wr).drew.trans aP⟩
    obtain⟨rfl,af⟩:=hcut;replace E:=E.trans (af.mono E.size);replace F:=F.bel af;replace D:=D.bel af;clear af c0 c1 c2 c3 c4 c5 c6 c7 c8 c9 ay;by_cases hsh:(s.length:Int)-a<m
    ·have aU:V=(ZS,1):=by
      rw[O.out];refine Qma (k:=k+1) ?_;rw[ad.out,←ae.out,←HD.out,aa.out]
      show(Zh d.2.2 (QG c).bytes.toNat).2.2=true
      rw[HS.1,hm];have:Zh (s.drop a,false) m=(0,([],true)):=M3 (by rw[List.length_drop];omega);rw[Int.toNat_natCast,this]
     obtain rfl:=aU;obtain⟨z0,z1,z2,z3,z4,z5,z6,z7,z8,z9,ac⟩:=D.all;have zf:=D.free;go_wp2_with fail;exact M4 (v:=.tuple #[.agg (QY ZS),.int .i64 1]) (UF (by kernel_rfl) (((((((((((Blk.set D _).set _).set _).set _).set _).set _).set _).set _).set _).set _).set _) rfl rfl) rfl ⟨rfl,((((((((((Below.setCell E (p:=⟨z,0,none⟩) A _).setCell (p:=⟨z,1,none⟩) A _).setCell (p:=⟨z,2,none⟩) A _).setCell (p:=⟨z,3,none⟩) A _).setCell (p:=⟨z,4,none⟩) A _).setCell (p:=⟨z,5,none⟩) A _).setCell (p:=⟨z,6,none⟩) A _).setCell (p:=⟨z,7,none⟩) A _).setCell (p:=⟨z,8,none⟩) A _).setCell (p:=⟨z,9,none⟩) A _).setCell (p:=⟨z,10,none⟩) A _⟩
    have au:Zh (s.drop a,false) m=(Ur ((s.drop a).take m),((s.drop a).drop m,false)):=M2 (by rw[List.length_drop];omega);rw[List.drop_drop]at au
    have Z:=yh (show Vf d (QG c)=(Y2 d.1 (QG c).ix (Ur ((s.drop a).take m)),VQa d.2.1 (QG c).ix (Ur ((s.drop a).take m)),(s.drop (a+m),false))by
     unfold Vf;rw[HS.1,hm,Int.toNat_natCast,au])
    clear au;go_upto_region 14 with(fail)
    go_loopg [6,11,12] m (fun aL a6 nv j wq=>∃i:Nat,i≤m∧m-i≤aL∧j=.int .i64 i∧a6=.int .i64 ((a:Int)+(i:Int))∧nv=.int .i64 (Ur ((s.drop a).take i))∧wq=wc)
    case atStart=>exact⟨0,by omega,by omega,rfl,by simp,rfl,rfl⟩
    case round=>
     obtain⟨i,hi,aZ,rfl,rfl,rfl,rfl⟩:=hrel;by_cases hli:i<m
     ·obtain⟨e,he⟩:∃e,s[a+i]? = some e:=⟨_,J1 (by omega)⟩
      have bd:∀W,(Instr.index 9 (.string ⟨s.toArray⟩) (.int .i64 ((a:Int)+(i:Int)))).run prog W=.ok (.int .u8 (e.toNat:Int)) W:=fun W=>by
       have:=XF he W
       rwa [Int.natCast_add]at this
      have ai:=Yt ((s.drop a).take i) e;rw[←Qo (show(s.drop a)[i]? = some e by rw[List.getElem?_drop];exact he)]at ai;have aM:=(YZ ((s.drop a).take i)).1;have aN:=YZa (l:=(s.drop a).take i) (by rw[J8];omega);have aY:=e.toNat_lt;obtain⟨M,hM⟩:=yE (Ur ((s.drop a).take i));rw[←hM]at ai aM aN ⊢;have aJ:=yh ai;clear ai;clear hM he;go_wp2_with fail;go_roundg (m-(i+1))
      case measure=>omega
      case rel=>exact⟨i+1,by omega,by omega,by go_num,by go_num,by rw[aJ.out],rfl⟩
     ·obtain rfl:i=m:=by omega
      have aD:=(YZ ((s.drop a).take i)).1;obtain⟨v,hv⟩:=yE (Ur ((s.drop a).take i));rw[←hv]at Z aD ⊢;obtain⟨c0,c1,c2,c3,c4,c5,c6,c7,c8,c9,ay⟩:=F.all;have hf:=F.free;have HA:=yh F;have HZ:=yh D;have HB:=yh E;clear hv F E;have ag:=aF.out;simp only[C9,List.mem_cons,List.not_mem_nil,or_false]at ag;rcases ag with rfl|rfl|rfl|rfl|rfl|rfl|rfl|rfl|rfl
      case inr.inr.inr.inr.inr.inr.inr.inr=>
       by_cases hv1:1<v
       ·obtain rfl:V=(ZS,1):=by
         rw[O.out];refine V7b (k:=k+1) ?_ ?_
         ·rw[ad.out,←ae.out,←HD.out,aa.out,Z.out];exact hv1
         ·rw[ad.out,←ae.out];exact Q9b (by rw[ae.out];exact(Y3a _).2) aH
        have E:=HB.out;obtain⟨z0,z1,z2,z3,z4,z5,z6,z7,z8,z9,ac⟩:=D.all;have zf:=D.free;go_wp2_with fail;exact M4 (v:=.tuple #[.agg (QY ZS),.int .i64 1]) (UF (by kernel_rfl) (((((((((((Blk.set D _).set _).set _).set _).set _).set _).set _).set _).set _).set _).set _) rfl rfl) rfl ⟨rfl,((((((((((Below.setCell E (p:=⟨z,0,none⟩) A _).setCell (p:=⟨z,1,none⟩) A _).setCell (p:=⟨z,2,none⟩) A _).setCell (p:=⟨z,3,none⟩) A _).setCell (p:=⟨z,4,none⟩) A _).setCell (p:=⟨z,5,none⟩) A _).setCell (p:=⟨z,6,none⟩) A _).setCell (p:=⟨z,7,none⟩) A _).setCell (p:=⟨z,8,none⟩) A _).setCell (p:=⟨z,9,none⟩) A _).setCell (p:=⟨z,10,none⟩) A _⟩
       ·clear D;go_wp2_with fail;go_roundg (N.length-(k+1))
        case measure=>omega
        case rel=>exact⟨k+1,a+i,by omega,by omega,by go_num,by go_num,by omega,(show Aside _ from by rw[aa.out,Z.out];exact⟨rfl,aD,by show v≤1;omega⟩),by rw[aa.out,Z.out];exact HA.set _,HZ.other (p:=⟨J,4,none⟩) aE _,HB.setCell (p:=⟨J,4,none⟩) ga _⟩
      all_goals
       clear D;go_wp2_with fail;go_roundg (N.length-(k+1))
       case measure=>omega
       case rel=>exact⟨k+1,a+i,by omega,by omega,by go_num,by go_num,by omega,(show Aside _ from by rw[aa.out,Z.out];exact⟨rfl,HS.2⟩),by rw[aa.out,Z.out];exact HA.set _,HZ.other (p:=⟨J,_,none⟩) aE _,HB.setCell (p:=⟨J,_,none⟩) ga _⟩
   ·obtain rfl:k=N.length:=by omega
    have aS:Q.length=N.length:=by rw[←aw.out];simp
    have ab:d=UM s:=by rw[av.out,←aS,List.take_length,HD.out,ae.out];unfold UM;rw[ad.out]
    obtain⟨z0,z1,z2,z3,z4,z5,z6,z7,z8,z9,ac⟩:=D.all;have zf:=D.free;by_cases hmo:a<s.length
    ·obtain rfl:V=(ZS,1):=by
      rw[O.out];refine UQb ?_;rw[←ab,HS.1];intro e;have:=congrArg List.length e;simp at this;omega
     clear ab;go_wp2_with fail;exact M4 (v:=.tuple #[.agg (QY ZS),.int .i64 1]) (UF (by kernel_rfl) (((((((((((Blk.set D _).set _).set _).set _).set _).set _).set _).set _).set _).set _).set _) rfl rfl) rfl ⟨rfl,((((((((((Below.setCell E (p:=⟨z,0,none⟩) A _).setCell (p:=⟨z,1,none⟩) A _).setCell (p:=⟨z,2,none⟩) A _).setCell (p:=⟨z,3,none⟩) A _).setCell (p:=⟨z,4,none⟩) A _).setCell (p:=⟨z,5,none⟩) A _).setCell (p:=⟨z,6,none⟩) A _).setCell (p:=⟨z,7,none⟩) A _).setCell (p:=⟨z,8,none⟩) A _).setCell (p:=⟨z,9,none⟩) A _).setCell (p:=⟨z,10,none⟩) A _⟩
    have am:=yh (show V=if QS (Vr d)≠0 then (ZS,QS (Vr d))else (Vr d,0)by
     rw[O.out,ab];refine UOb (by rw[ad.out];exact HK) ?_ (by rw[←ab];exact HS.2.2)
     rw[←ab,HS.1,List.drop_eq_nil_of_le (by omega)])
    obtain⟨y,hy⟩:=yE (Vr d);obtain⟨r,hr⟩:=yE (QS y);rw[←hy,←hr]at am;rw[←hy]at F;have ah:=fun W=>QOa y W;rw[Xba,←hr]at ah;dsimp only[QY]at ah;have aG:=yh ah;clear ah;obtain⟨a0,a1,a2,a3,a4,a5,a6,a7,a8,a9,ax⟩:=F.all;clear hy hr ab z0 z1 z2 z3 z4 z5 z6 z7 z8 z9 ac;go_wp2_with fail;refine yM (aG _) fun w5 ao=>?_;replace F:=F.bel ao;replace D:=D.bel ao;replace E:=E.trans (ao.mono E.size);obtain⟨z0,z1,z2,z3,z4,z5,z6,z7,z8,z9,ac⟩:=D.all;replace zf:=D.free;by_cases h0:¬r=0
    ·obtain rfl:V=(ZS,r):=by rw[am.out,M3 h0]
     have aV:(r !=0)=true:=by simpa using h0
     clear h0;go_wp2_with fail;exact M4 (v:=.tuple #[.agg (QY ZS),.int .i64 r]) (UF (by kernel_rfl) (((((((((((Blk.set D _).set _).set _).set _).set _).set _).set _).set _).set _).set _).set _) rfl rfl) rfl ⟨rfl,((((((((((Below.setCell E (p:=⟨z,0,none⟩) A _).setCell (p:=⟨z,1,none⟩) A _).setCell (p:=⟨z,2,none⟩) A _).setCell (p:=⟨z,3,none⟩) A _).setCell (p:=⟨z,4,none⟩) A _).setCell (p:=⟨z,5,none⟩) A _).setCell (p:=⟨z,6,none⟩) A _).setCell (p:=⟨z,7,none⟩) A _).setCell (p:=⟨z,8,none⟩) A _).setCell (p:=⟨z,9,none⟩) A _).setCell (p:=⟨z,10,none⟩) A _⟩
    ·obtain rfl:r=0:=by omega
     obtain rfl:V=(y,0):=by rw[am.out,M2 (by simp)]
     clear a0 a1 a2 a3 a4 a5 a6 a7 a8 a9 ax;obtain⟨a0,a1,a2,a3,a4,a5,a6,a7,a8,a9,ax⟩:=F.all;go_wp2_with fail;exact M4 (v:=.tuple #[.agg (QY y),.int .i64 0]) (UF (x:=y) (e:=0) (by kernel_rfl) (Xca y D) rfl rfl) rfl ⟨rfl,((((((((((Below.setCell E (p:=⟨z,0,none⟩) A _).setCell (p:=⟨z,1,none⟩) A _).setCell (p:=⟨z,2,none⟩) A _).setCell (p:=⟨z,3,none⟩) A _).setCell (p:=⟨z,4,none⟩) A _).setCell (p:=⟨z,5,none⟩) A _).setCell (p:=⟨z,6,none⟩) A _).setCell (p:=⟨z,7,none⟩) A _).setCell (p:=⟨z,8,none⟩) A _).setCell (p:=⟨z,9,none⟩) A _).setCell (p:=⟨z,10,none⟩) A _⟩
end Go.Proofs.YtjdcokpmgionjaaGreat
