/-
  Words, laws and contracts: CodeE, CodeF, CodeG, CodeH, CodeI.
-/
import Derived.Test.YtjdcokpmgionjaaGreatBun1
import Derived.Test.YtjdcokpmgionjaaGreatBun2
import Derived.LaidEqlPtr
import Derived.Laws.ResultCell
set_option linter.unusedSimpArgs false
set_option linter.unusedVariables false
set_option maxRecDepth 100000
set_option maxHeartbeats 20000000
namespace Go.Proofs.YtjdcokpmgionjaaGreat
open Go.RowKit Go.Shelf
def AskAt (w:World) (b:Nat) (x:Ask):Prop:=Blk w b (Q1 x) 53
theorem AskAt.bel {w w':World}{b:Nat}{x:Ask}(h:AskAt w b x)(A:yw w w'):AskAt w' b x:=Blk.bel h A
def Qla (x:Ask) (i:Nat) (v:Int):Ask:=
 { x with id:=if i=2 then v else x.id,guests:=if i=3 then v else x.guests,cabin:=if i=5 then v else x.cabin,category:=if i=6 then v else x.category,frm:=if i=7 then v else x.frm,upto:=if i=8 then v else x.upto,til:=if i=9 then v else x.til,amount:=if i=10 then v else x.amount }
def Vwa (lev:Int) (i:Nat) (v:Int):Int:=if i=4 then v else lev
def X0 (x:Ask) (lev:Int) (i:Nat):Int:=if i=4 then lev else fld x i
theorem Uy {k:Int}{p:Part}(h:p∈QD k):p=pId∨p=XQ∨p=Qha∨p=Qga∨p=Xt∨p=YUa∨p=pTo∨p=XMa∨p=QQa:=by
 have A:∀p∈QD k,p∈[pId,XQ,Qha,Qga,Xt,YUa,pTo,XMa,QQa]:=by
  unfold QD
  repeat' split
  all_goals decide
 simpa using A p h
theorem XHa {w:World}{A D:Nat}{x:Ask}{lev k:Int}{t:TypeId}(E:AskAt w A x)(F:Blk w D #[.int .i64 lev] t){p:Part}(I:p∈QD k) :
  w.cell? (QT A D p.ix)=some (.int .i64 (X0 x lev p.ix))∧w.frozen? (QT A D p.ix)=false:=by
 rcases Uy I with rfl | rfl | rfl | rfl | rfl | rfl | rfl | rfl | rfl
 all_goals first
  | exact⟨E.cell rfl,E.free _⟩
  | exact⟨F.cell rfl,F.free _⟩
theorem Z3b {w:World}{A D:Nat}{x:Ask}{lev k:Int}{t:TypeId}(E:AskAt w A x)(F:Blk w D #[.int .i64 lev] t)(I:A≠D){p:Part}(J:p∈QD k)(v:Int) :
  AskAt (w.setCell (QT A D p.ix) (.int .i64 v)) A (Qla x p.ix v)∧Blk (w.setCell (QT A D p.ix) (.int .i64 v)) D #[.int .i64 (Vwa lev p.ix v)] t:=by
 rcases Uy J with rfl | rfl | rfl | rfl | rfl | rfl | rfl | rfl | rfl
 all_goals first
  | exact⟨E.set _,F.other (p:=⟨A,_,none⟩) I _⟩
  | exact⟨E.other (p:=⟨D,0,none⟩) (fun e=>I e.symm) _,F.set _⟩
def XX (l:List UInt8):Int:=l.foldl (fun n c=>256*n+(c.toNat:Int)) 0
theorem Qaa (l:List UInt8)(c:UInt8):XX (l++[c])=256*XX l+(c.toNat:Int):=by simp[XX]
theorem YPa (l:List UInt8):0≤XX l∧XX l < 256 ^ l.length:=by
 induction h:l.length generalizing l with
 | zero=>obtain rfl:l=[]:=List.length_eq_zero_iff.1 h;exact⟨by decide,by decide⟩
 | succ n ih=>
  rcases List.eq_nil_or_concat l with rfl | ⟨A,c,rfl⟩
  ·simp at h
  ·rw[List.concat_eq_append]at h ⊢
   rw[Qaa];have:=ih A (by simp at h;omega)
   have D:(c.toNat:Int) < 256:=by have:=c.toNat_lt;omega
   rw[Int.pow_succ];omega
theorem Ydb {l:List UInt8}(h:l.length≤3):XX l < 16777216:=by
 have A:=(YPa l).2
 have D:l.length=0∨l.length=1∨l.length=2∨l.length=3:=by omega
 rcases D with e | e | e | e<;>rw[e]at A<;>simp at A<;>omega
theorem ZFc {N:Int}{c:UInt8}(h:0≤N)(A:N < 16777216):bits .or .i64 (N*256) (c.toNat:Int)=256*N+(c.toNat:Int):=by
 obtain⟨a,rfl⟩:=Int.eq_ofNat_of_zero_le h;have F:=c.toNat_lt;have D:=(bits_nat .i64 40 (by decide) (fun n E A=>by rw[IntKind.wrap_i64];omega) (a*256) c.toNat (by omega) (by omega)).2;rw[show((a:Int)*256)=((a*256:Nat):Int)by simp,D,Nat.mul_comm,←Nat.two_pow_add_eq_or_of_lt (i:=8) (by omega) a]
 simp
def UO (r:List UInt8×Bool) (m:Nat):Int×(List UInt8×Bool):=if r.1.length < m then (0,([],true))else (XX (r.1.take m),(r.1.drop m,r.2))
def RdAt (w:World) (b:Nat) (r:List UInt8×Bool):Prop:=Blk w b #[.string ⟨r.1.toArray⟩,.bool r.2] 197
theorem Qba (b:Nat)(r:List UInt8×Bool)(m:Nat)(w:World)(hm:m≤4)(h:RdAt w b r) :
  Calls Tryz.prog 139 #[.pointer (some ⟨b,0,none⟩),.int .i64 m] w fun e w'=>e=.returned (.int .i64 (UO r m).1)∧RdAt w' b (UO r m).2∧Kept (fun k=>k=b) w w':=by
 obtain⟨L,J⟩:=r;have g0:=Blk.cell h (j:=0) rfl;have g1:=Blk.cell h (j:=1) rfl;have f0:=Blk.free h 0;have f1:=Blk.free h 1
 by_cases D:L.length < m
 ·have A:=yh (show UO (L,J) m=(0,([],true))from if_pos D)
  go_enter Tryz.func139,Tryz.ntmps139
  go_wp2_with fail
  go_ret
  refine⟨by rw[A.out];rfl,?_,?_⟩
  ·rw[A.out];exact(Blk.set h _).set _
  ·exact((Kept.refl (fun k=>k=b) w).setCell (p:=⟨b,0,none⟩) (.inl rfl) _).setCell (p:=⟨b,1,none⟩) (.inl rfl) _
 ·have A:=yh (show UO (L,J) m=(XX (L.take m),(L.drop m,J))from if_neg D)
  have kc:=fun(W:World) (s:ByteArray)=>Lib.run_convert_string_bytes (P:=Tryz.prog) W 9 250 5 s Tryz.underlying9 Tryz.underlying250 Tryz.underlying5
  have ab:(L.take m).length=m:=by rw[List.length_take];omega
  have ag:m≤L.length:=by omega
  go_enter Tryz.func139,Tryz.ntmps139
  go_wp2_with fail
  go_loopg [5,29] m (fun gk nv i wr=>∃k:Nat,k≤m∧m - k≤gk∧i=.int .i64 k∧nv=.int .i64 (XX (L.take k))∧wr=Lib.bytesWorld w 5 ((⟨L.toArray⟩:ByteArray).extract 0 m))
  case atStart=>exact⟨0,by omega,by omega,rfl,rfl,rfl⟩
  case round=>
   obtain⟨k,hk,ae,rfl,rfl,rfl⟩:=hrel
   by_cases hl:k < m
   ·have I:L[k]? = some (L[k]'(by omega)):=List.getElem?_eq_getElem _
    obtain⟨c,hc⟩:∃c,c=L[k]'(by omega):=⟨_,rfl⟩;rw[←hc]at I
    have O:(⟨L.toArray⟩:ByteArray).extract 0 m=⟨(L.take m).toArray⟩:=by rw[ByteArray.extract_mk];rfl
    have gc:=Lib.bytesWorld_cell w 5 ((⟨L.toArray⟩:ByteArray).extract 0 m) k (by rw[O];show k < (L.take m).toArray.size;rw[List.size_toArray,ab];exact hl)
    rw[show(((⟨L.toArray⟩:ByteArray).extract 0 m).data.toList.getD k 0)=c by
     rw[O];simp[List.getD,hl,I]]at gc
    have F:=Qaa (L.take k) c;rw[←Qn I]at F;have E:=YPa (L.take k)
    have ad:(c.toNat:Int) < 256:=by have:=c.toNat_lt;omega
    have V:XX (L.take k) < 16777216:=Ydb (by rw[List.length_take];omega);obtain⟨N,U⟩:∃N,N=XX (L.take k):=⟨_,rfl⟩;rw[←U]at F E V ⊢;have Y:=yh F;have HN:=yh U;have ac:=E.1;have af:=ZFc (c:=c) E.1 V;clear F U E hc I O
    go_wp2_with fail
    go_roundg (m - (k+1))
    case measure=>omega
    case rel=>exact⟨k+1,by omega,by omega,by go_num,by rw[Y.out],rfl⟩
   ·obtain rfl:k=m:=by omega
    have D:b < w.heap.size:=Blk.lt h;have k0:=(Lib.bytesWorld_old w 5 ((⟨L.toArray⟩:ByteArray).extract 0 k) ⟨b,0,none⟩ D).trans g0;have Q:Blk (Lib.bytesWorld w 5 ((⟨L.toArray⟩:ByteArray).extract 0 k)) b #[.string ⟨L.toArray⟩,.bool J] 197:=(Lib.bytesWorld_at_old _ _ _ _ D).trans h;have f2:=Q.free 0;have X:=yh Q;clear Q
    go_wp2_with fail
    go_ret
    have Z:(⟨L.toArray⟩:ByteArray).extract k L.length=⟨(L.drop k).toArray⟩:=by rw[ByteArray.extract_mk,List.take_of_length_le (by simp)]
    refine⟨by rw[A.out];rfl,?_,?_⟩
    ·rw[A.out,Z];exact X.out.set (j:=0) _
    ·have aa:Kept (fun k=>k=b) w (Lib.bytesWorld w 5 ((⟨L.toArray⟩:ByteArray).extract 0 k)):=
      ⟨rfl,rfl,rfl,by rw[Lib.bytesWorld_size];omega,fun j hj _=>Lib.bytesWorld_at_old _ _ _ _ hj⟩
     exact aa.setCell (p:=⟨b,0,none⟩) (.inl rfl) _
def zf (l:List Part) (x:Ask):Ask:=l.foldl (fun y p=>Qla y p.ix 0) x
theorem Q9c (l:List Part)(x:Ask)(p:Part):zf (l++[p]) x=Qla (zf l x) p.ix 0:=by simp[zf]
def Vi (x:Ask):Ask:={ zf (QD x.kind) x with level:=if (QD x.kind).any (fun p=>p.ix == 4)then false else x.level }
def Yb (x:Ask):Bool:=decide (Vi x={ (default:Ask)with number:=x.number,kind:=x.kind })
theorem Uwb (l:List Part)(x:Ask):(zf l x).level=x.level∧(zf l x).number=x.number∧(zf l x).kind=x.kind:=by
 have A:∀(l:List Part) (x y:Ask),y.level=x.level∧y.number=x.number∧y.kind=x.kind→(l.foldl (fun y p=>Qla y p.ix 0) y).level=x.level∧(l.foldl (fun y p=>Qla y p.ix 0) y).number=x.number∧(l.foldl (fun y p=>Qla y p.ix 0) y).kind=x.kind:=by
  intro l
  induction l with
  | nil=>intro x y h;exact h
  | cons p l ih=>intro x y h;rw[List.foldl_cons];exact ih x _ h
 exact A l x x ⟨rfl,rfl,rfl⟩
theorem Uqa (O Q:Nat)(A:Option Addr)(n cap:Nat)(l:List Part)(g:Nat)(lb:Array Value)(p:Part→Bool)(w:World)(h:Sl (U0a O Q) 3 w All A n cap l)
  (eg:∀W w,(callFunc g W).run Tryz.prog w=.ok (.enter g W) w)
  (X:∀(x:Part) (w1:World),x∈l→yw w w1→Calls Tryz.prog g (#[.agg #[.int .i64 x.bytes,.int .i64 x.most,.pointer (some (QT O Q x.ix))]]++lb) w1 fun e w'=>e=.returned (.bool (p x))∧yw w1 w') :
  Calls Tryz.prog 237 #[.slice A n cap,.func (.func g) #[] lb] w fun e w'=>e=.returned (.int .i64 (Uq p l))∧yw w w':=by
 have Hp:=yh X;clear X;have aa:=h.bd
 go_enter Tryz.func237,Tryz.ntmps237
 go_wp2_with fail
 go_loopg [8] n (fun gk i wr=>∃k:Nat,k≤n∧n - k≤gk∧i=.int .i64 k∧Aside ((l.take k).any p=false)∧yw w wr)
 case atStart=>exact⟨0,Nat.zero_le _,by omega,rfl,rfl,Below.refl _ _⟩
 case round=>
  obtain⟨k,hk,ab,rfl,I,D⟩:=hrel
  by_cases hlt:k < n
  ·obtain⟨b,ac,x,c0,c1,c2,rfl,U,F,g0,g1,g2⟩:=(h.below (VE O Q) (by omega) D).at3 hlt
   obtain⟨F,hw⟩:=F;simp only[List.cons.injEq,and_true]at F;obtain⟨rfl,rfl,rfl⟩:=F;have V:=yh U;have Y:=yh (List.mem_of_getElem? U);clear U
   have E:=fun w1 (ad:yw w w1)=>Hp.out x w1 Y.out ad
   cases hq:p x with
   | true=>
    rw[hq]at E;have J:=yh hq;clear hq
    go_wp2_with (go_at_fn g;refine(E _ D).mono ?_;rintro e w1 ⟨rfl,ad⟩;replace ad:=D.trans (ad.mono D.size);clear E)
    go_ret
    exact⟨ZH (VR I V.out J.out).symm,ad⟩
   | false=>
    rw[hq]at E;have J:=yh hq;clear hq
    go_wp2_with (go_at_fn g;refine(E _ D).mono ?_;rintro e w1 ⟨rfl,ad⟩;replace ad:=D.trans (ad.mono D.size);clear E)
    go_roundg (n - (k+1))
    case measure=>omega
    case rel=>exact⟨k+1,by omega,by omega,by go_num,by show _=_;rw[QF V.out,I,J.out];rfl,ad⟩
  ·have:k=n:=by omega
   subst this;have Z:=yh (List.take_of_length_le (Nat.le_of_eq h.len))
   go_wp2_with fail
   go_ret
   exact⟨ZH (by rw[Ud (by rw[←Z.out];exact I)]),D⟩
theorem Qpa (V D:Nat)(A:Option Addr)(n cap:Nat)(l:List Part)(g:Nat)(lb:Array Value)(p:Part→Bool)(w:World)(h:Sl (U0a V D) 3 w All A n cap l)
  (O:∀E w,(callFunc g E).run Tryz.prog w=.ok (.enter g E) w)
  (F:∀(x:Part) (w1:World),x∈l→yw w w1→Calls Tryz.prog g (#[.agg #[.int .i64 x.bytes,.int .i64 x.most,.pointer (some (QT V D x.ix))]]++lb) w1 fun e w'=>e=.returned (.bool (p x))∧yw w1 w') :
  Calls Tryz.prog 204 #[.slice A n cap,.func (.func g) #[] lb] w fun e w'=>e=.returned (.bool (l.any p))∧yw w w':=by
 have I:=Uqa V D A n cap l g lb p w h O F;clear F
 go_enter Tryz.func204,Tryz.ntmps204
 go_wp2_with fail
 refine I.mono ?_;rintro e w1 ⟨rfl,Q⟩;have J:=yh (VD (p:=p) (l:=l));have U:=XL (p:=p) (l:=l) (by have:=h.bd;have:=h.len;omega)
 go_wp2_with fail
 go_ret
 exact⟨ZN J.out,Q⟩
theorem AskAt.all {w:World}{b:Nat}{x:Ask}(h:AskAt w b x) :
  yI w b 0 x.number∧yI w b 1 x.kind∧yI w b 2 x.id∧yI w b 3 x.guests∧w.cell? ⟨b,4,none⟩=some (.bool x.level)∧
  yI w b 5 x.cabin∧yI w b 6 x.category∧yI w b 7 x.frm∧yI w b 8 x.upto∧yI w b 9 x.til∧
  yI w b 10 x.amount:=
 ⟨h.cell rfl,h.cell rfl,h.cell rfl,h.cell rfl,h.cell rfl,h.cell rfl,h.cell rfl,h.cell rfl,h.cell rfl,h.cell rfl,h.cell rfl⟩
theorem XOb:∃j,Tryz.prog.info? 3=some j∧j.size≠0:=by
 have E:(Tryz.prog.info? 3).isSome=true:=by kernel_rfl
 have D:((Tryz.prog.info? 3).map fun j=>decide (j.size≠0))=some true:=by kernel_rfl
 obtain⟨j,A⟩:=Option.isSome_iff_exists.1 E;rw[A]at D;exact⟨j,A,by simpa using D⟩
theorem UIb (D A:Nat)(p:Part)(y:Ask)(w:World)(W:D≠A)(U:AskAt w D y)(V:Blk w A #[.int .i64 0] 3) :
  Calls Tryz.prog 205 #[.agg #[.int .i64 p.bytes,.int .i64 p.most,.pointer (some (QT D A p.ix))],.pointer (some ⟨A,0,none⟩)] w fun e w'=>e=.returned (.bool (p.ix == 4))∧yw w w':=by
 obtain⟨j,J,Q⟩:=XOb;have E:=U.bel (Qf w (.cells #[.int .i64 p.bytes,.int .i64 p.most,.pointer (some (QT D A p.ix))] 194));have F:=V.bel (Qf w (.cells #[.int .i64 p.bytes,.int .i64 p.most,.pointer (some (QT D A p.ix))] 194))
 by_cases h:p.ix=4
 ·have I:QT D A p.ix=⟨A,0,none⟩:=by unfold QT;rw[if_pos h]
  have O:=yh (show(p.ix == 4)=true by simpa using h);rw[I]at E F ⊢;have X:=run_eql_ptr_same (P:=Tryz.prog) (w.alloc (.cells #[.int .i64 p.bytes,.int .i64 p.most,.pointer (some ⟨A,0,none⟩)] 194)) ⟨A,0,none⟩ Tryz.underlying192 J;clear h I E F J Q
  go_enter Tryz.func205,Tryz.ntmps205
  go_wp2_with fail
  go_ret
  exact⟨ZN (by rw[O.out]),Qf _ _⟩
 ·have I:QT D A p.ix=⟨D,p.ix,none⟩:=by unfold QT;rw[if_neg h]
  have O:=yh (show(p.ix == 4)=false by simpa using h);rw[I]at E F ⊢;have X:=run_eql_ptr_other (P:=Tryz.prog) (w.alloc (.cells #[.int .i64 p.bytes,.int .i64 p.most,.pointer (some ⟨D,p.ix,none⟩)] 194)) (a:=⟨D,p.ix,none⟩) (b:=⟨A,0,none⟩) Tryz.underlying192 J Q (fun e=>W (congrArg Addr.block e)) E F;clear h I E F J Q
  go_enter Tryz.func205,Tryz.ntmps205
  go_wp2_with fail
  go_ret
  exact⟨ZN (by rw[O.out]),Qf _ _⟩
def UFb (a b:Ask):Bool:=decide (a=b)
theorem Xva (a b:Ask)(W:World):(binOp .eql 53 (.agg (Q1 a)) (.agg (Q1 b))).run Tryz.prog W=.ok (.bool (UFb a b)) W:=by
 unfold UFb;obtain⟨A,D,F,I,J,O,Q,U,V,a9,E⟩:=a;obtain⟨X,Y,b2,b3,b4,b5,b6,b7,b8,b9,Z⟩:=b;unfold Q1;simp only[Ask.mk.injEq];go_simp
 repeat' split
 all_goals simp_all
theorem Xgb (x:Ask)(w:World):Calls Tryz.prog 140 #[.agg (Q1 x)] w fun e w'=>e=.returned (.bool (Yb x))∧yw w w':=by
 unfold Q1
 go_enter Tryz.func140,Tryz.ntmps140
 go_upto_region 1 with(fail)
 go_cut [1,3,4] (fun a b c wx=>∃O b1 D,a=.pointer (some ⟨O,0,none⟩)∧b=.pointer (some ⟨b1,0,none⟩)∧c=.pointer (some ⟨D,0,none⟩)∧AskAt wx O x∧AskAt wx b1 x∧Blk wx D #[.int .i64 0] 3∧yw w wx∧w.heap.size≤b1∧w.heap.size≤D∧O≠b1∧O≠D∧b1≠D)
 case first=>as_aux_lemma=>
  go_wp2_with fail
  go_meet
  exact⟨_,_,_,rfl,rfl,rfl,Yd _ _ _ _,Ye _ _ _ _,Yf _ _ _ _,Q8a _ _ _ _,by omega,by omega,by omega,by omega,by omega⟩
 obtain⟨O,b1,D,rfl,rfl,rfl,X,F,J,I,aj,an,ay,az,ah⟩:=hcut
 go_wp2_with fail
 refine(YH b1 D x.kind _ (F.cell rfl)).mono ?_;rintro e w2 ⟨A,n,cap,rfl,Y,aB⟩;have aw:=Blk.lt F;have ax:=J.lt;replace X:=X.bel aB;replace F:=F.bel aB;replace J:=J.bel aB;replace I:=I.trans (aB.mono I.size);have am:=Blk.lt X;have au:=Blk.lt F;have av:=J.lt;clear aB;obtain⟨E,ad⟩:∃E,E=QD x.kind:=⟨_,rfl⟩;rw[←ad]at Y;have ae:=yh ad;clear ad;have aq:=Y.bd
 go_wp2_with fail
 go_loopg [16] n (fun gk i wr=>∃k:Nat,k≤n∧n - k≤gk∧i=.int .i64 k∧AskAt wr b1 (zf (E.take k) x)∧Blk wr D #[.int .i64 0] 3∧Kept (fun j=>j=b1∨j=D) w2 wr)
 case atStart=>exact⟨0,Nat.zero_le _,by omega,rfl,F,J,Kept.refl _ _⟩
 case round=>
  obtain⟨k,hk,ar,rfl,F,J,hK⟩:=hrel;have ab:=Y.kept hK (fun b _ hT=>by have hT:wc.heap.size≤b:=hT;rintro(rfl | rfl)<;>omega)
  by_cases hlt:k < n
  ·obtain⟨b,aA,p,c0,c1,c2,rfl,hx,⟨hc,_⟩,g0,g1,g2⟩:=ab.at3 hlt
   simp only[List.cons.injEq,and_true]at hc;obtain⟨rfl,rfl,rfl⟩:=hc
   have Z:p∈QD x.kind:=by rw[←ae.out];exact List.mem_of_getElem? hx
   have aa:=Qf wr (.cells #[.int .i64 p.bytes,.int .i64 p.most,.pointer (some (QT b1 D p.ix))] 194);have hP:=XHa (F.bel aa) (J.bel aa) Z;have ao:=hP.1;have ap:=hP.2;have hN:=Z3b (F.bel aa) (J.bel aa) ah Z 0;have HN:=yh hN;have HZ:=yh (show zf (E.take (k+1)) x=Qla (zf (E.take k) x) p.ix 0 by rw[Qn hx,Q9c]);have HM:=yh Z;clear hx hN hP Z ab
   go_wp2_with fail
   go_roundg (n - (k+1))
   case measure=>omega
   case rel=>
    refine⟨k+1,by omega,by omega,by go_num,by rw[HZ.out];exact HN.out.1,?_,?_⟩
    ·have:=HN.out.2
     rwa [show Vwa 0 p.ix 0=0 by unfold Vwa;split<;>rfl]at this
    ·refine(hK.alloc _).setCell (.inl ?_) _
     unfold QT;split
     ·exact .inr rfl
     ·exact .inl rfl
  ·obtain rfl:k=n:=by omega
   have HT:=yh (show E.take k=E from List.take_of_length_le (Nat.le_of_eq Y.len));have al:=hK.below (B:=w.heap.size) I.size (by rintro j hj (rfl | rfl)<;>omega);replace I:=I.trans al;have ag:=Qpa b1 D A k cap E 205 #[.pointer (some ⟨D,0,none⟩)] (fun p=>p.ix == 4) wr (ab.all (VE _ _) (by omega)) (enters_of Tryz.func205 (by kernel_rfl) rfl) (fun p w1 _ af=>UIb b1 D p _ w1 ah (F.bel af) (J.bel af));have HC:=yh ag;clear ag
   go_wp2_with fail
   refine HC.out.mono ?_;rintro e w3 ⟨rfl,ac⟩
   have ak:AskAt w3 O x:=(hK.block O am (by rintro(h | h)<;>omega)).trans X |> fun h=>AskAt.bel h ac
   have V:=F.bel ac;rw[HT.out]at V;obtain⟨a0,a1,_⟩:=ak.all
   have U:Vi x={ zf E x with level:=if E.any (fun p=>p.ix == 4)then false else x.level }:=by rw[ae.out];rfl
   replace I:=I.trans (ac.mono I.size)
   cases q:E.any (fun p=>p.ix == 4)with
   | true=>
    rw[if_pos q]at U;obtain⟨y,Q⟩:∃y,y=Vi x:=⟨_,rfl⟩;have HB:=yh (show Yb x=UFb y ⟨x.number,x.kind,0,0,false,0,0,0,0,0,0⟩by rw[Q];rfl);have f4:=V.free 4;have g4:=V.cell (j:=4) rfl
    have hC:AskAt (w3.setCell ⟨b1,4,none⟩ (.bool false)) b1 y:=by rw[Q,U];exact V.set _
    obtain⟨c0,c1,c2,c3,c4,c5,c6,c7,c8,c9,ai⟩:=hC.all
    have kq:=fun W=>Xva y ⟨x.number,x.kind,0,0,false,0,0,0,0,0,0⟩ W
    dsimp only[Q1]at kq
    clear U Q q
    go_wp2_with fail
    go_ret
    exact⟨ZN HB.out.symm,I.setCell (p:=⟨b1,4,none⟩) aj _⟩
   | false=>
    rw[if_neg (by simp[q])]at U;obtain⟨y,Q⟩:∃y,y=Vi x:=⟨_,rfl⟩;have HB:=yh (show Yb x=UFb y ⟨x.number,x.kind,0,0,false,0,0,0,0,0,0⟩by rw[Q];rfl)
    have hC:AskAt w3 b1 y:=by
     rw[Q,U,←(Uwb E x).1];exact V
    obtain⟨c0,c1,c2,c3,c4,c5,c6,c7,c8,c9,ai⟩:=hC.all
    have kq:=fun W=>Xva y ⟨x.number,x.kind,0,0,false,0,0,0,0,0,0⟩ W
    dsimp only[Q1]at kq
    clear U Q q
    go_wp2_with fail
    go_ret
    exact⟨ZN HB.out.symm,I⟩
def Yt (x:Ask) (p:Part):Bool:=Qc (X0 x 0 p.ix) 0 p.most
def QU (x:Ask):Int:=
 if Qc x.kind 1 8=false then 7 else if Qc x.number 1 65535=false then 3 else if Yb x=false then 1 else if (QD x.kind).all (Yt x)then 0 else 3
theorem Vra {α:Type}{p:α→Bool}{l:List α}{k:Nat}{x:α}(A:l[k]? = some x):(l.take (k+1)).all p=((l.take k).all p && p x):=by rw[Qn A];simp
theorem V8b {α:Type}{p:α→Bool}{l:List α}{k:Nat}{x:α}(D:l[k]? = some x)(A:p x=false):l.all p=false:=by
 rw[List.all_eq_false];exact⟨x,List.mem_of_getElem? D,by simp[A]⟩
theorem Un (x:Ask)(w:World):Calls Tryz.prog 61 #[.agg (Q1 x)] w fun e w'=>e=.returned (.int .i64 (QU x))∧yw w w':=by
 obtain⟨r,hr⟩:∃r,r=QU x:=⟨_,rfl⟩;rw[←hr];have HR:=yh hr;clear hr;unfold Q1
 go_enter Tryz.func61,Tryz.ntmps61
 go_upto_region 1 with(fail)
 go_cut [1,3] (fun a b wx=>∃I J,a=.pointer (some ⟨I,0,none⟩)∧b=.pointer (some ⟨J,0,none⟩)∧AskAt wx I x∧Blk wx J #[.int .i64 0] 3∧yw w wx∧w.heap.size≤I∧w.heap.size≤J∧I≠J)
 case first=>as_aux_lemma=>
  go_wp2_with fail
  go_meet
  exact⟨_,_,rfl,rfl,QA _ _ _,QB _ _ _,Zh _ _ _,by omega,by omega,by omega⟩
 obtain⟨I,J,rfl,rfl,O,Q,hb,aj,ak,an⟩:=hcut
 go_wp2_with fail
 refine(YH I J x.kind _ (O.cell rfl)).mono ?_;rintro e w2 ⟨A,n,cap,rfl,E,V⟩;have E:=E.all (VE _ _) (by omega);replace O:=O.bel V;replace Q:=Q.bel V;replace hb:=hb.trans (V.mono hb.size);clear V;obtain⟨F,ab⟩:∃F,F=QD x.kind:=⟨_,rfl⟩;rw[←ab]at E;have ae:=yh ab;clear ab;have al:=E.bd;obtain⟨c0,c1,c2,c3,c4,c5,c6,c7,c8,c9,ah⟩:=O.all
 cases q_HK:Qc x.kind 1 8<;>have HK:=yh q_HK<;>clear q_HK
 ·obtain rfl:r=7:=by rw[HR.out];unfold QU;rw[if_pos HK.out]
  go_wp2_with fail
  go_ret
  exact⟨rfl,hb⟩
 have ap:=yh (show r=if Qc x.number 1 65535=false then 3 else if Yb x=false then 1 else if F.all (Yt x)then 0 else 3 by
  rw[HR.out];unfold QU;rw[if_neg (by rw[HK.out];simp),ae.out])
 by_cases hn1:x.number < 1
 ·obtain rfl:r=3:=by rw[ap.out,if_pos (QH (.inl hn1))]
  go_wp2_with fail
  go_ret
  exact⟨rfl,hb⟩
 by_cases hn2:65535 < x.number
 ·obtain rfl:r=3:=by rw[ap.out,if_pos (QH (.inr hn2))]
  go_wp2_with fail
  go_ret
  exact⟨rfl,hb⟩
 have af:=yh (show r=if Yb x=false then 1 else if F.all (Yt x)then 0 else 3 by
  rw[ap.out,if_neg (by rw[QX (by omega) (by omega)];simp)])
 have aa:=fun W=>Xgb x W
 dsimp only[Q1]at aa
 have ag:=yh aa;clear aa
 go_wp2_with fail
 refine(ag.out _).mono ?_;rintro e w3 ⟨rfl,D⟩;replace hb:=hb.trans (D.mono hb.size);replace O:=O.bel D;replace Q:=Q.bel D;replace E:=E.bel D;clear D c0 c1 c2 c3 c4 c5 c6 c7 c8 c9 ah hn1 hn2
 cases q_HBB:Yb x<;>have ad:=yh q_HBB<;>clear q_HBB
 ·obtain rfl:r=1:=by rw[af.out,if_pos ad.out]
  go_wp2_with fail
  go_ret
  exact⟨rfl,hb⟩
 have X:=yh (show r=if F.all (Yt x)then 0 else 3 by rw[af.out,if_neg (by rw[ad.out];simp)])
 go_wp2_with fail
 go_loopg [30] n (fun gk i wr=>∃k:Nat,k≤n∧n - k≤gk∧i=.int .i64 k∧Aside ((F.take k).all (Yt x)=true)∧yw w3 wr)
 case atStart=>exact⟨0,Nat.zero_le _,by omega,rfl,rfl,Below.refl _ _⟩
 case round=>
  obtain⟨k,hk,am,rfl,HA,D⟩:=hrel
  by_cases hlt:k < n
  ·obtain⟨b,ao,p,d0,d1,d2,rfl,hx,⟨hc,_⟩,g0,g1,g2⟩:=(E.bel D).at3 hlt
   simp only[List.cons.injEq,and_true]at hc;obtain⟨rfl,rfl,rfl⟩:=hc
   have ac:p∈QD x.kind:=by rw[←ae.out];exact List.mem_of_getElem? hx
   have U:=D.alloc D.size (.cells #[.int .i64 p.bytes,.int .i64 p.most,.pointer (some (QT I J p.ix))] 194);have hP:=(XHa (O.bel U) (Q.bel U) ac).1;obtain⟨v,hv⟩:∃v,v=X0 x 0 p.ix:=⟨_,rfl⟩;rw[←hv]at hP;have Z:=yh hx;have Y:=yh (show Yt x p=Qc v 0 p.most by rw[hv];rfl);have HM:=yh ac;clear hx ac hv
   by_cases hv0:v < 0
   ·obtain rfl:r=3:=by rw[X.out,if_neg (by rw[V8b Z.out (by rw[Y.out];exact QH (.inl hv0))];simp)]
    have hd:decide (v < 0)=true:=decide_eq_true hv0
    go_wp2_with fail
    go_quiet (fail)
    go_wp2_with fail
    go_ret
    exact⟨rfl,hb.trans ((below_drewN U _).mono hb.size)⟩
   have hd:decide (v < 0)=false:=decide_eq_false hv0
   by_cases hv1:p.most < v
   ·obtain rfl:r=3:=by rw[X.out,if_neg (by rw[V8b Z.out (by rw[Y.out];exact QH (.inr hv1))];simp)]
    have ai:decide (p.most < v)=true:=decide_eq_true hv1
    go_wp2_with fail
    go_quiet (fail)
    go_wp2_with fail
    go_ret
    exact⟨rfl,hb.trans ((below_drewN U _).mono hb.size)⟩
   have ai:decide (p.most < v)=false:=decide_eq_false hv1;have HH:=yh (show Yt x p=true by rw[Y.out];exact QX (by omega) (by omega))
   go_wp2_with fail
   go_quiet (fail)
   go_wp2_with fail
   go_roundg (n - (k+1))
   case measure=>omega
   case rel=>exact⟨k+1,by omega,by omega,by go_num,(show Aside _ from by show _=_;rw[Vra Z.out,HA,HH.out];rfl),below_drewN U _⟩
  ·obtain rfl:k=n:=by omega
   have HT:=yh (show F.take k=F from List.take_of_length_le (Nat.le_of_eq E.len))
   obtain rfl:r=0:=by rw[X.out,if_pos (by rw[←HT.out];exact HA)]
   go_wp2_with fail
   go_ret
   exact⟨rfl,hb.trans (D.mono hb.size)⟩
def Qtc (x:Ask):Int:=if x.level then 1 else 0
theorem XWb (x:Ask){k:Int}{p:Part}(A:p∈QD k):X0 x (Qtc x) p.ix=fld x p.ix:=by
 rcases Uy A with rfl | rfl | rfl | rfl | rfl | rfl | rfl | rfl | rfl<;>rfl
theorem Qia {k:Int}{p:Part}(A:p∈QD k):∃m:Nat,p.bytes=(m:Int)∧1≤m∧m≤4:=by
 rcases Uy A with rfl | rfl | rfl | rfl | rfl | rfl | rfl | rfl | rfl
 all_goals first
  | exact⟨1,rfl,by omega,by omega⟩
  | exact⟨2,rfl,by omega,by omega⟩
  | exact⟨3,rfl,by omega,by omega⟩
  | exact⟨4,rfl,by omega,by omega⟩
def UN (x:Ask) (p:Part):List UInt8:=Zy (fld x p.ix) p.bytes.toNat
def YW (x:Ask):List UInt8:=Zy x.kind 1++Zy x.number 2
def VM (x:Ask):List UInt8:=YW x++(QD x.kind).flatMap (UN x)
theorem Usb (a b:List UInt8):(⟨a.toArray⟩:ByteArray)++⟨b.toArray⟩=⟨(a++b).toArray⟩:=ByteArray.mk_append_mk a b
theorem XCb (x:Ask)(l:List Part)(h:∀p∈l,p.bytes.toNat≤4):(l.flatMap (UN x)).length≤4*l.length:=by
 induction l with
 | nil=>simp
 | cons p l ih=>
  rw[List.flatMap_cons,List.length_append,List.length_cons]
  have D:=ih fun q A=>h q (List.mem_cons_of_mem _ A)
  have E:(UN x p).length≤4:=by unfold UN;rw[ZX];exact h p (List.mem_cons_self ..)
  omega
theorem Xz (x:Ask)(w:World):Calls Tryz.prog 57 #[.agg (Q1 x)] w fun e w'=>
  e=.returned (.tuple #[.string ⟨(okL (QU x) (VM x)).toArray⟩,.int .i64 (QU x)])∧yw w w':=by
 obtain⟨r,hr⟩:∃r,r=QU x:=⟨_,rfl⟩
 have ae:=fun W=>Un x W
 rw[←hr]at ae ⊢
 dsimp only[Q1]at ae ⊢
 have HC:=yh ae;clear ae;clear hr
 go_enter Tryz.func57,Tryz.ntmps57
 go_upto_region 0 with(fail)
 go_cut [1] (fun a J=>∃I,a=.pointer (some ⟨I,0,none⟩)∧AskAt J I x∧yw w J∧w.heap.size≤I)
 case first=>as_aux_lemma=>
  go_wp2_with fail
  go_meet
  exact⟨_,rfl,Za _ _,Qf _ _,by omega⟩
 obtain⟨I,rfl,D,hb,aA⟩:=hcut;obtain⟨c0,c1,c2,c3,c4,c5,c6,c7,c8,c9,aw⟩:=D.all
 go_wp2_with fail
 refine(HC.out _).mono ?_;rintro e w2 ⟨rfl,E⟩;replace hb:=hb.trans (E.mono hb.size);replace D:=D.bel E;clear E c0 c1 c2 c3 c4 c5 c6 c7 c8 c9 aw
 by_cases h0:¬r=0
 ·have aC:(r != 0)=true:=by simpa using h0
  have H0:=yh h0;clear h0
  go_wp2_with fail
  go_ret2
  exact⟨by rw[Yq H0.out];rfl,hb⟩
 have h0:r=0:=by omega
 subst h0;have aq:=hb.alloc hb.size (.cells #[.int .i64 0] 3);have aa:=D.bel (Qf w2 (.cells #[.int .i64 0] 3));obtain⟨_,_,_,_,c4,_⟩:=aa.all;obtain⟨q,hq⟩:∃q,q=x.level:=⟨_,rfl⟩
 have al:Qtc x=if x.level then 1 else 0:=rfl
 rw[←hq]at c4 al;have HL:=yh al;clear al;clear hq
 go_upto_if 17 with(fail)
 go_cut [5] (fun a J=>∃O,a=.pointer (some ⟨O,0,none⟩)∧AskAt J I x∧Blk J O #[.int .i64 (Qtc x)] 3∧yw w J∧w.heap.size≤O∧I≠O)
 case first=>
  have ar:=Blk.lt D;have au:=hb.size;have hN:=Blk.new w2 #[.int .i64 0] 3;have HB:=yh aa;have HN:=yh hN;clear aa hN
  cases q
  ·go_wp2_with fail
   go_meet
   exact⟨_,rfl,HB.out,by rw[HL.out];exact HN.out,aq,au,by omega⟩
  ·go_wp2_with fail
   go_meet
   exact⟨_,rfl,D.bel (Qf _ _),by rw[show Qtc x=1 by rw[HL.out];rfl];exact Blk.new _ _ _,hb.alloc hb.size _,au,by omega⟩
 clear hb aq D aa c4;obtain⟨O,rfl,D,X,hb,aB,aM⟩:=hcut;obtain⟨k0,k1,_⟩:=D.all;have l1:=ZX 1 x.kind;have l2:=ZX 2 x.number;have hs:YW x=Zy x.kind 1++Zy x.number 2:=rfl;obtain⟨L1,ap⟩:∃L,L=Zy x.kind 1:=⟨_,rfl⟩;obtain⟨L2,V⟩:∃L,L=Zy x.number 2:=⟨_,rfl⟩
 have ai:∀W,Calls Tryz.prog 137 #[.int .i64 x.kind,.int .i64 1] W fun e w'=>e=.returned (.string ⟨(Zy x.kind 1).toArray⟩)∧yw W w':=fun W=>Zaa x.kind 1 W (by omega)
 have aj:∀W,Calls Tryz.prog 137 #[.int .i64 x.number,.int .i64 2] W fun e w'=>e=.returned (.string ⟨(Zy x.number 2).toArray⟩)∧yw W w':=fun W=>Zaa x.number 2 W (by omega)
 rw[←ap]at l1 hs ai;rw[←V]at l2 hs aj;have am:=yh ai;clear ai;have an:=yh aj;clear aj;have HS:=yh hs;clear hs;clear ap V
 go_upto_region 7 with(fail)
 go_cut [6] (fun a J=>a=.string ⟨(YW x).toArray⟩∧yw wc J)
 case first=>as_aux_lemma=>
  have ac:yw wc wc.drew:=(Below.refl _ wc).drew
  go_region_with (first
   | (go_at_call_of 137 (Value.int IntKind.i64 x.number);first
     | (refine(an.out wn).mono ?_;rintro e wm ⟨rfl,ag⟩;have ad:=U.trans (ag.mono U.size))
     | (refine(an.out _).mono ?_;rintro e wn ⟨rfl,ah⟩;have U:=ac.trans (ah.mono ac.size);obtain⟨m0,m1,_⟩:=(D.bel U).all))
   | (go_at_call_of 137 (Value.int IntKind.i64 x.kind);first
     | (refine(am.out wn).mono ?_;rintro e wm ⟨rfl,ag⟩;have ad:=U.trans (ag.mono U.size))
     | (refine(am.out _).mono ?_;rintro e wn ⟨rfl,ah⟩;have U:=ac.trans (ah.mono ac.size);obtain⟨m0,m1,_⟩:=(D.bel U).all)))
  all_goals
   go_wp2_with fail
   go_meet
   exact⟨by rw[HS.out,Usb],ad⟩
 obtain⟨rfl,E⟩:=hcut;replace hb:=hb.trans (E.mono hb.size);replace D:=D.bel E;replace X:=X.bel E
 have aH:(YW x).length=3:=by rw[HS.out,List.length_append,l1,l2]
 clear E k0 k1
 go_wp2_with fail
 refine(YH I O x.kind _ (D.cell rfl)).mono ?_;rintro e w3 ⟨A,n,cap,rfl,Q,E⟩;have Q:=Q.all (VE _ _) (by omega);replace D:=D.bel E;replace X:=X.bel E;replace hb:=hb.trans (E.mono hb.size);clear E;obtain⟨F,Z⟩:∃F,F=QD x.kind:=⟨_,rfl⟩
 have he:VM x=YW x++F.flatMap (UN x):=by rw[Z];rfl
 have aL:F.length≤7:=by rw[Z];unfold QD;(repeat' split)<;>simp
 rw[←Z]at Q;have ao:=yh Z;clear Z;have HE:=yh he;clear he;have aE:=Q.bd;have aI:=Q.len
 go_wp2_with fail
 go_loopg [6,31] n (fun gk s i wr=>∃k:Nat,k≤n∧n - k≤gk∧i=.int .i64 k∧s=.string ⟨(YW x++(F.take k).flatMap (UN x)).toArray⟩∧yw w3 wr)
 case atStart=>exact⟨0,Nat.zero_le _,by omega,rfl,by simp,Below.refl _ _⟩
 case round=>
  obtain⟨k,hk,aF,rfl,rfl,ab⟩:=hrel
  by_cases ar:k < n
  ·obtain⟨b,aN,p,d0,d1,d2,rfl,hx,⟨hc,_⟩,g0,g1,g2⟩:=(Q.bel ab).at3 ar
   simp only[List.cons.injEq,and_true]at hc;obtain⟨rfl,rfl,rfl⟩:=hc
   have af:p∈QD x.kind:=by rw[←ao.out];exact List.mem_of_getElem? hx
   have Y:=ab.alloc ab.size (.cells #[.int .i64 p.bytes,.int .i64 p.most,.pointer (some (QT I O p.ix))] 194);have hP:=(XHa (D.bel Y) (X.bel Y) af).1;rw[XWb x af]at hP;obtain⟨m,hm,aK,az⟩:=Qia af;obtain⟨v,hv⟩:∃v,v=fld x p.ix:=⟨_,rfl⟩;rw[←hv]at hP;rw[hm]at g0 Y hP
   have HX:=yh (show YW x++(F.take (k+1)).flatMap (UN x)=YW x++(F.take k).flatMap (UN x)++Zy v m by
    rw[Qn hx,List.flatMap_append,List.append_assoc,hv];simp[UN,hm])
   have ay:((F.take k).flatMap (UN x)).length≤4*k:=by
    have:=XCb x (F.take k) fun q hq=>by
     obtain⟨m',aJ,_,h4⟩:=Qia (k:=x.kind) (by rw[←ao.out];exact List.mem_of_mem_take hq);omega
    have:=List.length_take_le k F;omega
   obtain⟨L,V⟩:∃L,L=YW x++(F.take k).flatMap (UN x):=⟨_,rfl⟩
   have aD:L.length≤3+4*k:=by rw[V,List.length_append];omega
   have aG:k≤7:=by omega
   rw[←V]at HX ⊢;have ad:=ZX m v;obtain⟨M,hM⟩:∃M,M=Zy v m:=⟨_,rfl⟩
   have ak:=fun W=>Zaa v m W az
   rw[←hM]at HX ad ak;have av:=yh ak;clear ak;clear hx af hv hm hM V ay
   go_wp2_with fail
   go_region_with (go_at_call 137;refine(av.out _).mono ?_;rintro e w4 ⟨rfl,ax⟩)
   all_goals go_wp2_with fail
   all_goals go_roundg (n - (k+1))
   all_goals first
    | omega
    | exact⟨k+1,by omega,by omega,by go_num,by rw[HX.out,Usb],Y.drew.trans (ax.mono Y.size)⟩
  ·obtain rfl:k=n:=by omega
   have HT:=yh (show F.take k=F from List.take_of_length_le (Nat.le_of_eq Q.len))
   go_wp2_with fail
   go_ret2
   exact⟨by rw[QG,HE.out,HT.out];rfl,hb.trans (ab.mono hb.size)⟩
abbrev Dec:=Ask×Int×(List UInt8×Bool)
def XI (d:Dec) (p:Part):Dec:=(Qla d.1 p.ix (UO d.2.2 p.bytes.toNat).1,Vwa d.2.1 p.ix (UO d.2.2 p.bytes.toNat).1,(UO d.2.2 p.bytes.toNat).2)
def VW:Ask:=⟨0,0,0,0,false,0,0,0,0,0,0⟩
def Vsa (s:List UInt8):Dec:=(⟨(UO (UO (s,false) 1).2 2).1,(UO (s,false) 1).1,0,0,false,0,0,0,0,0,0⟩,0,(UO (UO (s,false) 1).2 2).2)
def VL (l:List Part) (d:Dec):Dec:=l.foldl XI d
theorem UVb {l:List Part}{k:Nat}{p:Part}(d:Dec)(h:l[k]? = some p):VL (l.take (k+1)) d=XI (VL (l.take k) d) p:=by rw[Qn h];simp[VL]
def Vta (s:List UInt8):Dec:=VL (QD (Vsa s).1.kind) (Vsa s)
def Zda (d:Dec):Ask:={ d.1 with level:=d.2.1 == 1 }
def UGa (d:Dec) (k:Int):Bool:=Qc k 1 8 == false || d.2.2.2 || decide (d.2.2.1≠[]) || decide (1 < d.2.1)
def Yh (s:List UInt8):Ask×Int:=if UGa (Vta s) (Vsa s).1.kind then (VW,1)else if QU (Zda (Vta s))≠0 then (VW,QU (Zda (Vta s)))else (Zda (Vta s),0)
theorem UTb (l:List Part)(d:Dec):(VL l d).1.kind=d.1.kind:=by
 unfold VL
 induction l generalizing d with
 | nil=>rfl
 | cons p l ih=>rw[List.foldl_cons,ih];rfl
theorem RdAt.bel {w w':World}{b:Nat}{r:List UInt8×Bool}(h:RdAt w b r)(A:yw w w'):RdAt w' b r:=Blk.bel h A
theorem AskAt.kept {S:Nat→Prop}{w w':World}{b:Nat}{x:Ask}(h:AskAt w b x)(D:Kept S w w')(A:¬S b):AskAt w' b x:=Blk.kept h D A
theorem YKa {w:World}{b:Nat}{x:Ask}(h:AskAt w b x):(loadVar 53 ⟨b,0,none⟩).run Tryz.prog w=.ok (.agg (Q1 x)) w:=by
 obtain⟨A,D,F,I,J,O,Q,U,V,W,E⟩:=h.all;unfold Q1;go_simp
theorem YJ {w:World}{b:Nat}{x:Ask}{e:Int}{D:Func}{A:Array Value}(I:D.results=#[.cell 2 53,.tmp 3])(h:AskAt w b x)(E:A.getD 2 undef=.pointer (some ⟨b,0,none⟩))(F:A.getD 3 undef=.int .i64 e) :
  (results D A).run Tryz.prog w=.ok (.tuple #[.agg (Q1 x),.int .i64 e]) w:=by
 rw[results_cell_tmp (p:=2) (u:=3) (ty:=53) I,E,F]
 simp[asAddr,YKa h,Sem.run_pure]
theorem QTc (x y:Ask):((((((((((((Q1 x).set! 0 (.int .i64 y.number)).set! 1 (.int .i64 y.kind)).set! 2 (.int .i64 y.id)).set! 3 (.int .i64 y.guests)).set! 4 (.bool y.level)).set! 5 (.int .i64 y.cabin)).set! 6 (.int .i64 y.category)).set! 7 (.int .i64 y.frm)).set! 8 (.int .i64 y.upto)).set! 9 (.int .i64 y.til)).set! 10 (.int .i64 y.amount))=Q1 y:=by
 simp[Q1]
theorem UGb {w:World}{z:Nat}{x:Ask}(y:Ask)(A:AskAt w z x) :
  AskAt (((((((((((w.setCell ⟨z,0,none⟩ (.int .i64 y.number)).setCell ⟨z,1,none⟩ (.int .i64 y.kind)).setCell ⟨z,2,none⟩ (.int .i64 y.id)).setCell ⟨z,3,none⟩ (.int .i64 y.guests)).setCell ⟨z,4,none⟩ (.bool y.level)).setCell ⟨z,5,none⟩ (.int .i64 y.cabin)).setCell
   ⟨z,6,none⟩ (.int .i64 y.category)).setCell ⟨z,7,none⟩ (.int .i64 y.frm)).setCell ⟨z,8,none⟩ (.int .i64 y.upto)).setCell ⟨z,9,none⟩ (.int .i64 y.til)).setCell ⟨z,10,none⟩ (.int .i64 y.amount)) z y:=by
 unfold AskAt at A ⊢;rw[←QTc x y]
 generalize Q1 x=cs at A
 have D:=A.set (j:=0) (.int .i64 y.number);have E:=D.set (j:=1) (.int .i64 y.kind);have F:=E.set (j:=2) (.int .i64 y.id);have I:=F.set (j:=3) (.int .i64 y.guests);have J:=I.set (j:=4) (.bool y.level);have O:=J.set (j:=5) (.int .i64 y.cabin);have Q:=O.set (j:=6) (.int .i64 y.category);have U:=Q.set (j:=7) (.int .i64 y.frm);have V:=U.set (j:=8) (.int .i64 y.upto);have W:=V.set (j:=9) (.int .i64 y.til);exact W.set (j:=10) (.int .i64 y.amount)
theorem Z8a (s:List UInt8)(w:World):Calls Tryz.prog 60 #[.string ⟨s.toArray⟩] w fun e w'=>
  e=.returned (.tuple #[.agg (Q1 (Yh s).1),.int .i64 (Yh s).2])∧yw w w':=by
 obtain⟨V,hV⟩:∃V,V=Yh s:=⟨_,rfl⟩;rw[←hV];have HV:=yh hV;clear hV
 go_enter Tryz.func60,Tryz.ntmps60
 go_upto_region 1 with(fail)
 go_cut [2,4] (fun c a Q=>∃z b,c=.pointer (some ⟨z,0,none⟩)∧a=.pointer (some ⟨b,0,none⟩)∧AskAt Q z VW∧RdAt Q b (s,false)∧yw w Q∧w.heap.size≤z∧w.heap.size≤b∧z≠b)
 case first=>as_aux_lemma=>
  go_wp2_with fail
  go_meet
  exact⟨_,_,rfl,rfl,QA _ _ _,QB _ _ _,Zh _ _ _,by omega,by omega,by omega⟩
 obtain⟨z,b,rfl,rfl,I,E,F,gz,gb,aF⟩:=hcut;obtain⟨⟨kd,r1⟩,h1⟩:∃q,q=UO (s,false) 1:=⟨_,rfl⟩;obtain⟨⟨nu,r2⟩,h2⟩:∃q,q=UO r1 2:=⟨_,rfl⟩
 have ae:Vsa s=(⟨nu,kd,0,0,false,0,0,0,0,0,0⟩,0,r2):=by unfold Vsa;rw[←h1,←h2]
 have av:=yh ae;clear ae
 go_upto_region 2 with(fail)
 go_cut [5] (fun a Q=>∃D,a=.pointer (some ⟨D,0,none⟩)∧AskAt Q D ⟨0,kd,0,0,false,0,0,0,0,0,0⟩∧RdAt Q b r1∧AskAt Q z VW∧yw w Q∧w.heap.size≤D∧D≠z∧D≠b)
 case first=>as_aux_lemma=>
  have hn:Calls Tryz.prog 139 #[.pointer (some ⟨b,0,none⟩),.int .i64 1] wc fun e w'=>e=.returned (.int .i64 kd)∧RdAt w' b r1∧Kept (fun k=>k=b) wc w':=by
   have:=Qba b (s,false) 1 wc (by omega) E;rw[←h1]at this;exact this
  have l1:=Blk.lt E;have l2:=Blk.lt I;have HN:=yh hn;clear hn;clear h1 h2 E
  go_wp2_with fail
  refine HN.out.mono ?_;rintro e w1 ⟨rfl,ai,Z⟩;have bh:=Z.size;have aj:=I.kept Z aF;have ak:=Z.below (B:=w.heap.size) F.size (by intro j hj (e:j=b);omega);have aw:=yh ai;have az:=yh aj;have ag:=yh (F.trans ak);clear ai aj Z I ak
  go_wp2_with fail
  go_meet
  exact⟨_,rfl,Blk.new _ _ _,aw.out.bel (Qf _ _),az.out.bel (Qf _ _),ag.out.alloc ag.out.size _,ag.out.size,by omega,by omega⟩
 clear h1 E I F;obtain⟨D,rfl,O,E,I,F,aH,aE,al⟩:=hcut
 go_upto_region 3 with(fail)
 go_cut [] (fun Q=>AskAt Q D ⟨nu,kd,0,0,false,0,0,0,0,0,0⟩∧RdAt Q b r2∧AskAt Q z VW∧yw w Q)
 case first=>as_aux_lemma=>
  have hn:Calls Tryz.prog 139 #[.pointer (some ⟨b,0,none⟩),.int .i64 2] wc fun e w'=>e=.returned (.int .i64 nu)∧RdAt w' b r2∧Kept (fun k=>k=b) wc w':=by
   have:=Qba b r1 2 wc (by omega) E;rw[←h2]at this;exact this
  have HN:=yh hn;clear hn;clear h2 E
  go_wp2_with fail
  refine HN.out.mono ?_;rintro e w1 ⟨rfl,ai,Z⟩;have aj:=I.kept Z aF;have aa:=O.kept Z al;have ak:=Z.below (B:=w.heap.size) F.size (by intro j hj (e:j=b);omega);have f0:=aa.free 0;obtain⟨a0,_⟩:=aa.all;have aw:=yh ai;have az:=yh aj;have aX:=yh aa;have ag:=yh (F.trans ak);clear ai aj Z I ak aa
  go_wp2_with fail
  go_meet
  exact⟨aX.out.set _,aw.out.other (p:=⟨D,0,none⟩) al _,az.out.other (p:=⟨D,0,none⟩) aE _,ag.out.setCell (p:=⟨D,0,none⟩) aH _⟩
 clear h2 E I F O;obtain⟨O,E,I,F⟩:=hcut
 go_upto_region 4 with(fail)
 go_cut [6] (fun a Q=>∃J,a=.pointer (some ⟨J,0,none⟩)∧AskAt Q D ⟨nu,kd,0,0,false,0,0,0,0,0,0⟩∧RdAt Q b r2∧AskAt Q z VW∧Blk Q J #[.int .i64 0] 3∧yw w Q∧w.heap.size≤J∧D≠J∧z≠J∧b≠J)
 case first=>as_aux_lemma=>
  have l1:=Blk.lt O;have l2:=Blk.lt E;have l3:=Blk.lt I
  go_wp2_with fail
  go_meet
  exact⟨_,rfl,O.bel (Qf _ _),E.bel (Qf _ _),I.bel (Qf _ _),Blk.new _ _ _,F.alloc F.size _,F.size,by omega,by omega,by omega⟩
 clear E I F O;obtain⟨J,rfl,O,E,I,U,F,ba,aU,bs,aV⟩:=hcut
 go_wp2_with fail
 refine(YH D J kd _ (O.cell rfl)).mono ?_;rintro e w3 ⟨A,n,cap,rfl,hS,ad⟩;have la:=Blk.lt O;have ll:=U.lt;have lr:=Blk.lt E;replace O:=O.bel ad;replace U:=U.bel ad;replace E:=E.bel ad;replace I:=I.bel ad;replace F:=F.trans (ad.mono F.size);clear ad;obtain⟨Y,au⟩:∃Y,Y=QD kd:=⟨_,rfl⟩
 have aI:Vta s=VL Y (Vsa s):=by unfold Vta;rw[av.out,au]
 have aS:(Vsa s).1.kind=kd:=by rw[av.out]
 rw[←au]at hS;have bm:=yh au;clear au;have aZ:=yh aI;clear aI;have bj:=yh aS;clear aS;have bc:=hS.bd;obtain⟨X,ae⟩:∃d,d=Vsa s:=⟨_,rfl⟩
 have ar:(⟨nu,kd,0,0,false,0,0,0,0,0,0⟩,(0:Int),r2)=X:=by rw[ae,av.out]
 have HD:=yh ae;clear ae
 have e1:(⟨nu,kd,0,0,false,0,0,0,0,0,0⟩:Ask)=X.1:=by rw[←ar]
 have e2:(0:Int)=X.2.1:=by rw[←ar]
 have e3:r2=X.2.2:=by rw[←ar]
 rw[e1]at O;rw[e3]at E;rw[e2]at U;clear e1 e2 e3 ar
 go_wp2_with fail
 go_loopg [27] n (fun gk i wr=>∃k:Nat,k≤n∧n - k≤gk∧i=.int .i64 k∧AskAt wr D (VL (Y.take k) X).1∧Blk wr J #[.int .i64 (VL (Y.take k) X).2.1] 3∧RdAt wr b (VL (Y.take k) X).2.2∧Kept (fun j=>j=D∨j=J∨j=b) w3 wr)
 case atStart=>exact⟨0,Nat.zero_le _,by omega,rfl,O,U,E,Kept.refl _ _⟩
 case round=>
  clear O U E;obtain⟨k,hk,be,rfl,O,U,E,hK⟩:=hrel;have aA:=hS.kept hK (fun j _ hT=>by have hT:wc.heap.size≤j:=hT;rintro(rfl | rfl | rfl)<;>omega)
  by_cases hlt:k < n
  ·obtain⟨o,bi,p,c0,c1,c2,rfl,hx,⟨hc,_⟩,g0,g1,g2⟩:=aA.at3 hlt
   simp only[List.cons.injEq,and_true]at hc;obtain⟨rfl,rfl,rfl⟩:=hc
   have aD:p∈QD kd:=by rw[←bm.out];exact List.mem_of_getElem? hx
   obtain⟨m,hm,bg,bq⟩:=Qia aD;have am:=yh (UVb X hx);obtain⟨d,hd⟩:∃d,d=VL (Y.take k) X:=⟨_,rfl⟩;rw[←hd]at O U E am;obtain⟨q,hq⟩:∃q,q=UO d.2.2 m:=⟨_,rfl⟩;have an:=yh (show XI d p=(Qla d.1 p.ix q.1,Vwa d.2.1 p.ix q.1,q.2)by unfold XI;rw[hm,hq];rfl)
   have aC:∀W,RdAt W b d.2.2→Calls Tryz.prog 139 #[.pointer (some ⟨b,0,none⟩),.int .i64 m] W fun e w'=>e=.returned (.int .i64 q.1)∧RdAt w' b q.2∧Kept (fun k=>k=b) W w':=fun W h=>by
    have:=Qba b d.2.2 m W bq h;rw[←hq]at this;exact this
   obtain⟨v,hv⟩:∃v,v=q.1:=⟨_,rfl⟩;rw[←hv]at an aC;rw[hm]at g0;have bf:=Blk.lt E;have bl:=yh aC;clear aC;have HM:=yh aD;clear aD;have aM:Blk (wr.alloc (.cells #[.int .i64 m,.int .i64 p.most,.pointer (some (QT D J p.ix))] 194)).drew wr.heap.size #[.int .i64 m,.int .i64 p.most,.pointer (some (QT D J p.ix))] 194:=Blk.new wr _ _;have aa:AskAt (wr.alloc (.cells #[.int .i64 m,.int .i64 p.most,.pointer (some (QT D J p.ix))] 194)).drew D d.1:=O.bel (Qf wr _).drew;have aK:Blk (wr.alloc (.cells #[.int .i64 m,.int .i64 p.most,.pointer (some (QT D J p.ix))] 194)).drew J #[.int .i64 d.2.1] 3:=U.bel (Qf wr _).drew;have bo:RdAt (wr.alloc (.cells #[.int .i64 m,.int .i64 p.most,.pointer (some (QT D J p.ix))] 194)).drew b d.2.2:=E.bel (Qf wr _).drew;have aJ:=(hK.alloc (.cells #[.int .i64 m,.int .i64 p.most,.pointer (some (QT D J p.ix))] 194)).drew
   have aT:∀w4,Kept (fun k=>k=b) (wr.alloc (.cells #[.int .i64 m,.int .i64 p.most,.pointer (some (QT D J p.ix))] 194)).drew w4→
     (yI w4 wr.heap.size 0 m∧w4.cell? ⟨wr.heap.size,2,none⟩=some (.pointer (some (QT D J p.ix))))∧
     (w4.cell? (QT D J p.ix)=some (.int .i64 (X0 d.1 d.2.1 p.ix))∧w4.frozen? (QT D J p.ix)=false)∧
     AskAt (w4.setCell (QT D J p.ix) (.int .i64 v)) D (Qla d.1 p.ix v)∧Blk (w4.setCell (QT D J p.ix) (.int .i64 v)) J #[.int .i64 (Vwa d.2.1 p.ix v)] 3∧
     Kept (fun j=>j=D∨j=J∨j=b) w3 (w4.setCell (QT D J p.ix) (.int .i64 v)):=fun w4 ac=>by
    have aL:=Blk.kept aM ac (by show ¬wr.heap.size=b;omega);have ao:=aa.kept ac al;have ap:=aK.kept ac (fun e=>aV e.symm);have aN:=Z3b ao ap aU HM.out v;refine⟨⟨aL.cell rfl,aL.cell rfl⟩,XHa ao ap HM.out,aN.1,aN.2,(aJ.trans (ac.mono fun j _ h=>.inr (.inr h))).setCell (.inl ?_) _⟩;unfold QT;split
    ·exact .inr (.inl rfl)
    ·exact .inl rfl
   have bk:=yh aT;clear aT
   have br:(QT D J p.ix).block≠b:=by
    unfold QT;split
    ·exact fun e=>aV e.symm
    ·exact al
   clear hx hd hq hv hm aA aJ aM aa aK
   go_wp2_with fail
   go_region_with (go_at_call 139;refine(bl.out _ bo).mono ?_;rintro e w4 ⟨rfl,bp,ac⟩;obtain⟨⟨p0,p2⟩,⟨m4,f4⟩,ao,ap,bn⟩:=bk.out w4 ac)
   all_goals go_wp2_with fail
   all_goals go_roundg (n - (k+1))
   all_goals first
    | omega
    | exact⟨k+1,by omega,by omega,by go_num,by rw[am.out,an.out];exact ao,by rw[am.out,an.out];exact ap,by rw[am.out,an.out];exact Blk.other bp br _,bn⟩
  ·obtain rfl:k=n:=by omega
   have hT:Y.take k=Y:=List.take_of_length_le (Nat.le_of_eq hS.len);obtain⟨d,hd⟩:∃d,d=Vta s:=⟨_,rfl⟩
   have aR:VL (Y.take k) X=d:=by rw[hT,hd,aZ.out,HD.out]
   rw[aR]at O U E;have ax:=yh (show V=if UGa d kd then (VW,1)else if QU (Zda d)≠0 then (VW,QU (Zda d))else (Zda d,0)by rw[HV.out,hd];unfold Yh;rw[bj.out]);have aP:=I.kept hK (by rintro(h | h | h);exact aE h.symm;exact bs h;exact aF h);replace F:=F.trans (hK.below (B:=w.heap.size) F.size (by rintro j hj (h | h | h)<;>omega));clear hd aR hT hK I aA
   go_upto_region 11 with(fail)
   go_cut [] (fun Q=>AskAt Q D (Zda d)∧Blk Q J #[.int .i64 d.2.1] 3∧RdAt Q b d.2.2∧AskAt Q z VW∧yw w Q)
   case first=>as_aux_lemma=>
    have l0:=U.cell (j:=0) rfl;have f4:=O.free 4;obtain⟨_,_,_,_,a4,_⟩:=O.all;have HA:=yh O;have HL:=yh U;have HR:=yh E;clear O U E
    go_wp2_with fail
    go_meet
    exact⟨HA.out.set _,HL.out.other (p:=⟨D,4,none⟩) aU _,HR.out.other (p:=⟨D,4,none⟩) al _,aP.other (p:=⟨D,4,none⟩) aE _,F.setCell (p:=⟨D,4,none⟩) aH _⟩
   clear O U E aP F;obtain⟨O,U,E,I,F⟩:=hcut;obtain⟨dx,lev,af,sh⟩:=d;have l0:yI wc J 0 lev:=U.cell rfl;have r0:wc.cell? ⟨b,0,none⟩=some (.string ⟨af.toArray⟩):=Blk.cell E (j:=0) rfl;have r1:wc.cell? ⟨b,1,none⟩=some (.bool sh):=Blk.cell E (j:=1) rfl;obtain⟨z0,z1,z2,z3,z4,z5,z6,z7,z8,z9,aW⟩:=I.all;have zf:=I.free;have aQ:UGa (dx,lev,(af,sh)) kd=(Qc kd 1 8 == false || sh || decide (af≠[]) || decide (1 < lev)):=rfl;have ab:=yh aQ;clear aQ
   have aO:UGa (dx,lev,(af,sh)) kd=true→V=(VW,1):=fun h=>by rw[ax.out,if_pos h]
   have ah:=yh aO;clear aO;clear E
   cases q_HK:Qc kd 1 8<;>have HK:=yh q_HK<;>clear q_HK
   ·obtain rfl:V=(VW,1):=ah.out (by rw[ab.out,HK.out];rfl)
    go_wp2_with fail
    exact bodyPost_ret (v:=.tuple #[.agg (Q1 VW),.int .i64 1]) (YJ (by kernel_rfl) (((((((((((Blk.set I _).set _).set _).set _).set _).set _).set _).set _).set _).set _).set _) rfl rfl) rfl ⟨rfl,((((((((((Below.setCell F (p:=⟨z,0,none⟩) gz _).setCell (p:=⟨z,1,none⟩) gz _).setCell (p:=⟨z,2,none⟩) gz _).setCell (p:=⟨z,3,none⟩) gz _).setCell (p:=⟨z,4,none⟩) gz _).setCell (p:=⟨z,5,none⟩) gz _).setCell (p:=⟨z,6,none⟩) gz _).setCell (p:=⟨z,7,none⟩) gz _).setCell (p:=⟨z,8,none⟩) gz _).setCell (p:=⟨z,9,none⟩) gz _).setCell (p:=⟨z,10,none⟩) gz _⟩
   cases sh with
   | true=>
    obtain rfl:V=(VW,1):=ah.out (by rw[ab.out,HK.out];rfl)
    go_wp2_with fail
    exact bodyPost_ret (v:=.tuple #[.agg (Q1 VW),.int .i64 1]) (YJ (by kernel_rfl) (((((((((((Blk.set I _).set _).set _).set _).set _).set _).set _).set _).set _).set _).set _) rfl rfl) rfl ⟨rfl,((((((((((Below.setCell F (p:=⟨z,0,none⟩) gz _).setCell (p:=⟨z,1,none⟩) gz _).setCell (p:=⟨z,2,none⟩) gz _).setCell (p:=⟨z,3,none⟩) gz _).setCell (p:=⟨z,4,none⟩) gz _).setCell (p:=⟨z,5,none⟩) gz _).setCell (p:=⟨z,6,none⟩) gz _).setCell (p:=⟨z,7,none⟩) gz _).setCell (p:=⟨z,8,none⟩) gz _).setCell (p:=⟨z,9,none⟩) gz _).setCell (p:=⟨z,10,none⟩) gz _⟩
   | false=>
    cases af with
    | cons c af=>
     obtain rfl:V=(VW,1):=ah.out (by rw[ab.out,HK.out];simp)
     go_wp2_with fail
     exact bodyPost_ret (v:=.tuple #[.agg (Q1 VW),.int .i64 1]) (YJ (by kernel_rfl) (((((((((((Blk.set I _).set _).set _).set _).set _).set _).set _).set _).set _).set _).set _) rfl rfl) rfl ⟨rfl,((((((((((Below.setCell F (p:=⟨z,0,none⟩) gz _).setCell (p:=⟨z,1,none⟩) gz _).setCell (p:=⟨z,2,none⟩) gz _).setCell (p:=⟨z,3,none⟩) gz _).setCell (p:=⟨z,4,none⟩) gz _).setCell (p:=⟨z,5,none⟩) gz _).setCell (p:=⟨z,6,none⟩) gz _).setCell (p:=⟨z,7,none⟩) gz _).setCell (p:=⟨z,8,none⟩) gz _).setCell (p:=⟨z,9,none⟩) gz _).setCell (p:=⟨z,10,none⟩) gz _⟩
    | nil=>
     by_cases hlev:1 < lev
     ·obtain rfl:V=(VW,1):=ah.out (by rw[ab.out,HK.out];simp[hlev])
      go_wp2_with fail
      exact bodyPost_ret (v:=.tuple #[.agg (Q1 VW),.int .i64 1]) (YJ (by kernel_rfl) (((((((((((Blk.set I _).set _).set _).set _).set _).set _).set _).set _).set _).set _).set _) rfl rfl) rfl ⟨rfl,((((((((((Below.setCell F (p:=⟨z,0,none⟩) gz _).setCell (p:=⟨z,1,none⟩) gz _).setCell (p:=⟨z,2,none⟩) gz _).setCell (p:=⟨z,3,none⟩) gz _).setCell (p:=⟨z,4,none⟩) gz _).setCell (p:=⟨z,5,none⟩) gz _).setCell (p:=⟨z,6,none⟩) gz _).setCell (p:=⟨z,7,none⟩) gz _).setCell (p:=⟨z,8,none⟩) gz _).setCell (p:=⟨z,9,none⟩) gz _).setCell (p:=⟨z,10,none⟩) gz _⟩
     have ay:=yh (show V=if QU (Zda (dx,lev,([],false)))≠0 then (VW,QU (Zda (dx,lev,([],false))))else (Zda (dx,lev,([],false)),0)by
      rw[ax.out,if_neg (by rw[ab.out,HK.out];simp[hlev])])
     obtain⟨y,hy⟩:∃y,y=Zda (dx,lev,([],false)):=⟨_,rfl⟩;obtain⟨r,hr⟩:∃r,r=QU y:=⟨_,rfl⟩;rw[←hy,←hr]at ay;rw[←hy]at O
     have aq:=fun W=>Un y W
     rw[←hr]at aq
     dsimp only[Q1]at aq
     have aY:=yh aq;clear aq;obtain⟨a0,a1,a2,a3,a4,a5,a6,a7,a8,a9,aG⟩:=O.all;clear hy hr ax ab ah z0 z1 z2 z3 z4 z5 z6 z7 z8 z9 aW
     go_wp2_with fail
     refine(aY.out _).mono ?_;rintro e w5 ⟨rfl,aB⟩;replace O:=O.bel aB;replace I:=I.bel aB;replace F:=F.trans (aB.mono F.size);obtain⟨z0,z1,z2,z3,z4,z5,z6,z7,z8,z9,aW⟩:=I.all;replace zf:=I.free
     by_cases h0:¬r=0
     ·obtain rfl:V=(VW,r):=by rw[ay.out,if_pos h0]
      have bb:(r != 0)=true:=by simpa using h0
      clear h0
      go_wp2_with fail
      exact bodyPost_ret (v:=.tuple #[.agg (Q1 VW),.int .i64 r]) (YJ (by kernel_rfl) (((((((((((Blk.set I _).set _).set _).set _).set _).set _).set _).set _).set _).set _).set _) rfl rfl) rfl ⟨rfl,((((((((((Below.setCell F (p:=⟨z,0,none⟩) gz _).setCell (p:=⟨z,1,none⟩) gz _).setCell (p:=⟨z,2,none⟩) gz _).setCell (p:=⟨z,3,none⟩) gz _).setCell (p:=⟨z,4,none⟩) gz _).setCell (p:=⟨z,5,none⟩) gz _).setCell (p:=⟨z,6,none⟩) gz _).setCell (p:=⟨z,7,none⟩) gz _).setCell (p:=⟨z,8,none⟩) gz _).setCell (p:=⟨z,9,none⟩) gz _).setCell (p:=⟨z,10,none⟩) gz _⟩
     ·obtain rfl:r=0:=by omega
      obtain rfl:V=(y,0):=by rw[ay.out,if_neg (by simp)]
      clear a0 a1 a2 a3 a4 a5 a6 a7 a8 a9 aG;obtain⟨a0,a1,a2,a3,a4,a5,a6,a7,a8,a9,aG⟩:=O.all
      go_wp2_with fail
      exact bodyPost_ret (v:=.tuple #[.agg (Q1 y),.int .i64 0]) (YJ (x:=y) (e:=0) (by kernel_rfl) (UGb y I) rfl rfl) rfl ⟨rfl,((((((((((Below.setCell F (p:=⟨z,0,none⟩) gz _).setCell (p:=⟨z,1,none⟩) gz _).setCell (p:=⟨z,2,none⟩) gz _).setCell (p:=⟨z,3,none⟩) gz _).setCell (p:=⟨z,4,none⟩) gz _).setCell (p:=⟨z,5,none⟩) gz _).setCell (p:=⟨z,6,none⟩) gz _).setCell (p:=⟨z,7,none⟩) gz _).setCell (p:=⟨z,8,none⟩) gz _).setCell (p:=⟨z,9,none⟩) gz _).setCell (p:=⟨z,10,none⟩) gz _⟩
end Go.Proofs.YtjdcokpmgionjaaGreat
