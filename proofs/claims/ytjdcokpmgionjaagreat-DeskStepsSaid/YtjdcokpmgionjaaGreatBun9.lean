/-
  Laws and contracts.
-/
import Derived.Test.YtjdcokpmgionjaaGreatBun0
import Derived.Lib.AppendZerosOnto
set_option linter.unusedSimpArgs false
set_option linter.unusedVariables false
set_option maxRecDepth 100000
set_option maxHeartbeats 20000000
namespace Go.Proofs.YtjdcokpmgionjaaGreat
open Proofs.Tryz Go.RowKit Go.Shelf
structure Band where
 days:Int
 part:Int
 deriving DecidableEq,Inhabited
def Vl:Cod Band:=fun _ _ x cs=>cs=[.int .i64 x.days,.int .i64 x.part]∧InI x.days∧InI x.part
theorem UQa:XM Vl:=fun _ _ _ _ _ _ h=>h
theorem Qx:Good Vl:=.of_flat UQa fun h u A=>by obtain⟨rfl,_⟩:=h;simp at A;rcases A with rfl|rfl<;>rfl
structure Fares where
 leg:List (List Int)
 alone:Int
 third:Int
 bands:List Band
 down:Int
def ZKc:Cod Fares:=fun w S x cs=>∃A n cap B m cap2,cs=[.slice A n cap,.int .i64 x.alone,.int .i64 x.third,.slice B m cap2,.int .i64 x.down]∧
 Sl (slC QO 1) 1 w S A n cap x.leg∧Sl Vl 2 w S B m cap2 x.bands∧InI x.alone∧InI x.third∧InI x.down
theorem UFa (A:Option Addr)(n cap:Nat)(l:List Band)(g:Nat)(lb:Array Value)(p:Band→Bool)(w:World)(h:Sl Vl 2 w All A n cap l)
  (eg:∀U w,(callFunc g U).run prog w=.ok (.enter g U) w)
  (V:∀(x:Band) (w1:World),x∈l→yw w w1→Calls prog g (#[.agg #[.int .i64 x.days,.int .i64 x.part]]++lb) w1 fun e w'=>e=.returned (.bool (p x))∧yw w1 w') :
  Calls prog 224 #[.slice A n cap,.func (.func g) #[] lb] w fun e w'=>e=.returned (.int .i64 (UD p l))∧yw w w':=by
 have Y:=yh V;clear V;have aa:=h.bd;go_enter func224,ntmps224;go_wp2_with fail
 go_loopg [8] n (fun gk i wr=>∃k:Nat,k≤n∧n-k≤gk∧i=.int .i64 k∧Aside ((l.take k).any p=false)∧yw w wr)
 case atStart=>exact⟨0,M0 _,by omega,rfl,rfl,J4 _ _⟩
 case round=>
  obtain⟨k,hk,ab,rfl,I,D⟩:=hrel;by_cases hlt:k<n
  ·obtain⟨b,ac,x,Z,c1,rfl,O,F,g0,g1⟩:=(h.below Qx (by omega) D).at2 hlt;obtain⟨F,hw⟩:=F;simp only[List.cons.injEq,and_true]at F;obtain⟨rfl,rfl⟩:=F;have Q:=yh O;have W:=yh (J6 O);clear O;have E:=fun w1 (ae:yw w w1)=>Y x w1 W ae
   cases hq:p x with
   | true=>
    rw[hq]at E;have J:=yh hq;clear hq;go_wp2_with (go_at_fn g;refine yM (E _ D) fun w1 ae=>?_;replace ae:=D.trans (ae.mono D.size);clear E);go_ret;exact⟨ZN (VA I Q J).symm,ae⟩
   | false=>
    rw[hq]at E;have J:=yh hq;clear hq;go_wp2_with (go_at_fn g;refine yM (E _ D) fun w1 ae=>?_;replace ae:=D.trans (ae.mono D.size);clear E);go_roundg (n-(k+1))
    case measure=>omega
    case rel=>exact⟨k+1,by omega,by omega,by go_num,by show _=_;rw[Qu Q.out,I,J.out];rfl,ae⟩
  ·have:k=n:=by omega
   subst this;have X:=yh (M1 (Nat.le_of_eq h.len));go_wp2_with fail;go_ret;exact⟨ZN (by rw[ZK (by rw[←X.out];exact I)]),D⟩
theorem UGa (A:Option Addr)(n cap:Nat)(l:List (List Int))(g:Nat)(lb:Array Value)(p:(List Int)→Bool)(w:World)(h:Sl (slC QO 1) 1 w All A n cap l)
  (eg:∀V w,(callFunc g V).run prog w=.ok (.enter g V) w)
  (W:∀(x:(List Int)) (w1:World) (B:Option Addr) (q F:Nat),x∈l→yw w w1→Sl QO 1 w1 All B q F x→Calls prog g (#[.slice B q F]++lb) w1 fun e w'=>e=.returned (.bool (p x))∧yw w1 w') :
  Calls prog 242 #[.slice A n cap,.func (.func g) #[] lb] w fun e w'=>e=.returned (.int .i64 (UD p l))∧yw w w':=by
 have Z:=yh W;clear W;have aa:=h.bd;go_enter func242,ntmps242;go_wp2_with fail
 go_loopg [8] n (fun gk i wr=>∃k:Nat,k≤n∧n-k≤gk∧i=.int .i64 k∧Aside ((l.take k).any p=false)∧yw w wr)
 case atStart=>exact⟨0,M0 _,by omega,rfl,rfl,J4 _ _⟩
 case round=>
  obtain⟨k,hk,ab,rfl,J,hb⟩:=hrel;by_cases hlt:k<n
  ·obtain⟨b,ac,x,c0,rfl,Q,I,g0⟩:=(h.below (ZU Qd (by omega)) (by omega) hb).at1 hlt;obtain⟨B,q,F,I,hw⟩:=I;simp only[List.cons.injEq,and_true]at I;subst I;have U:=yh Q;have X:=yh (J6 Q);clear Q;have E:=Z x wr B q F X hb hw
   cases hq:p x with
   | true=>
    rw[hq]at E;have O:=yh hq;clear hq;go_wp2_with (go_at_fn g;refine yM E fun w1 D=>?_;replace D:=hb.trans (D.mono hb.size);clear E);go_ret;exact⟨ZN (VA J U O).symm,D⟩
   | false=>
    rw[hq]at E;have O:=yh hq;clear hq;go_wp2_with (go_at_fn g;refine yM E fun w1 D=>?_;replace D:=hb.trans (D.mono hb.size);clear E);go_roundg (n-(k+1))
    case measure=>omega
    case rel=>exact⟨k+1,by omega,by omega,by go_num,by show _=_;rw[Qu U.out,J,O.out];rfl,D⟩
  ·have:k=n:=by omega
   subst this;have Y:=yh (M1 (Nat.le_of_eq h.len));go_wp2_with fail;go_ret;exact⟨ZN (by rw[ZK (by rw[←Y.out];exact J)]),hb⟩
theorem QPa (A:Option Addr)(n cap:Nat)(l:List (List Int))(g:Nat)(lb:Array Value)(p:(List Int)→Bool)(w:World)(h:Sl (slC QO 1) 1 w All A n cap l)
  (J:∀V w,(callFunc g V).run prog w=.ok (.enter g V) w)
  (E:∀(x:(List Int)) (w1:World) (B:Option Addr) (q D:Nat),x∈l→yw w w1→Sl QO 1 w1 All B q D x→Calls prog g (#[.slice B q D]++lb) w1 fun e w'=>e=.returned (.bool (p x))∧yw w1 w') :
  Calls prog 214 #[.slice A n cap,.func (.func g) #[] lb] w fun e w'=>e=.returned (.bool (l.any p))∧yw w w':=by
 have F:=UGa A n cap l g lb p w h J E;clear E;go_enter func214,ntmps214;go_wp2_with fail;refine yM F fun w1 O=>?_;have I:=yh (VH (p:=p) (l:=l));have Q:=Yp (p:=p) (l:=l) (by have:=h.bd;have:=h.len;omega);go_wp2_with fail;go_ret;exact⟨Ux I,O⟩
theorem Uz (n a b:Int)(w:World):Calls prog 123 #[.int .i64 n,.int .i64 a,.int .i64 b] w fun e w'=>e=.returned (.bool (Qc n a b))∧w'=w:=by
 go_enter func123,ntmps123;go_wp2
 all_goals go_ret
 all_goals exact⟨Ux (by unfold Qc;simp;try omega),rfl⟩
def UT (n h:Int):Int:=(n*h+50) / 100
theorem Q8b {n h:Int}{N H:Nat}(D:0≤n)(E:n≤N)(A:0≤h)(F:h≤H):0≤n*h∧n*h≤((N*H:Nat):Int):=by
 refine⟨Int.mul_nonneg D A,?_⟩;have:=Int.mul_le_mul E F A (by omega)
 simpa using this
theorem Via (n h:Int)(w:World)(E:0≤n)(F:n≤1000000000)(I:0≤h)(J:h≤1000):Calls prog 175 #[.int .i64 n,.int .i64 h] w fun e w'=>e=.returned (.int .i64 (UT n h))∧w'=w:=by
 have O:=Q8b (N:=1000000000) (H:=1000) E F I J;obtain⟨q,A⟩:=yE (n*h)
 have D:UT n h=(q+50) / 100:=by rw[A];rfl
 rw[D];rw[←A]at O
 have Q:wrap64 (n*h)=q:=by rw[←A];unfold wrap64;omega
 have U:IntKind.i64.wrap (n*h)=q:=by rw[←A];exact IntWalk.i64_in _ (by omega)
 clear A D;go_enter func175,ntmps175;go_wp2;go_ret;exact⟨ZN (by first|omega|(rw[Q];unfold wrap64;omega)),rfl⟩
theorem VGb (m:Nat)(w:World)(hm:m≤1000000) :
  Calls prog 243 #[.slice none 0 0,.int .i64 m] w fun e w'=>∃v xs,e=.returned v∧Own QO 1 3 w' w.heap.size v [] xs∧yw w w':=by
 rcases Nat.eq_zero_or_pos m with rfl|aa
 ·go_enter func243,ntmps243;go_wp2;go_ret;exact⟨_,_,rfl,Own.nil _ _ _ _ _,J4 _ _⟩
 ·obtain⟨i,z,U,W,hs,E,X⟩:=Uv.hi;have V:(Builtin.firstCells i.size 0 (.slice none 0 0)).run prog w.drew=.ok ([]:List Value).toArray w.drew:=run_firstCells_none w.drew i.size 0 0 0;have D:=fun ty=>Lib.run_append_grow_zeros (P:=prog) w 70 3 ty 3 i z .i64 .i64 underlying70 underlying3 U W none 0 0 [] V m aa (by omega) (by omega) (by omega) (by rw[E];omega) (by rw[Nat.zero_add];exact growslice_fits (by omega) (by rw[E];omega));have O:=grownCap_ge w (0+m) 0 3;have A:=grownCap_le_maxLen w (0+m) 0 3 (by unfold maxLen;omega);obtain⟨G,J⟩:=yE (grownCap w (0+m) 0 3);rw[←J]at D O A;obtain⟨I,F⟩:=yE (([]:List Value).toArray++Builtin.zeroCells z.cells m++Builtin.zeroCells z.cells (G-(0+m)))
  have Q:I.size=G:=by
   rw[F,Array.size_append,Array.size_append,size_zeroCells,size_zeroCells,X];simp;omega
  rw[←F,Nat.zero_add]at D;have HR:=yh D;have Z:=yh A
  have ab:G≤9223372036854775807:=by unfold maxLen at A;omega
  have ac:m≤G:=by omega
  have Y:=yh Q;clear D J F V U W hs E X Q O A;go_enter func243,ntmps243;go_wp2_with (at_builtin;refine Qja (t:=70) (t2:=3) rfl (.tmp 20) (.tmp 21) rfl rfl rfl (HR _) ?_);go_ret;exact⟨_,_,rfl,⟨World.ownsRow_made w.drew I G (by simp) Z (by rw[Y.out];omega),fun i x h=>by simp at h⟩,(J4 w.heap.size w).drew.alloc (by simp) _⟩
theorem X4 {l:List (List Int)}{k:Nat}{x:List Int}(A:l[k]? = some x):(l.take (k+1)).flatten=(l.take k).flatten++x:=by rw[Qo A];simp
theorem XXa (l:List (List Int))(k:Nat):(l.take k).flatten.length≤l.flatten.length:=by
 have:l.flatten=(l.take k).flatten++(l.drop k).flatten:=by rw[←List.flatten_append,List.take_append_drop]
 rw[this,J9];omega
theorem Yia (A:Option Addr)(n cap:Nat)(l:List (List Int))(w:World)(h:Sl (slC QO 1) 1 w All A n cap l)(hm:l.flatten.length≤1000000) :
  Calls prog 216 #[.slice A n cap] w fun e w'=>∃v xs,e=.returned v∧Own QO 1 3 w' w.heap.size v l.flatten xs∧yw w w':=by
 have ai:=h.bd;have hg:=ZU Qd (show 0<1 by omega);go_enter func216,ntmps216;go_wp2_with fail
 go_loopg [3,11] n (fun gk s i wr=>∃k:Nat,k≤n∧n-k≤gk∧i=.int .i64 k∧(∃q:Nat,s=.int .i64 q∧Aside (q=(l.take k).flatten.length))∧wr=w)
 case atStart=>exact⟨0,M0 _,by omega,rfl,⟨0,rfl,rfl⟩,rfl⟩
 case round=>
  obtain⟨k,hk,ak,rfl,⟨s,rfl,O⟩,rfl⟩:=hrel
  have af:s≤1000000:=by have Q:s=(l.take k).flatten.length:=O;have:=XXa l k;omega
  by_cases hlt:k<n
  ·obtain⟨b,ag,x,c0,rfl,D,hc,g0⟩:=h.at1 hlt;obtain⟨B,q,c2,hc,J⟩:=hc;simp only[List.cons.injEq,and_true]at hc;subst hc;have I:=J.len
   have al:s+q≤1000000:=by have Q:s=(l.take k).flatten.length:=O;have:=XXa l (k+1);rw[X4 D,J9]at this;omega
   have Y:=yh (show s+q=(l.take (k+1)).flatten.length by rw[X4 D,J9,I];have Q:s=(l.take k).flatten.length:=O;omega);clear D I;go_wp2_with fail;go_roundg (n-(k+1))
   case measure=>omega
   case rel=>exact⟨k+1,by omega,by omega,by go_num,⟨s+q,by go_num,Y⟩,rfl⟩
  ·have:k=n:=by omega
   subst this;have Z:=yh (M1 (Nat.le_of_eq h.len));go_wp2_with fail;refine(VGb s wr af).mono ?_;rintro e w1 ⟨v1,an,rfl,V,aa⟩;obtain⟨A1,n1,c1,rfl,ad⟩:=V.sl Qd;clear ad;go_wp2_with fail
   go_loopg [6,27] k (fun gk out i W=>∃j:Nat,j≤k∧k-j≤gk∧i=.int .i64 j∧(∃xs,Own QO 1 3 W wr.heap.size out (l.take j).flatten xs)∧yw wr W)
   case atStart=>exact⟨0,M0 _,by omega,rfl,⟨_,V⟩,aa⟩
   case round=>
    obtain⟨j,hj,aj,rfl,⟨ao,E⟩,F⟩:=hrel;obtain⟨A2,n2,ah,rfl,ae⟩:=E.sl Qd;clear ae;by_cases hjt:j<k
    ·obtain⟨b,ag,x,c0,rfl,D,hc,g0⟩:=(h.below hg (by omega) F).at1 hjt;obtain⟨B,q,c2,hc,J⟩:=hc;simp only[List.cons.injEq,and_true]at hc;subst hc;have I:=J.len
     have hz:(((l.take j).flatten).length+q)*8≤140737488355328:=by have:=XXa l (j+1);rw[X4 D,J9]at this;omega
     have X:=yh (X4 D);have U:=F.size;clear D I;go_wp2_with (at_builtin;refine QC (t:=70) (e:=3) (bytes:=8) rfl (.tmp 31) (.tmp 32) rfl Uv Qd rfl E rfl J (fun _ _ hc=>hc) hz (by omega) U ?_;intro v' w' am ac ab _);go_roundg (k-(j+1))
     case measure=>omega
     case rel=>exact⟨j+1,by omega,by omega,by go_num,⟨_,by rw[X.out];exact ac⟩,QA F E ab U⟩
    ·have:j=k:=by omega
     subst this;go_wp2_with fail;go_ret;exact⟨_,_,rfl,by rw[Z.out]at E;exact E,F⟩
def Uq (L:List (List Int)) (c many:Int):Int:=
 if (L.length:Int)≠c∨L.any (fun x=>((x.length:Int) !=many))=true then 1 else if L.flatten.any (fun x=>!Qc x 0 100000)then 3 else 0
def Zw (l:List Band) (i:Nat):Int:=
 if Qc (l[i]?.getD default).days 0 999=false∨Qc (l[i]?.getD default).part 0 100=false then 3 else
 if 0<i∧((l[i]?.getD default).days≤(l[i-1]?.getD default).days∨(l[i-1]?.getD default).part<(l[i]?.getD default).part)then 4 else 0
def UL (l:List Band):Int:=if 4<l.length then 2 else Qq (Zw l) l.length
def ZI (x:Fares) (c many:Int):Int:=
 if Qc c 1 5=false∨X7 many=false then 3 else
 if Uq x.leg c many≠0 then Uq x.leg c many else
 if Qc x.alone 0 200=false∨Qc x.third 0 100=false∨Qc x.down 0 100=false then 3 else UL x.bands
theorem UZb (A:Option Addr)(n cap:Nat)(x:List Int)(I:Int)(B:Nat)(w:World)(h:Sl QO 1 w All A n cap x)(E:yI w B 0 I) :
  Calls prog 215 #[.slice A n cap,.pointer (some ⟨B,0,none⟩)] w fun e w'=>e=.returned (.bool ((x.length:Int) !=I))∧yw w w':=by
 have D:=h.len;subst D;go_enter func215,ntmps215;go_wp2_with fail;go_ret;exact⟨rfl,J4 _ _⟩
theorem U0b (x:Int)(w:World):Calls prog 217 #[.int .i64 x] w fun e w'=>e=.returned (.bool (!Qc x 0 100000))∧yw w w':=by
 go_enter func217,ntmps217;go_wp2_with (go_at_call 123;refine(Uz _ _ _ _).mono ?_;rintro e w' ⟨rfl,rfl⟩);go_ret;exact⟨rfl,J4 _ _⟩
theorem YOa {L:List (List Int)}{m:Nat}(h:∀x∈L,x.length≤m):L.flatten.length≤L.length*m:=by
 induction L with
 | nil=>simp
 | cons x L ih=>
  have D:=h x (by simp);have E:=ih fun y A=>h y (by simp[A]);rw[List.flatten_cons,J9,List.length_cons,Nat.add_mul];omega
theorem U1b (A:Option Addr)(n cap:Nat)(L:List (List Int))(c D:Int)(w:World)(h:Sl (slC QO 1) 1 w All A n cap L)(hc:c≤5)(hm:D≤7) :
  Calls prog 164 #[.slice A n cap,.int .i64 c,.int .i64 D] w fun e w'=>e=.returned (.int .i64 (Uq L c D))∧yw w w':=by
 have hg:=ZU Qd (show 0<1 by omega);have O:=yh h.len;have F:yw w (w.alloc (.cells #[.int .i64 D] 3)):=(J4 _ _).alloc (J5 _) _;obtain⟨r,V⟩:=yE (Uq L c D);rw[←V];have Q:=yh V;clear V;by_cases hn:(n:Int)=c
 ·have af:((n:Int) !=c)=false:=by simpa using hn
  obtain⟨t,W⟩:=yE (L.any (fun x=>((x.length:Int) !=D)))
  have E:=QPa A n cap L 215 #[.pointer (some ⟨w.heap.size,0,none⟩)] (fun x=>((x.length:Int) !=D)) _ (h.below hg (by omega) F) (enters_of func215 (by kernel_rfl) rfl)
   (fun x w1 B q Z _ hb ag=>by simpa using UZb B q Z x D w.heap.size w1 ag (cell_of_one ((hb.block _ (by simp)).trans (Zk _ _))))
  rw[←W]at E;have X:=yh E;have U:=yh W;have I:=yh hn;clear W E hn;cases t
  ·have ab:L.flatten.length≤1000:=by
    have h1:=YOa (L:=L) (m:=7) fun x hx=>by
     have:=List.any_eq_false.1 U.symm x hx;simp at this;omega
    have:=O.out;have:=I.out;omega
   have ad:=yh ab;clear ab;obtain⟨q,hq⟩:=yE (L.flatten.any (fun x=>!Qc x 0 100000));have Y:=yh hq;clear hq;go_enter func164,ntmps164;go_wp2_with fail;refine yM X fun w1 ai=>?_;replace ai:=F.trans (ai.mono F.size);go_wp2_with fail;refine(Yia _ _ _ L _ (h.below hg (by omega) ai) (by have:=ad.out;omega)).mono ?_;rintro e w2 ⟨v,xs,rfl,ho,aa⟩;obtain⟨A2,n2,Z,rfl,J⟩:=ho.sl Qd;replace J:=J.all Qd (by omega);replace ai:=ai.trans (aa.mono ai.size);clear aa ho;have E:=Zsa _ _ _ _ 217 #[] (fun x=>!Qc x 0 100000) w2 J (enters_of func217 (by kernel_rfl) rfl) (fun x w1 _ _=>by simpa using U0b x w1);rw[←Y.out]at E;have ac:=yh E;clear E J;cases q
   all_goals
    go_wp2_with fail;refine yM ac fun w3 ae=>?_;go_wp2_with fail;go_ret;exact⟨ZN (by rw[Q.out];unfold Uq;rw[M2 (by rw[O.out,←U.out];simp[I.out]),←Y.out];rfl),ai.trans (ae.mono ai.size)⟩
  ·go_enter func164,ntmps164;go_wp2_with fail;refine yM X fun w1 ai=>?_;go_wp2_with fail;go_ret;exact⟨ZN (by rw[Q.out];unfold Uq;rw[M3 (.inr U.out.symm)]),F.trans (ai.mono F.size)⟩
 ·have af:((n:Int) !=c)=true:=by simpa using hn
  have I:=yh hn;clear hn;go_enter func164,ntmps164;go_wp2_with fail;go_ret;exact⟨ZN (by rw[Q.out];unfold Uq;rw[M3 (.inl (by rw[O.out];exact I.out))]),F⟩
theorem UDb (A:Option Addr)(n cap:Nat)(l:List Band)(w:World)(h:Sl Vl 2 w All A n cap l) :
  Calls prog 165 #[.slice A n cap] w fun e w'=>e=.returned (.int .i64 (UL l))∧yw w w':=by
 have ai:=h.bd;have af:=yh h.len;obtain⟨r,hr⟩:=yE (UL l);rw[←hr];have Y:=yh hr;clear hr;by_cases hn:4<n
 ·have hr:r=2:=by rw[Y.out];unfold UL;rw[af.out,M3 hn]
  subst hr;go_enter func165,ntmps165;go_wp2_with fail;go_ret;exact⟨rfl,J4 _ _⟩
 ·have hr:r=Qq (Zw l) n:=by rw[Y.out];unfold UL;rw[af.out,M2 hn]
  have Z:=yh hr;clear hr;go_enter func165,ntmps165;go_wp2_with fail
  go_loopg [10] n (fun gk i wr=>∃k:Nat,k≤n∧n-k≤gk∧i=.int .i64 k∧Aside (Qq (Zw l) k=0)∧yw w wr)
  case atStart=>exact⟨0,M0 _,by omega,rfl,rfl,J4 _ _⟩
  case round=>
   obtain⟨k,hk,aj,rfl,I,O⟩:=hrel;by_cases hlt:k<n
   ·obtain⟨b,al,x,c0,c1,rfl,hx,⟨Q,b0,b1⟩,g0,g1⟩:=(h.below Qx (by omega) O).at2 hlt;simp only[List.cons.injEq,and_true]at Q;obtain⟨rfl,rfl⟩:=Q;have J:=yh hx;clear hx
    have fin:∀q:Int,Zw l k=q→q≠0→r=q:=fun q h1 h2=>by
     rw[Z.out,U5 (n:=n) I.out (by rw[h1];exact h2) hlt,h1]
    have V:=yh fin;clear fin;have D:=fun W=>Uz x.days 0 999 W;have F:=fun W=>Uz x.part 0 100 W;have E:=O.alloc O.size (.cells #[.int .i64 x.days,.int .i64 x.part] 138);cases hd:Qc x.days 0 999
    ·have hr:r=3:=V.out 3 (by unfold Zw;rw[J.out,Option.getD_some,M3 (.inl hd)]) (by decide);subst hr;rw[hd]at D;clear hd;go_wp2_with fail;refine(D _).mono ?_;rintro e w1 ⟨rfl,rfl⟩;go_wp2_with fail;go_ret;exact⟨rfl,E⟩
    ·rw[hd]at D;cases hp:Qc x.part 0 100
     ·have hr:r=3:=V.out 3 (by unfold Zw;rw[J.out,Option.getD_some,M3 (.inr hp)]) (by decide);subst hr;rw[hp]at F;clear hd hp;go_wp2_with fail;refine(D _).mono ?_;rintro e w1 ⟨rfl,rfl⟩;go_wp2_with fail;refine(F _).mono ?_;rintro e w1 ⟨rfl,rfl⟩;go_wp2_with fail;go_ret;exact⟨rfl,E⟩
     ·rw[hp]at F
      have ae:k=0→Zw l k=0:=fun h0=>by
       unfold Zw;rw[J.out,Option.getD_some,M2 (by rw[hd,hp];simp),M2 (by omega)]
      have ad:∀y,l[k-1]? = some y→0<k→Zw l k=if x.days≤y.days∨y.part<x.part then 4 else 0:=fun y U h0=>by
       unfold Zw;rw[J.out,Option.getD_some,M2 (by rw[hd,hp];simp),U,Option.getD_some];by_cases e:x.days≤y.days∨y.part<x.part
       ·rw[M3 ⟨h0,e⟩,M3 e]
       ·rw[M2 (fun h=>e h.2),M2 e]
      have aa:=yh ad;have ag:=yh ae;clear ad ae hd hp;rcases k with _|k
      ·simp only[Nat.zero_mul,Nat.add_zero]at g0 g1;go_wp2_with fail;refine(D _).mono ?_;rintro e w1 ⟨rfl,rfl⟩;go_wp2_with fail;refine(F _).mono ?_;rintro e w1 ⟨rfl,rfl⟩;go_wp2_with fail;go_quiet (fail);go_wp2_with fail;go_roundg (n-1)
       case measure=>omega
       case rel=>exact⟨1,by omega,by omega,rfl,(show Aside _ from(Za I).trans (ag (by trivial))),below_drewN E _⟩
      ·obtain⟨b2,am,y,d0,d1,ao,U,⟨ac,y0,y1⟩,e0,e1⟩:=(h.below Qx (by omega) E).at2 (show k<n by omega);injection ao with ao;injection ao with hb2 ho2 _;subst hb2 ho2;simp only[List.cons.injEq,and_true]at ac;obtain⟨rfl,rfl⟩:=ac;have Hy:=yh U;clear U;have hw:IntKind.i64.wrap (k:Int)=k:=IntWalk.i64_in _ (by omega);have ak:decide ((0:Int)<(k:Int)+1)=true:=J2 (by omega);have ab:x.days≤y.days∨y.part<x.part→r=4:=fun Q=>V.out 4 (by rw[aa.out y (by simpa using Hy.out) (by omega),M3 Q]) (by decide);have X:=yh ab;clear ab;by_cases hd:x.days≤y.days
       ·have hr:r=4:=X (.inl hd);subst hr;have ah:decide (x.days≤y.days)=true:=J2 hd;go_wp2_with fail;refine(D _).mono ?_;rintro e w1 ⟨rfl,rfl⟩;go_wp2_with fail;refine(F _).mono ?_;rintro e w1 ⟨rfl,rfl⟩;go_wp2_with fail;go_quiet (fail);go_wp2_with fail;go_ret;exact⟨rfl,below_drewN E _⟩
       ·have ah:decide (x.days≤y.days)=false:=J3 hd;by_cases hp:y.part<x.part
        ·have hr:r=4:=X (.inr hp);subst hr;go_wp2_with fail;refine(D _).mono ?_;rintro e w1 ⟨rfl,rfl⟩;go_wp2_with fail;refine(F _).mono ?_;rintro e w1 ⟨rfl,rfl⟩;go_wp2_with fail;go_quiet (fail);go_wp2_with fail;go_ret;exact⟨rfl,below_drewN E _⟩
        ·go_wp2_with fail;refine(D _).mono ?_;rintro e w1 ⟨rfl,rfl⟩;go_wp2_with fail;refine yN (F _) ?_;go_wp2_with fail;go_quiet (fail);go_wp2_with fail;go_roundg (n-(k+1+1))
         case measure=>omega
         case rel=>exact⟨k+1+1,by omega,by omega,by go_num,(show Aside _ from(Za I).trans (by rw[aa.out y (by simpa using Hy.out) (by omega),M2 (by omega)])),below_drewN E _⟩
   ·obtain rfl:k=n:=by omega
    have hr:r=0:=by rw[Z.out];exact I
    subst hr;go_wp2_with fail;go_ret;exact⟨rfl,O⟩
def FareAt (w:World) (b:Nat) (A:Option Addr) (n cap:Nat) (x:Fares) (B:Option Addr) (m cap2:Nat):Prop:=
 w.heap[b]? = some (.cells #[.slice A n cap,.int .i64 x.alone,.int .i64 x.third,.slice B m cap2,.int .i64 x.down] 29 (0,0))
section
variable {w w':World} {b:Nat} {A:Option Addr} {n cap:Nat} {x:Fares} {B:Option Addr} {m cap2:Nat}
theorem FareAt.c0 (h:FareAt w b A n cap x B m cap2):yJ w b 0 A n cap:=Z6 h rfl
theorem FareAt.c1 (h:FareAt w b A n cap x B m cap2):yI w b 1 x.alone:=Z6 h rfl
theorem FareAt.c2 (h:FareAt w b A n cap x B m cap2):yI w b 2 x.third:=Z6 h rfl
theorem FareAt.c3 (h:FareAt w b A n cap x B m cap2):yJ w b 3 B m cap2:=Z6 h rfl
theorem FareAt.c4 (h:FareAt w b A n cap x B m cap2):yI w b 4 x.down:=Z6 h rfl
theorem FareAt.below (h:FareAt w b A n cap x B m cap2)(D:yw w w'):FareAt w' b A n cap x B m cap2:=(D.block _ (lt_of_block h)).trans h
theorem FareAt.new (w:World):FareAt (w.alloc (.cells #[.slice A n cap,.int .i64 x.alone,.int .i64 x.third,.slice B m cap2,.int .i64 x.down] 29)) w.heap.size A n cap x B m cap2:=Zk _ _
end
structure FareR (w:World) (A:Option Addr) (n cap:Nat) (x:Fares) (B:Option Addr) (m cap2:Nat):Prop where
 leg:Sl (slC QO 1) 1 w All A n cap x.leg
 bands:Sl Vl 2 w All B m cap2 x.bands
 a:InI x.alone
 t:InI x.third
 d:InI x.down
theorem FareR.below {w w':World}{A:Option Addr}{n cap:Nat}{x:Fares}{B:Option Addr}{m E:Nat}(h:FareR w A n cap x B m E)(D:yw w w'):FareR w' A n cap x B m E:=
 ⟨h.leg.below (ZU Qd (by omega)) (by omega) D,h.bands.below Qx (by omega) D,h.a,h.t,h.d⟩
theorem Qna (A:Option Addr)(n cap:Nat)(x:Fares)(B:Option Addr)(m X:Nat)(c J:Int)(w:World)(h:FareR w A n cap x B m X) :
  Calls prog 78 #[.agg #[.slice A n cap,.int .i64 x.alone,.int .i64 x.third,.slice B m X,.int .i64 x.down],.int .i64 c,.int .i64 J] w fun e w'=>e=.returned (.int .i64 (ZI x c J))∧yw w w':=by
 have E:yw w (w.alloc (.cells #[.slice A n cap,.int .i64 x.alone,.int .i64 x.third,.slice B m X,.int .i64 x.down] 29)):=(J4 _ _).alloc (J5 _) _;have hF:FareAt (w.alloc (.cells #[.slice A n cap,.int .i64 x.alone,.int .i64 x.third,.slice B m X,.int .i64 x.down] 29)) w.heap.size A n cap x B m X:=FareAt.new w;obtain⟨r,D⟩:=yE (ZI x c J);rw[←D];have Z:=yh D;clear D;have I:=fun W=>Uz c 1 5 W;have O:=fun W=>U3a J W;cases F:Qc c 1 5
 ·have D:r=3:=by rw[Z.out];unfold ZI;rw[M3 (.inl F)]
  subst D;rw[F]at I;clear F;go_enter func78,ntmps78;go_wp2_with fail;refine(I _).mono ?_;rintro e w1 ⟨rfl,rfl⟩;go_wp2_with fail;go_ret;exact⟨rfl,E⟩
 ·rw[F]at I;cases hq2:X7 J
  ·have D:r=3:=by rw[Z.out];unfold ZI;rw[M3 (.inr hq2)]
   subst D;rw[hq2]at O;clear F hq2;go_enter func78,ntmps78;go_wp2_with fail;refine(I _).mono ?_;rintro e w1 ⟨rfl,rfl⟩;go_wp2_with fail;refine(O _).mono ?_;rintro e w1 ⟨rfl,rfl⟩;go_wp2_with fail;go_ret;exact⟨rfl,E⟩
  ·rw[hq2]at O;have HV:=yh (show r=if Uq x.leg c J≠0 then Uq x.leg c J else if Qc x.alone 0 200=false∨Qc x.third 0 100=false∨Qc x.down 0 100=false then 3 else UL x.bands by rw[Z.out];unfold ZI;rw[M2 (by rw[F,hq2];simp)]);have hl:=U1b A n cap x.leg c J _ (h.leg.below (ZU Qd (by omega)) (by omega) E) (Ql.1 F).2 (Ql.1 hq2).2;obtain⟨q,hq⟩:=yE (Uq x.leg c J);rw[←hq]at hl HV;have V:=yh hl;clear hl hq F hq2 Z;by_cases hq0:q=0
   ·subst hq0;have aa:=yh (show r=if Qc x.alone 0 200=false∨Qc x.third 0 100=false∨Qc x.down 0 100=false then 3 else UL x.bands by rw[HV.out];rw[M2 (by simp)]);clear HV;have U:=fun W=>Uz x.alone 0 200 W;have Y:=fun W=>Uz x.third 0 100 W;have ab:=fun W=>Uz x.down 0 100 W;cases qa:Qc x.alone 0 200
    ·have D:r=3:=by rw[aa.out,M3 (.inl qa)]
     subst D;rw[qa]at U;clear qa;go_enter func78,ntmps78;go_wp2_with fail;refine(I _).mono ?_;rintro e w1 ⟨rfl,rfl⟩;go_wp2_with fail;refine(O _).mono ?_;rintro e w1 ⟨rfl,rfl⟩;go_wp2_with fail;refine yM V fun w1 ag=>?_;have k1:=(hF.below ag).c1;go_wp2_with fail;refine(U _).mono ?_;rintro e Q ⟨rfl,rfl⟩;go_wp2_with fail;go_ret;exact⟨rfl,E.trans (ag.mono E.size)⟩
    ·rw[qa]at U;cases qt:Qc x.third 0 100
     ·have D:r=3:=by rw[aa.out,M3 (.inr (.inl qt))]
      subst D;rw[qt]at Y;clear qa qt;go_enter func78,ntmps78;go_wp2_with fail;refine(I _).mono ?_;rintro e w1 ⟨rfl,rfl⟩;go_wp2_with fail;refine(O _).mono ?_;rintro e w1 ⟨rfl,rfl⟩;go_wp2_with fail;refine yM V fun w1 ag=>?_;have k1:=(hF.below ag).c1;have k2:=(hF.below ag).c2;go_wp2_with fail;refine(U _).mono ?_;rintro e Q ⟨rfl,rfl⟩;go_wp2_with fail;refine(Y _).mono ?_;rintro e Q ⟨rfl,rfl⟩;go_wp2_with fail;go_ret;exact⟨rfl,E.trans (ag.mono E.size)⟩
     ·rw[qt]at Y;cases qd:Qc x.down 0 100
      ·have D:r=3:=by rw[aa.out,M3 (.inr (.inr qd))]
       subst D;rw[qd]at ab;clear qa qt qd;go_enter func78,ntmps78;go_wp2_with fail;refine(I _).mono ?_;rintro e w1 ⟨rfl,rfl⟩;go_wp2_with fail;refine(O _).mono ?_;rintro e w1 ⟨rfl,rfl⟩;go_wp2_with fail;refine yM V fun w1 ag=>?_;have k1:=(hF.below ag).c1;have k2:=(hF.below ag).c2;have k4:=(hF.below ag).c4;go_wp2_with fail;refine(U _).mono ?_;rintro e Q ⟨rfl,rfl⟩;go_wp2_with fail;refine(Y _).mono ?_;rintro e Q ⟨rfl,rfl⟩;go_wp2_with fail;refine(ab _).mono ?_;rintro e Q ⟨rfl,rfl⟩;go_wp2_with fail;go_ret;exact⟨rfl,E.trans (ag.mono E.size)⟩
      ·have ad:=yh (show r=UL x.bands by rw[aa.out,M2 (by rw[qa,qt,qd];simp)]);rw[qd]at ab;clear qa qt qd;go_enter func78,ntmps78;go_wp2_with fail;refine(I _).mono ?_;rintro e w1 ⟨rfl,rfl⟩;go_wp2_with fail;refine(O _).mono ?_;rintro e w1 ⟨rfl,rfl⟩;go_wp2_with fail;refine yM V fun w1 ag=>?_;have k1:=(hF.below ag).c1;have k2:=(hF.below ag).c2;have k3:=(hF.below ag).c3;have k4:=(hF.below ag).c4;replace ag:=E.trans (ag.mono E.size);go_wp2_with fail;refine(U _).mono ?_;rintro e Q ⟨rfl,rfl⟩;go_wp2_with fail;refine(Y _).mono ?_;rintro e Q ⟨rfl,rfl⟩;go_wp2_with fail;refine yN (ab _) ?_;go_wp2_with fail;have ac:=UDb _ _ _ _ _ (h.bands.below Qx (by omega) ag);rw[←ad.out]at ac;refine yM ac fun w3 ae=>?_;go_wp2_with fail;go_ret;exact⟨rfl,ag.trans (ae.mono ag.size)⟩
   ·have F:(q !=0)=true:=by simpa using hq0
    have D:r=q:=by rw[HV.out,M3 hq0]
    subst D;clear hq0 HV;go_enter func78,ntmps78;go_wp2_with fail;refine(I _).mono ?_;rintro e w1 ⟨rfl,rfl⟩;go_wp2_with fail;refine(O _).mono ?_;rintro e w1 ⟨rfl,rfl⟩;go_wp2_with fail;refine yM V fun w1 ag=>?_;go_wp2_with fail;go_ret;exact⟨rfl,E.trans (ag.mono E.size)⟩
def X4a (x:Fares) (c many n:Int):Int:=if ZI x c many≠0 then ZI x c many else if Qc n 0 100000000 then 0 else 3
def Vib (x:Fares) (c many n days:Int):Int:=if X4a x c many n≠0 then X4a x c many n else if days<0 then 3 else 0
def Z5a (x:Fares) (days:Int):Int:=UD (fun b:Band=>decide (days≤b.days)) x.bands
def Xq (x:Fares) (n days:Int):Int:=if Z5a x days<0 then 0 else UT n (x.bands[(Z5a x days).toNat]?.getD default).part
theorem VOa {f:Nat→Int} : ∀{n:Nat},Qq f n=0→∀i,i<n→f i=0:=by
 intro n
 induction n with
 | zero=>intro _ i A;omega
 | succ n ih=>
  intro h i A;simp only[Qq]at h;by_cases e:Qq f n=0
  ·rw[M3 e]at h;by_cases e2:i=n
   ·rw[e2];exact h
   ·exact ih e i (by omega)
  ·rw[M2 e]at h;exact absurd h e
structure FareOk (x:Fares) (c many:Int):Prop where
 cr:1≤c∧c≤5
 mr:1≤many∧many≤7
 len:(x.leg.length:Int)=c
 lens:∀y∈x.leg,(y.length:Int)=many
 leg:∀y∈x.leg,∀v∈y,0≤v∧v≤100000
 a:0≤x.alone∧x.alone≤200
 t:0≤x.third∧x.third≤100
 d:0≤x.down∧x.down≤100
 four:x.bands.length≤4
 band:∀b∈x.bands,0≤b.days∧b.days≤999∧0≤b.part∧b.part≤100
 ord:∀i y z,x.bands[i]? = some y→x.bands[i+1]? = some z→y.days<z.days∧z.part≤y.part
theorem Vp {b:Bool}(h:¬b=false):b=true:=by cases b<;>simp_all
theorem VUb {l:List Band}(h:UL l=0):l.length≤4∧(∀b∈l,0≤b.days∧b.days≤999∧0≤b.part∧b.part≤100)∧∀i y z,l[i]? = some y→l[i+1]? = some z→y.days<z.days∧z.part≤y.part:=by
 unfold UL at h;by_cases h4:4<l.length
 ·rw[M3 h4]at h;omega
 ·rw[M2 h4]at h;have O:=VOa h
  have E:∀i y,l[i]? = some y→Qc y.days 0 999=true∧Qc y.part 0 100=true∧¬(0<i∧(y.days≤(l[i-1]?.getD default).days∨(l[i-1]?.getD default).part<y.part)):=by
   intro i y D;have A:=O i (J0.1 D).1;unfold Zw at A;rw[D,Option.getD_some]at A;by_cases e1:Qc y.days 0 999=false∨Qc y.part 0 100=false
   ·rw[M3 e1]at A;omega
   ·rw[M2 e1]at A;by_cases e2:0<i∧(y.days≤(l[i-1]?.getD default).days∨(l[i-1]?.getD default).part<y.part)
    ·rw[M3 e2]at A;omega
    ·exact⟨Vp fun e=>e1 (.inl e),Vp fun e=>e1 (.inr e),e2⟩
  refine⟨by omega,fun b Q=>?_,fun i y z D U=>?_⟩
  ·obtain⟨i,A⟩:=List.getElem?_of_mem Q;obtain⟨F,I,_⟩:=E i b A;have:=Ql.1 F;have:=Ql.1 I;omega
  ·obtain⟨_,_,J⟩:=E (i+1) z U;rw[show i+1-1=i by omega,D,Option.getD_some]at J;omega
theorem Y5b {L:List (List Int)}{c A:Int}(h:Uq L c A=0):(L.length:Int)=c∧(∀y∈L,(y.length:Int)=A)∧∀y∈L,∀v∈y,0≤v∧v≤100000:=by
 unfold Uq at h;by_cases e1:(L.length:Int)≠c∨L.any (fun x=>((x.length:Int) !=A))=true
 ·rw[M3 e1]at h;omega
 ·rw[M2 e1]at h
  have E:L.any (fun x=>((x.length:Int) !=A))=false:=by
   cases e:L.any (fun x=>((x.length:Int) !=A))with
   | false=>rfl
   | true=>exact absurd (.inr e) e1
  have F:L.flatten.any (fun x=>!Qc x 0 100000)=false:=by
   cases e:L.flatten.any (fun x=>!Qc x 0 100000)with
   | false=>rfl
   | true=>rw[e]at h;simp at h
  refine⟨by omega,fun y D=>?_,fun y D v I=>?_⟩
  ·have:=List.any_eq_false.1 E y D
   simpa using this
  ·have:=List.any_eq_false.1 F v (List.mem_flatten.2 ⟨y,D,I⟩);exact Ql.1 (by simpa using this)
theorem Vz {x:Fares}{c A:Int}(h:ZI x c A=0):FareOk x c A:=by
 unfold ZI at h;by_cases e1:Qc c 1 5=false∨X7 A=false
 ·rw[M3 e1]at h;omega
 ·rw[M2 e1]at h;by_cases e2:Uq x.leg c A=0
  ·rw[M2 (by simp[e2])]at h;by_cases e3:Qc x.alone 0 200=false∨Qc x.third 0 100=false∨Qc x.down 0 100=false
   ·rw[M3 e3]at h;omega
   ·rw[M2 e3]at h;obtain⟨I,l2,J⟩:=Y5b e2;obtain⟨D,E,F⟩:=VUb h;exact⟨Ql.1 (Vp fun e=>e1 (.inl e)),Ql.1 (Vp fun e=>e1 (.inr e)),I,l2,J,Ql.1 (Vp fun e=>e3 (.inl e)),Ql.1 (Vp fun e=>e3 (.inr (.inl e))),Ql.1 (Vp fun e=>e3 (.inr (.inr e))),D,E,F⟩
  ·rw[M3 e2]at h;exact absurd h e2
theorem Zqc {x:Fares}{c A n:Int}(h:X4a x c A n=0):FareOk x c A∧0≤n∧n≤100000000:=by
 unfold X4a at h;by_cases e:ZI x c A=0
 ·rw[M2 (by simp[e])]at h
  have:Qc n 0 100000000=true:=by
   cases e:Qc n 0 100000000 with
   | true=>rfl
   | false=>rw[e]at h;simp at h
  exact⟨Vz e,Ql.1 this⟩
 ·rw[M3 e]at h;exact absurd h e
theorem Qnc (A:Option Addr)(n cap:Nat)(x:Fares)(B:Option Addr)(m I:Nat)(c F p:Int)(w:World)(h:FareR w A n cap x B m I) :
  Calls prog 174 #[.agg #[.slice A n cap,.int .i64 x.alone,.int .i64 x.third,.slice B m I,.int .i64 x.down],.int .i64 c,.int .i64 F,.int .i64 p] w fun e w'=>e=.returned (.int .i64 (X4a x c F p))∧yw w w':=by
 have Z:yw w (w.alloc (.cells #[.slice A n cap,.int .i64 x.alone,.int .i64 x.third,.slice B m I,.int .i64 x.down] 29)):=(J4 _ _).alloc (J5 _) _;have J:=Qna A n cap x B m I c F _ (h.below Z);obtain⟨r,E⟩:=yE (X4a x c F p);obtain⟨q,O⟩:=yE (ZI x c F);rw[←E];rw[←O]at J;have U:=yh (show r=if q≠0 then q else if Qc p 0 100000000 then 0 else 3 by rw[E,O];rfl);have Q:=yh J;clear E O J;have V:=fun W=>Uz p 0 100000000 W;by_cases h0:q=0
 ·subst h0;cases hp:Qc p 0 100000000
  all_goals
   rw[hp]at V;have HV:=yh hp;clear hp;go_enter func174,ntmps174;go_wp2_with fail;refine yM Q fun w1 D=>?_;replace D:=Z.trans (D.mono Z.size);go_wp2_with fail;refine yN (V _) ?_;go_wp2_with fail;go_ret;exact⟨ZN (by rw[U.out,M2 (by simp),HV.out];rfl),D⟩
 ·have X:(q==0)=false:=by simpa using h0
  have E:r=q:=by rw[U.out,M3 h0]
  subst E;clear h0;go_enter func174,ntmps174;go_wp2_with fail;refine yM Q fun w1 D=>?_;go_wp2_with fail;go_ret;exact⟨rfl,Z.trans (D.mono Z.size)⟩
theorem UYb (x:Band)(A:Int)(b:Nat)(w:World)(D:yI w b 0 A) :
  Calls prog 225 #[.agg #[.int .i64 x.days,.int .i64 x.part],.pointer (some ⟨b,0,none⟩)] w fun e w'=>e=.returned (.bool (decide (A≤x.days)))∧yw w w':=by
 have E:=ZT D;go_enter func225,ntmps225;go_wp2_with fail;go_ret;exact⟨rfl,(J4 _ _).alloc (J5 _) _⟩
theorem VHb (A:Option Addr)(n cap:Nat)(x:Fares)(B:Option Addr)(m D:Nat)(p aj:Int)(w:World)(h:FareR w A n cap x B m D)(p0:0≤p)(p1:p≤100000000)(aa:∀b∈x.bands,0≤b.part∧b.part≤100) :
  Calls prog 176 #[.agg #[.slice A n cap,.int .i64 x.alone,.int .i64 x.third,.slice B m D,.int .i64 x.down],.int .i64 p,.int .i64 aj] w fun e w'=>e=.returned (.int .i64 (Xq x p aj))∧yw w w':=by
 have J:yw w ((w.alloc (.cells #[.slice A n cap,.int .i64 x.alone,.int .i64 x.third,.slice B m D,.int .i64 x.down] 29)).alloc (.cells #[.int .i64 aj] 3)):=((J4 _ _).alloc (J5 _) _).alloc (by simp) _;have hF:FareAt ((w.alloc (.cells #[.slice A n cap,.int .i64 x.alone,.int .i64 x.third,.slice B m D,.int .i64 x.down] 29)).alloc (.cells #[.int .i64 aj] 3)) w.heap.size A n cap x B m D:=QE _ _ _;have Z:((w.alloc (.cells #[.slice A n cap,.int .i64 x.alone,.int .i64 x.third,.slice B m D,.int .i64 x.down] 29)).alloc (.cells #[.int .i64 aj] 3)).heap[w.heap.size+1]? = some (.cells #[.int .i64 aj] 3 (0,0)):=QF _ _ _
 have O:=UFa B m D x.bands 225 #[.pointer (some ⟨w.heap.size+1,0,none⟩)] (fun b=>decide (aj≤b.days)) _ (h.bands.below Qx (by omega) J) (enters_of func225 (by kernel_rfl) rfl)
  (fun y w1 _ hb=>by simpa using UYb y aj (w.heap.size+1) w1 (cell_of_one ((hb.block _ (by simp)).trans Z)))
 have X:=h.bands.len;obtain⟨r,I⟩:=yE (Xq x p aj);rw[←I];obtain⟨q,F⟩:=yE (Z5a x aj);rw[show UD (fun b:Band=>decide (aj≤b.days)) x.bands=Z5a x aj from rfl,←F]at O;have V:=yh (show r=if q<0 then 0 else UT p (x.bands[q.toNat]?.getD default).part by rw[I,F];rfl);have U:=yh O;cases ha:x.bands.any (fun b=>decide (aj≤b.days))
 ·have ad:q=-1:=by rw[F];exact ZK ha
  subst ad
  have ae:r=0:=by rw[V.out,M3 (by decide)]
  subst ae;clear I F O ha X;go_enter func176,ntmps176;go_wp2_with fail;refine yM U fun w1 E=>?_;go_wp2_with fail;go_ret;exact⟨rfl,J.trans (E.mono J.size)⟩
 ·have Y:=YZb ha;rw[show UD (fun b:Band=>decide (aj≤b.days)) x.bands=q from F.symm]at Y;obtain⟨k,rfl⟩:=Int.eq_ofNat_of_zero_le Y.1
  have ab:k<m:=by omega
  have ag:=h.bands.bd;clear I F O ha X;go_enter func176,ntmps176;go_wp2_with fail;refine yM U fun w1 E=>?_;have k3:=(hF.below E).c3;replace E:=J.trans (E.mono J.size);obtain⟨bb,ah,y,c0,c1,rfl,Q,⟨hc,y0,y1⟩,g0,g1⟩:=(h.bands.below Qx (by omega) E).at2 ab;simp only[List.cons.injEq,and_true]at hc;obtain⟨rfl,rfl⟩:=hc;have af:=aa y (J6 Q)
  have I:r=UT p y.part:=by rw[V.out,M2 (by omega)];simp[Q]
  subst I;clear Q;have ac:=fun W=>Via p y.part W p0 (by omega) af.1 (by omega);go_wp2_with fail;refine yN (ac _) ?_;go_wp2_with fail;go_ret;exact⟨rfl,E⟩
theorem Yla (A:Option Addr)(n cap:Nat)(x:Fares)(B:Option Addr)(m F:Nat)(c J p E:Int)(w:World)(h:FareR w A n cap x B m F) :
  Calls prog 90 #[.agg #[.slice A n cap,.int .i64 x.alone,.int .i64 x.third,.slice B m F,.int .i64 x.down],.int .i64 c,.int .i64 J,.int .i64 p,.int .i64 E] w fun e w'=>e=.returned (.tuple #[.int .i64 (okI (Vib x c J p E) (Xq x p E)),.int .i64 (Vib x c J p E)])∧yw w w':=by
 have I:yw w (w.alloc (.cells #[.slice A n cap,.int .i64 x.alone,.int .i64 x.third,.slice B m F,.int .i64 x.down] 29)):=(J4 _ _).alloc (J5 _) _;have hF:FareAt (w.alloc (.cells #[.slice A n cap,.int .i64 x.alone,.int .i64 x.third,.slice B m F,.int .i64 x.down] 29)) w.heap.size A n cap x B m F:=FareAt.new w;have V:=Qnc A n cap x B m F c J p _ (h.below I);obtain⟨r,D⟩:=yE (Vib x c J p E);obtain⟨q,O⟩:=yE (X4a x c J p);rw[←D];rw[←O]at V;have U:=yh (show r=if q≠0 then q else if E<0 then 3 else 0 by rw[D,O];rfl);have Q:=yh V;have Z:=yh O;clear D O V;by_cases h0:q=0
 ·subst h0;obtain⟨ab,p0,p1⟩:=Zqc Z.symm;by_cases hd:E<0
  ·have D:r=3:=by rw[U.out,M2 (by simp),M3 hd]
   subst D;go_enter func90,ntmps90;go_wp2_with fail;refine yM Q fun w1 ad=>?_;go_wp2_with fail;go_ret2;exact⟨rfl,I.trans (ad.mono I.size)⟩
  ·have D:r=0:=by rw[U.out,M2 (by simp),M2 hd]
   subst D
   have W:∀b∈x.bands,0≤b.part∧b.part≤100:=fun b hb=>by have:=ab.band b hb;omega
   have Y:=yh W;clear W;go_enter func90,ntmps90;go_wp2_with fail;refine yM Q fun w1 ad=>?_;have k0:=(hF.below ad).c0;have k1:=(hF.below ad).c1;have k2:=(hF.below ad).c2;have k3:=(hF.below ad).c3;have k4:=(hF.below ad).c4;replace ad:=I.trans (ad.mono I.size);go_wp2_with fail;refine yM (VHb A n cap x B m F p E _ (h.below ad) p0 p1 Y) fun w2 aa=>?_;go_wp2_with fail;go_ret2;exact⟨rfl,ad.trans (aa.mono ad.size)⟩
 ·have h1:(q==0)=false:=by simpa using h0
  have h2:(q !=0)=true:=by simpa using h0
  have D:r=q:=by rw[U.out,M3 h0]
  subst D;have X:=yh h0;clear h0;go_enter func90,ntmps90;go_wp2_with fail;refine yM Q fun w1 ad=>?_;go_wp2_with fail;go_ret2;exact⟨by rw[X2a X.out];rfl,I.trans (ad.mono I.size)⟩
def Vja (x:Fares) (s g:Int):Int:=if g=1 then s+UT s x.alone else 2*s+(g-2)*UT s x.third
def ofV (x:Fares) (cat:Int) (s:Span) (g:Int):Int:=Vja x (seg (x.leg[cat.toNat]?.getD []) s.frm s.upto).sum g
theorem Zzb {l:List Int}{M:Nat}(h:∀v∈l,0≤v∧v≤(M:Int)):0≤l.sum∧l.sum≤((l.length*M:Nat):Int):=by
 induction l with
 | nil=>simp
 | cons y l ih=>
  have D:=h y (by simp);have E:=ih fun v A=>h v (by simp[A]);rw[List.sum_cons,List.length_cons,Nat.add_mul];omega
theorem Qva {l:List Int}{k:Nat}{y:Int}(h:l[k]? = some y):(l.take (k+1)).sum=(l.take k).sum+y:=by rw[Qo h];simp
theorem Yc {s h:Int}(A:0≤s)(D:s≤1000000)(E:0≤h)(F:h≤200):0≤UT s h∧UT s h≤2000001:=by
 have:=Q8b (N:=1000000) (H:=200) A D E F;unfold UT;omega
theorem Q7c (A:Option Addr)(n cap:Nat)(x:Fares)(B:Option Addr)(m D:Nat)(k f t:Nat)(g:Int)(L:List Int)(w:World)(h:FareR w A n cap x B m D)(V:x.leg[k]? = some L)(ah:f<t)(ht:t≤L.length)(h7:L.length≤7)
  (F:∀v∈L,0≤v∧v≤100000) (Y:0≤x.alone∧x.alone≤200) (ae:0≤x.third∧x.third≤100) (hg:1≤g∧g≤4) :
  Calls prog 124 #[.agg #[.slice A n cap,.int .i64 x.alone,.int .i64 x.third,.slice B m D,.int .i64 x.down],.int .i64 k,.agg #[.int .i64 f,.int .i64 t],.int .i64 g] w fun e w'=>e=.returned (.int .i64 (Vja x (seg L f t).sum g))∧yw w w':=by
 have Z:yw w ((w.alloc (.cells #[.slice A n cap,.int .i64 x.alone,.int .i64 x.third,.slice B m D,.int .i64 x.down] 29)).alloc (.cells #[.int .i64 f,.int .i64 t] 51)):=((J4 _ _).alloc (J5 _) _).alloc (by simp) _;have hF:FareAt ((w.alloc (.cells #[.slice A n cap,.int .i64 x.alone,.int .i64 x.third,.slice B m D,.int .i64 x.down] 29)).alloc (.cells #[.int .i64 f,.int .i64 t] 51)) w.heap.size A n cap x B m D:=QE _ _ _;have hS:SpanAt ((w.alloc (.cells #[.slice A n cap,.int .i64 x.alone,.int .i64 x.third,.slice B m D,.int .i64 x.down] 29)).alloc (.cells #[.int .i64 f,.int .i64 t] 51)) (w.heap.size+1) f t:=QF _ _ _
 have ai:k<n:=by have:=(J0.1 V).1;have:=h.leg.len;omega
 have an:=h.leg.bd;obtain⟨b,am,L',c0,hA,az,⟨B',q,c2,hc,O⟩,g0⟩:=((h.below Z).leg).at1 ai
 obtain rfl:L'=L:=by rw[V]at az;injection az with e;exact e.symm
 simp only[List.cons.injEq,and_true]at hc;subst hc;subst hA;have hq:=O.len;have au:=O.le;have ac:=O.max
 have al:t≤q:=by omega
 have I:=O.segm ah al
 have ad:∀j,0≤((seg L' f t).take j).sum∧((seg L' f t).take j).sum≤700000:=fun j=>by
  have h1:=Zzb (l:=(seg L' f t).take j) (M:=100000) fun v aa=>F v (Yaa (List.mem_of_mem_take aa))
  have h2:((seg L' f t).take j).length≤7:=by rw[J8];have:=I.len;omega
  omega
 have HV:=yh (fun v (aa:v∈seg L' f t)=>F v (Yaa aa));have ab:=yh ad;have af:=yh I.len
 have ar:(f:Int)≤(t:Int):=by omega
 have av:(t:Int)≤(c2:Int):=by omega
 have aq:(k:Int)<(n:Int):=by omega
 have j0:=hF.c0;have j1:=hF.c1;have j2:=hF.c2;have s0:=hS.c0;have s1:=hS.c1
 have ao:c2≤9223372036854775807:=by unfold maxLen at ac;omega
 clear V az F ad hq ac;go_enter func124,ntmps124;go_upto_region 2 with(fail);go_quiet (fail);go_wp2_with fail
 obtain⟨J,Q,ag⟩:∃J Q,Option.map (fun a:Addr=>a.add f) B'=some ⟨J,Q,none⟩:=by
  obtain⟨J,Q,_,_,h3,_⟩:=I.at1 (k:=0) (by omega);exact⟨J,Q,h3⟩
 rw[ag]at I ⊢
 go_loopg [9,23] (t-f) (fun gk s i wr=>∃j:Nat,j≤t-f∧(t-f)-j≤gk∧i=.int .i64 j∧s=.int .i64 ((seg L' f t).take j).sum∧wr=((w.alloc (.cells #[.slice (some ⟨b,am,none⟩) n cap,.int .i64 x.alone,.int .i64 x.third,.slice B m D,.int .i64 x.down] 29)).alloc (.cells #[.int .i64 f,.int .i64 t] 51)).drewN nq)
 case atStart=>exact⟨0,M0 _,by omega,rfl,rfl,rfl⟩
 case round=>
  obtain⟨j,hj,ap,rfl,rfl,rfl⟩:=hrel;by_cases hlt:j<t-f
  ·obtain⟨b4,ax,v,d0,U,F,⟨hd,v0⟩,e0⟩:=(I.below Qd (by omega) (below_drewN (J4 _ _) nq)).at1 hlt;simp only[List.cons.injEq,and_true]at hd;subst hd;have aw:=HV v (J6 F);have HS:=yh (Qva F);have E:=ab j;injection U with U;injection U with e1 e2 _;subst e1 e2;clear F;go_wp2_with fail;go_roundg ((t-f)-(j+1))
   case measure=>omega
   case rel=>exact⟨j+1,by omega,by omega,by go_num,by rw[HS.out],rfl⟩
  ·have:j=t-f:=by omega
   subst this;have E:=ab (t-f);have HT:=yh (M1 (Nat.le_of_eq af));rw[HT.out]at E;obtain⟨S,X⟩:∃S,S=(seg L' f t).sum:=⟨_,rfl⟩;rw[HT.out];rw[←X]at E ⊢;have HP:=yh (show Vja x (seg L' f t).sum g=if g=1 then S+UT S x.alone else 2*S+(g-2)*UT S x.third by rw[←X];rfl);clear X;have aj:=fun W=>Via S x.alone W E.1 (by omega) Y.1 (by omega);have ak:=fun W=>Via S x.third W E.1 (by omega) ae.1 (by omega);have ba:=Yc E.1 (by omega) Y.1 Y.2;have bt:=Yc E.1 (by omega) ae.1 (show x.third≤200 by omega)
   generalize UT S x.alone=pa at *
   generalize UT S x.third=pt at *
   rcases(show g=1∨g=2∨g=3∨g=4 by omega)with rfl|rfl|rfl|rfl
   ·go_wp2_with fail;refine(aj _).mono ?_;rintro e w2 ⟨rfl,rfl⟩;go_wp2_with fail;go_ret;exact⟨ZN (by rw[HP.out];simp),below_drewN Z _⟩
   all_goals
    go_wp2_with fail;refine yN (ak _) ?_;go_wp2_with fail;go_ret;exact⟨ZN (by rw[HP.out,M2 (by omega)];try omega),below_drewN Z _⟩
theorem Qxa (n h:Int)(w:World)(F:0≤n)(I:n≤1000000000)(J:0≤h)(O:h≤1000):Calls prog 177 #[.int .i64 n,.int .i64 h] w fun e w'=>e=.returned (.int .i64 (UT n h))∧w'=w:=by
 have D:=Q8b (N:=1000000000) (H:=1000) F I J O;obtain⟨q,A⟩:=yE (n*h)
 have E:UT n h=(q+50) / 100:=by rw[A];rfl
 rw[E];rw[←A]at D
 have Q:wrap64 (n*h)=q:=by rw[←A];unfold wrap64;omega
 have U:IntKind.i64.wrap (n*h)=q:=by rw[←A];exact IntWalk.i64_in _ (by omega)
 have V:q.tdiv 100=q / 100:=Int.tdiv_eq_ediv_of_nonneg D.1;have t2:q.tmod 100=q % 100:=Int.tmod_eq_emod_of_nonneg D.1;clear A E;go_enter func177,ntmps177;go_wp2
 all_goals go_ret
 all_goals exact⟨ZN (by omega),rfl⟩
theorem VIa (A:Option Addr)(n cap:Nat)(x:Fares)(B:Option Addr)(m D:Nat)(p af:Int)(w:World)(h:FareR w A n cap x B m D)(p0:0≤p)(p1:p≤100000000)(Q:∀b∈x.bands,0≤b.part∧b.part≤100) :
  Calls prog 235 #[.agg #[.slice A n cap,.int .i64 x.alone,.int .i64 x.third,.slice B m D,.int .i64 x.down],.int .i64 p,.int .i64 af] w fun e w'=>e=.returned (.int .i64 (Xq x p af))∧yw w w':=by
 have J:yw w (w.alloc (.cells #[.slice A n cap,.int .i64 x.alone,.int .i64 x.third,.slice B m D,.int .i64 x.down] 29)):=(J4 _ _).alloc (J5 _) _;have ab:=h.bands.bd;have X:=yh h.bands.len;have V:=yh Q;clear Q;go_enter func235,ntmps235;go_wp2_with fail
 go_loopg [7] m (fun gk i wr=>∃k:Nat,k≤m∧m-k≤gk∧i=.int .i64 k∧Aside ((x.bands.take k).any (fun b=>decide (af≤b.days))=false)∧wr=w.alloc (.cells #[.slice A n cap,.int .i64 x.alone,.int .i64 x.third,.slice B m D,.int .i64 x.down] 29))
 case atStart=>exact⟨0,M0 _,by omega,rfl,rfl,rfl⟩
 case round=>
  obtain⟨k,hk,ac,rfl,E,rfl⟩:=hrel;by_cases hlt:k<m
  ·obtain⟨b,ad,y,c0,c1,rfl,O,⟨U,b0,b1⟩,g0,g1⟩:=(h.bands.below Qx (by omega) J).at2 hlt;simp only[List.cons.injEq,and_true]at U;obtain⟨rfl,rfl⟩:=U;have aa:=V y (J6 O);have I:=yh O;clear O;have Z:=fun W=>Qxa p y.part W p0 (by omega) aa.1 (by omega);by_cases hd:af≤y.days
   ·have F:=yh (show Z5a x af=(k:Int)from VA (p:=fun b:Band=>decide (af≤b.days)) E I (J2 hd));go_wp2_with fail;refine yN (Z _) ?_;go_wp2_with fail;go_ret;refine⟨ZN ?_,J⟩;unfold Xq;rw[F.out,M2 (by omega)];simp[I.out]
   ·have HD:=yh (J3 hd);go_wp2_with fail;go_roundg (m-(k+1))
    case measure=>omega
    case rel=>exact⟨k+1,by omega,by omega,by go_num,by show _=_;rw[Qu I.out,E,HD.out];rfl,rfl⟩
  ·have:k=m:=by omega
   subst this;have Y:=yh (M1 (Nat.le_of_eq X));have F:=yh (show Z5a x af=-1 from ZK (by rw[←Y.out];exact E));go_wp2_with fail;go_ret;exact⟨ZN (by unfold Xq;rw[F.out];rfl),J⟩
def upto (s pt:Int) (j:Nat):Int:=if j≤1 then 0 else if j=2 then s else if j=3 then 2*s else if j=4 then 2*s+pt else 2*s+2*pt
theorem Yma (A:Option Addr)(n cap:Nat)(x:Fares)(B:Option Addr)(m E:Nat)(k f t g:Nat)(L:List Int)(w:World)(h:FareR w A n cap x B m E)(Q:x.leg[k]? = some L)(ao:f<t)(ht:t≤L.length)(h7:L.length≤7)
  (I:∀v∈L,0≤v∧v≤100000) (ha:0≤x.alone∧x.alone≤200) (ae:0≤x.third∧x.third≤100) (ap:1≤g) (aq:g≤4) :
  Calls prog 92 #[.agg #[.slice A n cap,.int .i64 x.alone,.int .i64 x.third,.slice B m E,.int .i64 x.down],.int .i64 k,.agg #[.int .i64 f,.int .i64 t],.int .i64 g] w fun e w'=>e=.returned (.int .i64 (Vja x (seg L f t).sum g))∧yw w w':=by
 have X:yw w ((w.alloc (.cells #[.slice A n cap,.int .i64 x.alone,.int .i64 x.third,.slice B m E,.int .i64 x.down] 29)).alloc (.cells #[.int .i64 f,.int .i64 t] 51)):=((J4 _ _).alloc (J5 _) _).alloc (by simp) _;have hF:FareAt ((w.alloc (.cells #[.slice A n cap,.int .i64 x.alone,.int .i64 x.third,.slice B m E,.int .i64 x.down] 29)).alloc (.cells #[.int .i64 f,.int .i64 t] 51)) w.heap.size A n cap x B m E:=QE _ _ _;have hS:SpanAt ((w.alloc (.cells #[.slice A n cap,.int .i64 x.alone,.int .i64 x.third,.slice B m E,.int .i64 x.down] 29)).alloc (.cells #[.int .i64 f,.int .i64 t] 51)) (w.heap.size+1) f t:=QF _ _ _
 have ai:k<n:=by have:=(J0.1 Q).1;have:=h.leg.len;omega
 have an:=h.leg.bd;obtain⟨b,af,D,c0,hA,U,⟨B',q,c2,hc,Y⟩,g0⟩:=((h.below X).leg).at1 ai
 obtain rfl:D=L:=by rw[Q]at U;injection U with e;exact e.symm
 simp only[List.cons.injEq,and_true]at hc;subst hc;subst hA;have hq:=Y.len;have ax:=Y.bd
 have ay:t≤q:=by omega
 have ad:=Zrb (l:=D) (f:=f) (t:=t) ht
 have ac:∀j,0≤((seg D f t).take j).sum∧((seg D f t).take j).sum≤700000:=fun j=>by
  have h1:=Zzb (l:=(seg D f t).take j) (M:=100000) fun v al=>I v (Yaa (List.mem_of_mem_take al))
  have h2:((seg D f t).take j).length≤7:=by rw[J8];omega
  omega
 have HV:=yh I;have aa:=yh ac;have ag:=yh ad;have j0:=hF.c0;have j1:=hF.c1;have j2:=hF.c2;have s0:=hS.c0;have s1:=hS.c1;clear Q U I ac hq ad;go_enter func92,ntmps92;go_wp2_with fail
 go_loopg [9,10] (t-f) (fun gk s i wr=>∃j:Nat,f≤j∧j≤t∧t-j≤gk∧i=.int .i64 j∧s=.int .i64 ((seg D f t).take (j-f)).sum∧wr=((w.alloc (.cells #[.slice (some ⟨b,af,none⟩) n cap,.int .i64 x.alone,.int .i64 x.third,.slice B m E,.int .i64 x.down] 29)).alloc (.cells #[.int .i64 f,.int .i64 t] 51)))
 case atStart=>exact⟨f,J5 _,by omega,by omega,rfl,by simp,rfl⟩
 case round=>
  obtain⟨j,ah,hj,ar,rfl,rfl,rfl⟩:=hrel;by_cases hlt:j<t
  ·obtain⟨b4,aA,v,d0,rfl,I,⟨hd,v0⟩,e0⟩:=Y.at1 (k:=j) (by omega);simp only[List.cons.injEq,and_true]at hd;subst hd;have az:=HV v (J6 I);have HS:=yh (Qva (Zwc I ah hlt));have F:=aa (j-f);clear I;go_wp2_with fail;go_roundg (t-(j+1))
   case measure=>omega
   case rel=>exact⟨j+1,by omega,by omega,by omega,by go_num,by rw[show j+1-f=j-f+1 by omega,HS.out],rfl⟩
  ·have:j=t:=by omega
   subst this;have F:=aa (j-f);have HT:=yh (M1 (Nat.le_of_eq ag));rw[HT.out]at F;obtain⟨S,V⟩:∃S,S=(seg D f j).sum:=⟨_,rfl⟩;rw[HT.out];rw[←V]at F ⊢;have HP:=yh (show Vja x (seg D f j).sum (g:Int)=if (g:Int)=1 then S+UT S x.alone else 2*S+((g:Int)-2)*UT S x.third by rw[←V];rfl);clear V;have aj:=fun W=>Qxa S x.alone W F.1 (by omega) ha.1 (by omega);have ak:=fun W=>Qxa S x.third W F.1 (by omega) ae.1 (by omega);have ba:=Yc F.1 (by omega) ha.1 ha.2;have bt:=Yc F.1 (by omega) ae.1 (show x.third≤200 by omega)
   generalize UT S x.alone=pa at *
   generalize UT S x.third=pt at *
   go_wp2_with fail
   go_loopg [11,12] g (fun gk o i wr=>∃q:Nat,1≤q∧q≤g+1∧g+1-q≤gk∧i=.int .i64 q∧(∃u,o=.int .i64 u∧Aside (u=upto S pt q)∧0≤u∧u≤10000000)∧wr=((w.alloc (.cells #[.slice (some ⟨b,af,none⟩) n cap,.int .i64 x.alone,.int .i64 x.third,.slice B m E,.int .i64 x.down] 29)).alloc (.cells #[.int .i64 f,.int .i64 j] 51)))
   case atStart=>exact⟨1,J5 _,by omega,by omega,rfl,⟨0,rfl,rfl,by omega,by omega⟩,rfl⟩
   case round=>
    obtain⟨q',av,aw,au,rfl,⟨u,rfl,HU,u0,u1⟩,rfl⟩:=hrel;by_cases hqg:q'≤g
    ·have J:u=upto S pt q':=HU;by_cases h2:q'≤2
     ·have O:=yh (show u+S=upto S pt (q'+1)by rw[J];unfold upto;rcases(show q'=1∨q'=2 by omega)with rfl|rfl<;>simp<;>omega)
      have Z:u+S≤10000000:=by rw[J];unfold upto;rcases(show q'=1∨q'=2 by omega)with rfl|rfl<;>simp<;>omega
      clear J;go_wp2_with fail;go_roundg (g+1-(q'+1))
      case measure=>omega
      case rel=>exact⟨q'+1,by omega,by omega,by omega,by go_num,⟨u+S,rfl,O,by omega,Z⟩,rfl⟩
     ·have O:=yh (show u+pt=upto S pt (q'+1)by rw[J];unfold upto;rcases(show q'=3∨q'=4 by omega)with rfl|rfl<;>simp<;>omega)
      have Z:u+pt≤10000000:=by rw[J];unfold upto;rcases(show q'=3∨q'=4 by omega)with rfl|rfl<;>simp<;>omega
      clear J;go_wp2_with fail;refine(ak _).mono ?_;rintro e w2 ⟨rfl,rfl⟩;go_wp2_with fail;go_roundg (g+1-(q'+1))
      case measure=>omega
      case rel=>exact⟨q'+1,by omega,by omega,by omega,by go_num,⟨u+pt,rfl,O,by omega,Z⟩,rfl⟩
    ·have:q'=g+1:=by omega
     subst this;have ab:Hid (u=upto S pt (g+1)):=yh HU;by_cases h1:g=1
     ·subst h1;go_wp2_with fail;refine yN (aj _) ?_;go_wp2_with fail;go_ret;exact⟨ZN (by rw[HP.out,ab.out];simp[upto]),X⟩
     ·have am:((g:Int)==1)=false:=by simp;omega
      go_wp2_with fail;go_ret;refine⟨ZN ?_,X⟩;rw[HP.out,ab.out,M2 (by omega)];rcases(show g=2∨g=3∨g=4 by omega)with rfl|rfl|rfl<;>simp[upto]<;>omega
theorem VPa {l:List (List Int)}{k:Nat}{y:List Int}{p:Int→Bool}(A:l[k]? = some y):(l.take (k+1)).flatten.any p=((l.take k).flatten.any p || y.any p):=by rw[X4 A,List.any_append]
theorem YNa {l:List (List Int)}{k:Nat}{y:List Int}{p:Int→Bool}(E:l[k]? = some y)(h:y.any p=true):l.flatten.any p=true:=by
 obtain⟨v,D,A⟩:=List.any_eq_true.1 h;exact List.any_eq_true.2 ⟨v,List.mem_flatten.2 ⟨y,J6 E,D⟩,A⟩
theorem Uza (A:Option Addr)(n cap:Nat)(x:Fares)(B:Option Addr)(m U:Nat)(c E:Int)(w:World)(h:FareR w A n cap x B m U) :
  Calls prog 69 #[.agg #[.slice A n cap,.int .i64 x.alone,.int .i64 x.third,.slice B m U,.int .i64 x.down],.int .i64 c,.int .i64 E] w fun e w'=>e=.returned (.int .i64 (ZI x c E))∧yw w w':=by
 have D:yw w (w.alloc (.cells #[.slice A n cap,.int .i64 x.alone,.int .i64 x.third,.slice B m U,.int .i64 x.down] 29)):=(J4 _ _).alloc (J5 _) _;have hF:FareAt (w.alloc (.cells #[.slice A n cap,.int .i64 x.alone,.int .i64 x.third,.slice B m U,.int .i64 x.down] 29)) w.heap.size A n cap x B m U:=FareAt.new w;have V:=h.below D;have aM:=h.leg.bd;have aN:=h.bands.bd;have af:=yh h.leg.len;have av:=yh h.bands.len;obtain⟨r,hr⟩:=yE (ZI x c E);rw[←hr];have HR:=yh hr;clear hr;have aa:=fun W=>Qj c 1 5 W;have ab:=fun W=>Qj E 1 7 W;rw[show Qc E 1 7=X7 E from rfl]at ab;cases hq1:Qc c 1 5
 ·have hr:r=3:=by rw[HR.out];unfold ZI;rw[M3 (.inl hq1)]
  subst hr;rw[hq1]at aa;clear hq1;go_enter func69,ntmps69;go_wp2_with fail;refine(aa _).mono ?_;rintro e w1 ⟨rfl,rfl⟩;go_wp2_with fail;go_ret;exact⟨rfl,D⟩
 ·rw[hq1]at aa;cases hq2:X7 E
  ·have hr:r=3:=by rw[HR.out];unfold ZI;rw[M3 (.inr hq2)]
   subst hr;rw[hq2]at ab;clear hq1 hq2;go_enter func69,ntmps69;go_wp2_with fail;refine(aa _).mono ?_;rintro e w1 ⟨rfl,rfl⟩;go_wp2_with fail;refine(ab _).mono ?_;rintro e w1 ⟨rfl,rfl⟩;go_wp2_with fail;go_ret;exact⟨rfl,D⟩
  ·rw[hq2]at ab;have X:=yh (show r=if Uq x.leg c E≠0 then Uq x.leg c E else if Qc x.alone 0 200=false∨Qc x.third 0 100=false∨Qc x.down 0 100=false then 3 else UL x.bands by rw[HR.out];unfold ZI;rw[M2 (by rw[hq1,hq2];simp)]);have aS:=Ql.1 hq2;clear hq1 hq2 HR;go_enter func69,ntmps69;go_wp2_with fail;refine(aa _).mono ?_;rintro e w1 ⟨rfl,rfl⟩;go_wp2_with fail;refine(ab _).mono ?_;rintro e w1 ⟨rfl,rfl⟩;by_cases hn:(n:Int)=c
   ·subst hn;have aC:=hF.c0;have aD:=hF.c1;have aE:=hF.c2;have ao:=hF.c3;have aF:=hF.c4;obtain⟨W,hW⟩:=yE (w.alloc (.cells #[.slice A n cap,.int .i64 x.alone,.int .i64 x.third,.slice B m U,.int .i64 x.down] 29));have HB:=yh V.bands;have HL:=yh V.leg;have HF:=yh hF;rw[←hW]at D aC aD aE ao aF HB HL HF ⊢;clear V hF h hW;go_wp2_with fail
    go_loopg [7] n (fun gk i wr=>∃k:Nat,k≤n∧n-k≤gk∧i=.int .i64 k∧Aside ((x.leg.take k).any (fun y=>((y.length:Int) !=E))=false)∧W=wr)
    case atStart=>exact⟨0,M0 _,by omega,rfl,rfl,rfl⟩
    case round=>
     obtain⟨k,hk,aK,rfl,HA,rfl⟩:=hrel;by_cases hlt:k<n
     ·obtain⟨b,aG,y,c0,rfl,I,⟨B2,q,c2,F,Q⟩,g0⟩:=HL.at1 hlt;simp only[List.cons.injEq,and_true]at F;subst F;have O:=Q.len;have aL:=Q.bd;have Z:=yh I;clear I;by_cases aX:(q:Int)=E
      ·have ap:((q:Int) !=E)=false:=by simpa using aX
       have HP:=yh (show((y.length:Int) !=E)=false by rw[O];exact ap);clear aX O;go_wp2_with fail;go_roundg (n-(k+1))
       case measure=>omega
       case rel=>exact⟨k+1,by omega,by omega,by go_num,by show _=_;rw[Qu Z.out,HA,HP.out];rfl,rfl⟩
      ·have ap:((q:Int) !=E)=true:=by simpa using aX
       have HP:=yh (show((y.length:Int) !=E)=true by rw[O];exact ap);clear aX O
       have hr:r=1:=by
        have:Uq x.leg n E=1:=by unfold Uq;rw[M3 (.inr (Zwa Z.out HP.out))]
        rw[X.out,this];rfl
       subst hr;go_wp2_with fail;go_ret;exact⟨rfl,D⟩
     ·obtain rfl:k=n:=by omega
      have HT:=yh (M1 (Nat.le_of_eq af));have ad:=yh (show x.leg.any (fun y=>((y.length:Int) !=E))=false by rw[←HT.out];exact HA);have al:=yh (show Uq x.leg k E=if x.leg.flatten.any (fun x=>!Qc x 0 100000)then 3 else 0 by unfold Uq;rw[M2 (by rw[af.out,ad.out];simp)]);go_wp2_with fail
      go_loopg [8] k (fun gk i wr=>∃j:Nat,j≤k∧k-j≤gk∧i=.int .i64 j∧Aside ((x.leg.take j).flatten.any (fun x=>!Qc x 0 100000)=false)∧W=wr)
      case atStart=>exact⟨0,M0 _,by omega,rfl,rfl,rfl⟩
      case round=>
       obtain⟨j,hj,aO,rfl,ae,rfl⟩:=hrel;by_cases hjt:j<k
       ·obtain⟨b,aG,y,c0,rfl,I,⟨B2,q,c2,F,Q⟩,g0⟩:=HL.at1 hjt;simp only[List.cons.injEq,and_true]at F;subst F;have O:=Q.len;have aL:=Q.bd;have Z:=yh I
        have aX:(q:Int)=E:=by
         have:=List.any_eq_false.1 ad y (J6 I);simp at this;omega
        subst aX;clear I;have HQ:=yh O;clear O;go_wp2_with fail
        go_loopg [9] q (fun gl i wr=>∃l:Nat,l≤q∧q-l≤gl∧i=.int .i64 l∧Aside ((y.take l).any (fun x=>!Qc x 0 100000)=false)∧W=wr)
        case atStart=>exact⟨0,M0 _,by omega,rfl,rfl,rfl⟩
        case round=>
         obtain⟨l,hl,aP,rfl,ar,rfl⟩:=hrel;by_cases hlt:l<q
         ·obtain⟨b3,aV,v,c3,rfl,hv,⟨F,v0⟩,g3⟩:=Q.at1 hlt;simp only[List.cons.injEq,and_true]at F;subst F;have HW:=yh hv;clear hv;go_wp2_with fail;refine(Qj v 0 100000 _).mono ?_;rintro e w1 ⟨rfl,rfl⟩
          cases q_HB1:Qc v 0 100000<;>have au:=yh q_HB1<;>clear q_HB1
          ·have hr:r=3:=by
            have:Uq x.leg k q=3:=by rw[al.out,M3 (YNa Z.out (Zwa HW.out (by rw[au.out];rfl)))]
            rw[X.out,this];rfl
           subst hr;go_wp2_with fail;go_ret;exact⟨rfl,D⟩
          ·go_wp2_with fail;go_roundg (q-(l+1))
           case measure=>omega
           case rel=>exact⟨l+1,by omega,by omega,by go_num,by show _=_;rw[Qu HW.out,ar,au.out];rfl,rfl⟩
         ·obtain rfl:l=q:=by omega
          have aH:=yh (M1 (Nat.le_of_eq HQ));go_wp2_with fail;go_roundg (k-(j+1))
          case measure=>omega
          case rel=>exact⟨j+1,by omega,by omega,by go_num,by show _=_;rw[VPa Z.out,ae,←aH.out,ar];rfl,rfl⟩
       ·obtain rfl:j=k:=by omega
        have Y:=yh (show r=if Qc x.alone 0 200=false∨Qc x.third 0 100=false∨Qc x.down 0 100=false then 3 else UL x.bands by
         have:Uq x.leg j E=0:=by rw[al.out,M2 (by rw[←HT.out,ae];simp)]
         rw[X.out,this];rfl)
        clear X al HA ad ae;go_wp2_with fail;refine(Qj x.alone 0 200 _).mono ?_;rintro e w1 ⟨rfl,rfl⟩
        cases q_HQa:Qc x.alone 0 200<;>have ai:=yh q_HQa<;>clear q_HQa
        ·have hr:r=3:=by rw[Y.out,M3 (.inl ai.out)]
         subst hr;go_wp2_with fail;go_ret;exact⟨rfl,D⟩
        go_wp2_with fail;refine(Qj x.third 0 100 _).mono ?_;rintro e w1 ⟨rfl,rfl⟩
        cases q_HQt:Qc x.third 0 100<;>have ak:=yh q_HQt<;>clear q_HQt
        ·have hr:r=3:=by rw[Y.out,M3 (.inr (.inl ak.out))]
         subst hr;go_wp2_with fail;go_ret;exact⟨rfl,D⟩
        go_wp2_with fail;refine(Qj x.down 0 100 _).mono ?_;rintro e w1 ⟨rfl,rfl⟩
        cases q_HQd:Qc x.down 0 100<;>have aj:=yh q_HQd<;>clear q_HQd
        ·have hr:r=3:=by rw[Y.out,M3 (.inr (.inr aj.out))]
         subst hr;go_wp2_with fail;go_ret;exact⟨rfl,D⟩
        have am:=yh (show r=UL x.bands by rw[Y.out,M2 (by rw[ai.out,ak.out,aj.out];simp)]);clear Y ai ak aj;by_cases hm:4<m
        ·have hr:r=2:=by rw[am.out];unfold UL;rw[av.out,M3 hm]
         subst hr;go_wp2_with fail;go_ret;exact⟨rfl,D⟩
        have aw:=yh (show r=Qq (Zw x.bands) m by rw[am.out];unfold UL;rw[av.out,M2 hm]);clear am;go_wp2_with fail;clear aC aD aE ao aF
        go_loopg [10] m (fun gk i wr=>∃k:Nat,k≤m∧m-k≤gk∧i=.int .i64 k∧Aside (Qq (Zw x.bands) k=0)∧yw W wr)
        case atStart=>exact⟨0,M0 _,by omega,rfl,rfl,J4 _ _⟩
        case round=>
         obtain⟨k,hk,aK,rfl,HE,hb⟩:=hrel;have ao:=(HF.below hb).c3;by_cases hlt:k<m
         ·obtain⟨b,aG,y,c0,c1,rfl,hx,⟨F,b0,b1⟩,g0,g1⟩:=(HB.below Qx (by omega) hb).at2 hlt;simp only[List.cons.injEq,and_true]at F;obtain⟨rfl,rfl⟩:=F;have HX:=yh hx;clear hx
          have fin:∀q:Int,Zw x.bands k=q→q≠0→r=q:=fun q V h2=>by
           rw[aw.out,U5 (n:=m) HE.out (by rw[V];exact h2) hlt,V]
          have ac:=yh fin;clear fin;have J:=hb.alloc hb.size (.cells #[.int .i64 y.days,.int .i64 y.part] 138);have aR:=(HF.below J).c3;go_wp2_with fail;refine(Qj y.days 0 999 _).mono ?_;rintro e w1 ⟨rfl,rfl⟩
          cases q_HQ1:Qc y.days 0 999<;>have ag:=yh q_HQ1<;>clear q_HQ1
          ·have hr:r=3:=ac.out 3 (by unfold Zw;rw[HX.out,Option.getD_some,M3 (.inl ag.out)]) (by decide);subst hr;go_wp2_with fail;go_ret;exact⟨rfl,D.trans (J.mono D.size)⟩
          go_wp2_with fail;refine yN (Qj y.part 0 100 _) ?_
          cases q_HQ2:Qc y.part 0 100<;>have ah:=yh q_HQ2<;>clear q_HQ2
          ·have hr:r=3:=ac.out 3 (by unfold Zw;rw[HX.out,Option.getD_some,M3 (.inr ah.out)]) (by decide);subst hr;go_wp2_with fail;go_ret;exact⟨rfl,D.trans (J.mono D.size)⟩
          have aB:k=0→Zw x.bands k=0:=fun h0=>by
           unfold Zw;rw[HX.out,Option.getD_some,M2 (by rw[ag.out,ah.out];simp),M2 (by omega)]
          have aA:∀z,x.bands[k-1]? = some z→0<k→Zw x.bands k=if y.days≤z.days∨z.part<y.part then 4 else 0:=fun z hz h0=>by
           unfold Zw;rw[HX.out,Option.getD_some,M2 (by rw[ag.out,ah.out];simp),hz,Option.getD_some];by_cases e:y.days≤z.days∨z.part<y.part
           ·rw[M3 ⟨h0,e⟩,M3 e]
           ·rw[M2 (fun h=>e h.2),M2 e]
          have ax:=yh aA;have aI:=yh aB;clear aA aB;rcases k with _|k
          ·simp only[Nat.zero_mul,Nat.add_zero]at g0 g1;go_wp2_with fail;go_quiet (fail);go_wp2_with fail;go_roundg (m-1)
           case measure=>omega
           case rel=>exact⟨1,by omega,by omega,rfl,(show Aside _ from(Za HE).trans (aI (by trivial))),below_drewN J _⟩
          ·obtain⟨b2,aU,z,d0,d1,an,I,⟨az,y0,y1⟩,e0,e1⟩:=(HB.below Qx (by omega) J).at2 (show k<m by omega);injection an with an;injection an with hb2 ho2 _;subst hb2 ho2;simp only[List.cons.injEq,and_true]at az;obtain⟨rfl,rfl⟩:=az;have Hy:=yh I;clear I;have Q:IntKind.i64.wrap (k:Int)=k:=IntWalk.i64_in _ (by omega);have aQ:decide ((0:Int)<(k:Int)+1)=true:=J2 (by omega);have ay:y.days≤z.days∨z.part<y.part→r=4:=fun F=>ac.out 4 (by rw[ax.out z (by simpa using Hy.out) (by omega),M3 F]) (by decide);have aq:=yh ay;clear ay;by_cases hd:y.days≤z.days
           ·have hr:r=4:=aq (.inl hd);subst hr;have aJ:decide (y.days≤z.days)=true:=J2 hd;go_wp2_with fail;go_quiet (fail);go_wp2_with fail;go_ret;exact⟨rfl,D.trans ((below_drewN J _).mono D.size)⟩
           ·have aJ:decide (y.days≤z.days)=false:=J3 hd;by_cases hp:z.part<y.part
            ·have hr:r=4:=aq (.inr hp);subst hr;go_wp2_with fail;go_quiet (fail);go_wp2_with fail;go_ret;exact⟨rfl,D.trans ((below_drewN J _).mono D.size)⟩
            ·go_wp2_with fail;go_quiet (fail);go_wp2_with fail;go_roundg (m-(k+1+1))
             case measure=>omega
             case rel=>exact⟨k+1+1,by omega,by omega,by go_num,(show Aside _ from(Za HE).trans (by rw[ax.out z (by simpa using Hy.out) (by omega),M2 (by omega)])),below_drewN J _⟩
         ·obtain rfl:k=m:=by omega
          have hr:r=0:=by rw[aw.out];exact HE
          subst hr;go_wp2_with fail;go_ret;exact⟨rfl,D.trans (hb.mono D.size)⟩
   ·have aT:((n:Int) !=c)=true:=by simpa using hn
    have hr:r=1:=by
     have:Uq x.leg c E=1:=by unfold Uq;rw[M3 (.inl (by rw[af.out];exact hn))]
     rw[X.out,this];rfl
    subst hr;clear hn;go_wp2_with fail;go_ret;exact⟨rfl,D⟩
instance bandK:CodK Vl 2:=⟨Qx,by omega⟩
instance intsK:CodK (slC QO 1) 1:=⟨ZU Qd (by omega),by omega⟩
def VP:Fares:=⟨[[100,200,301],[150,250,350],[500,500,500]],50,33,[⟨7,100⟩,⟨30,50⟩],20⟩
end Go.Proofs.YtjdcokpmgionjaaGreat
