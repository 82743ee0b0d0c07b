/-
  Words, laws and contracts: FareA, FareB, FareC, FareD, FareE, FareF, FareG.
-/
import Derived.Test.YtjdcokpmgionjaaGreatBun0
import Derived.Lib.AppendZerosOnto
set_option linter.unusedSimpArgs false
set_option linter.unusedVariables false
set_option maxRecDepth 100000
set_option maxHeartbeats 20000000
namespace Go.Proofs.YtjdcokpmgionjaaGreat
open Go.RowKit Go.Shelf
structure Band where
 days:Int
 part:Int
 deriving DecidableEq,Inhabited
def UH:Cod Band:=fun _ _ x cs=>cs=[.int .i64 x.days,.int .i64 x.part]∧InI x.days∧InI x.part
theorem Uza:VV UH:=fun _ _ _ _ _ _ h=>h
theorem Qs:Good UH:=.of_flat Uza fun h u A=>by obtain⟨rfl,_⟩:=h;simp at A;rcases A with rfl | rfl<;>rfl
structure Fares where
 leg:List (List Int)
 alone:Int
 third:Int
 bands:List Band
 down:Int
def ZTc:Cod Fares:=fun w S x cs=>∃A n cap B m cap2,cs=[.slice A n cap,.int .i64 x.alone,.int .i64 x.third,.slice B m cap2,.int .i64 x.down]∧
 Sl (slC QL 1) 1 w S A n cap x.leg∧Sl UH 2 w S B m cap2 x.bands∧InI x.alone∧InI x.third∧InI x.down
theorem Uoa (A:Option Addr)(n cap:Nat)(l:List Band)(g:Nat)(lb:Array Value)(p:Band→Bool)(w:World)(h:Sl UH 2 w All A n cap l)
  (eg:∀U w,(callFunc g U).run Tryz.prog w=.ok (.enter g U) w)
  (V:∀(x:Band) (w1:World),x∈l→yw w w1→Calls Tryz.prog g (#[.agg #[.int .i64 x.days,.int .i64 x.part]]++lb) w1 fun e w'=>e=.returned (.bool (p x))∧yw w1 w') :
  Calls Tryz.prog 224 #[.slice A n cap,.func (.func g) #[] lb] w fun e w'=>e=.returned (.int .i64 (Uq p l))∧yw w w':=by
 have Y:=yh V;clear V;have aa:=h.bd
 go_enter Tryz.func224,Tryz.ntmps224
 go_wp2_with fail
 go_loopg [8] n (fun gk i wr=>∃k:Nat,k≤n∧n - k≤gk∧i=.int .i64 k∧Aside ((l.take k).any p=false)∧yw w wr)
 case atStart=>exact⟨0,Nat.zero_le _,by omega,rfl,rfl,Below.refl _ _⟩
 case round=>
  obtain⟨k,hk,ab,rfl,I,D⟩:=hrel
  by_cases hlt:k < n
  ·obtain⟨b,ac,x,Z,c1,rfl,O,F,g0,g1⟩:=(h.below Qs (by omega) D).at2 hlt
   obtain⟨F,hw⟩:=F;simp only[List.cons.injEq,and_true]at F;obtain⟨rfl,rfl⟩:=F;have Q:=yh O;have W:=yh (List.mem_of_getElem? O);clear O
   have E:=fun w1 (ad:yw w w1)=>Y.out x w1 W.out ad
   cases hq:p x with
   | true=>
    rw[hq]at E;have J:=yh hq;clear hq
    go_wp2_with (go_at_fn g;refine(E _ D).mono ?_;rintro e w1 ⟨rfl,ad⟩;replace ad:=D.trans (ad.mono D.size);clear E)
    go_ret
    exact⟨ZH (VR I Q.out J.out).symm,ad⟩
   | false=>
    rw[hq]at E;have J:=yh hq;clear hq
    go_wp2_with (go_at_fn g;refine(E _ D).mono ?_;rintro e w1 ⟨rfl,ad⟩;replace ad:=D.trans (ad.mono D.size);clear E)
    go_roundg (n - (k+1))
    case measure=>omega
    case rel=>exact⟨k+1,by omega,by omega,by go_num,by show _=_;rw[QF Q.out,I,J.out];rfl,ad⟩
  ·have:k=n:=by omega
   subst this;have X:=yh (List.take_of_length_le (Nat.le_of_eq h.len))
   go_wp2_with fail
   go_ret
   exact⟨ZH (by rw[Ud (by rw[←X.out];exact I)]),D⟩
theorem Upa (A:Option Addr)(n cap:Nat)(l:List (List Int))(g:Nat)(lb:Array Value)(p:(List Int)→Bool)(w:World)(h:Sl (slC QL 1) 1 w All A n cap l)
  (eg:∀V w,(callFunc g V).run Tryz.prog w=.ok (.enter g V) w)
  (W:∀(x:(List Int)) (w1:World) (B:Option Addr) (q F:Nat),x∈l→yw w w1→Sl QL 1 w1 All B q F x→Calls Tryz.prog g (#[.slice B q F]++lb) w1 fun e w'=>e=.returned (.bool (p x))∧yw w1 w') :
  Calls Tryz.prog 242 #[.slice A n cap,.func (.func g) #[] lb] w fun e w'=>e=.returned (.int .i64 (Uq p l))∧yw w w':=by
 have Z:=yh W;clear W;have aa:=h.bd
 go_enter Tryz.func242,Tryz.ntmps242
 go_wp2_with fail
 go_loopg [8] n (fun gk i wr=>∃k:Nat,k≤n∧n - k≤gk∧i=.int .i64 k∧Aside ((l.take k).any p=false)∧yw w wr)
 case atStart=>exact⟨0,Nat.zero_le _,by omega,rfl,rfl,Below.refl _ _⟩
 case round=>
  obtain⟨k,hk,ab,rfl,J,hb⟩:=hrel
  by_cases hlt:k < n
  ·obtain⟨b,ac,x,c0,rfl,Q,I,g0⟩:=(h.below (Zt Qb (by omega)) (by omega) hb).at1 hlt
   obtain⟨B,q,F,I,hw⟩:=I;simp only[List.cons.injEq,and_true]at I;subst I;have U:=yh Q;have X:=yh (List.mem_of_getElem? Q);clear Q;have E:=Z.out x wr B q F X.out hb hw
   cases hq:p x with
   | true=>
    rw[hq]at E;have O:=yh hq;clear hq
    go_wp2_with (go_at_fn g;refine E.mono ?_;rintro e w1 ⟨rfl,D⟩;replace D:=hb.trans (D.mono hb.size);clear E)
    go_ret
    exact⟨ZH (VR J U.out O.out).symm,D⟩
   | false=>
    rw[hq]at E;have O:=yh hq;clear hq
    go_wp2_with (go_at_fn g;refine E.mono ?_;rintro e w1 ⟨rfl,D⟩;replace D:=hb.trans (D.mono hb.size);clear E)
    go_roundg (n - (k+1))
    case measure=>omega
    case rel=>exact⟨k+1,by omega,by omega,by go_num,by show _=_;rw[QF U.out,J,O.out];rfl,D⟩
  ·have:k=n:=by omega
   subst this;have Y:=yh (List.take_of_length_le (Nat.le_of_eq h.len))
   go_wp2_with fail
   go_ret
   exact⟨ZH (by rw[Ud (by rw[←Y.out];exact J)]),hb⟩
theorem Qoa (A:Option Addr)(n cap:Nat)(l:List (List Int))(g:Nat)(lb:Array Value)(p:(List Int)→Bool)(w:World)(h:Sl (slC QL 1) 1 w All A n cap l)
  (J:∀U w,(callFunc g U).run Tryz.prog w=.ok (.enter g U) w)
  (E:∀(x:(List Int)) (w1:World) (B:Option Addr) (q D:Nat),x∈l→yw w w1→Sl QL 1 w1 All B q D x→Calls Tryz.prog g (#[.slice B q D]++lb) w1 fun e w'=>e=.returned (.bool (p x))∧yw w1 w') :
  Calls Tryz.prog 214 #[.slice A n cap,.func (.func g) #[] lb] w fun e w'=>e=.returned (.bool (l.any p))∧yw w w':=by
 have F:=Upa A n cap l g lb p w h J E;clear E
 go_enter Tryz.func214,Tryz.ntmps214
 go_wp2_with fail
 refine F.mono ?_;rintro e w1 ⟨rfl,O⟩;have I:=yh (VD (p:=p) (l:=l));have Q:=XL (p:=p) (l:=l) (by have:=h.bd;have:=h.len;omega)
 go_wp2_with fail
 go_ret
 exact⟨ZN I.out,O⟩
theorem Z8 (n a b:Int)(w:World):Calls Tryz.prog 123 #[.int .i64 n,.int .i64 a,.int .i64 b] w fun e w'=>e=.returned (.bool (Qc n a b))∧w'=w:=by
 go_enter Tryz.func123,Tryz.ntmps123
 go_wp2
 all_goals go_ret
 all_goals exact⟨ZN (by unfold Qc;simp;try omega),rfl⟩
def VF (n h:Int):Int:=(n*h+50) / 100
theorem X8b {n h:Int}{N H:Nat}(D:0≤n)(E:n≤N)(A:0≤h)(F:h≤H):0≤n*h∧n*h≤((N*H:Nat):Int):=by
 refine⟨Int.mul_nonneg D A,?_⟩;have:=Int.mul_le_mul E F A (by omega)
 simpa using this
theorem U1a (n h:Int)(w:World)(E:0≤n)(F:n≤1000000000)(I:0≤h)(J:h≤1000):Calls Tryz.prog 175 #[.int .i64 n,.int .i64 h] w fun e w'=>e=.returned (.int .i64 (VF n h))∧w'=w:=by
 have O:=X8b (N:=1000000000) (H:=1000) E F I J;obtain⟨q,A⟩:∃q,q=n*h:=⟨_,rfl⟩
 have D:VF n h=(q+50) / 100:=by rw[A];rfl
 rw[D];rw[←A]at O
 have Q:wrap64 (n*h)=q:=by rw[←A];unfold wrap64;omega
 have U:IntKind.i64.wrap (n*h)=q:=by rw[←A];exact IntWalk.i64_in _ (by omega)
 clear A D
 go_enter Tryz.func175,Tryz.ntmps175
 go_wp2
 go_ret
 exact⟨ZH (by first | omega | (rw[Q];unfold wrap64;omega)),rfl⟩
theorem V0b (m:Nat)(w:World)(hm:m≤1000000) :
  Calls Tryz.prog 243 #[.slice none 0 0,.int .i64 m] w fun e w'=>∃v xs,e=.returned v∧Own QL 1 3 w' w.heap.size v [] xs∧yw w w':=by
 rcases Nat.eq_zero_or_pos m with rfl | aa
 ·go_enter Tryz.func243,Tryz.ntmps243
  go_wp2
  go_ret
  exact⟨_,_,rfl,Own.nil _ _ _ _ _,Below.refl _ _⟩
 ·obtain⟨i,z,U,W,hs,F,X⟩:=Ur.hi
  have V:(Builtin.firstCells i.size 0 (.slice none 0 0)).run Tryz.prog w.drew=.ok ([]:List Value).toArray w.drew:=run_firstCells_none w.drew i.size 0 0 0
  have E:=fun ty=>Lib.run_append_grow_zeros (P:=Tryz.prog) w 70 3 ty 3 i z .i64 .i64 Tryz.underlying70 Tryz.underlying3 U W none 0 0 [] V m aa (by omega) (by omega) (by omega) (by rw[F];omega) (by rw[Nat.zero_add];exact growslice_fits (by omega) (by rw[F];omega))
  have O:=grownCap_ge w (0+m) 0 3;have D:=grownCap_le_maxLen w (0+m) 0 3 (by unfold maxLen;omega);obtain⟨G,J⟩:∃G,G=grownCap w (0+m) 0 3:=⟨_,rfl⟩;rw[←J]at E O D;obtain⟨A,I⟩:∃A,A=([]:List Value).toArray++Builtin.zeroCells z.cells m++Builtin.zeroCells z.cells (G - (0+m)):=⟨_,rfl⟩
  have Q:A.size=G:=by
   rw[I,Array.size_append,Array.size_append,size_zeroCells,size_zeroCells,X]
   simp;omega
  rw[←I,Nat.zero_add]at E;have HR:=yh E;have Z:=yh D
  have ab:G≤9223372036854775807:=by unfold maxLen at D;omega
  have ac:m≤G:=by omega
  have Y:=yh Q;clear E J I V U W hs F X Q O D
  go_enter Tryz.func243,Tryz.ntmps243
  go_wp2_with (at_builtin;refine YO (t:=70) (t2:=3) rfl (.tmp 20) (.tmp 21) rfl rfl rfl (HR.out _) ?_)
  go_ret
  exact⟨_,_,rfl,⟨World.ownsRow_made w.drew A G (by simp) Z.out (by rw[Y.out];omega),fun i x h=>by simp at h⟩,(Below.refl w.heap.size w).drew.alloc (by simp) _⟩
theorem Xl {l:List (List Int)}{k:Nat}{x:List Int}(A:l[k]? = some x):(l.take (k+1)).flatten=(l.take k).flatten++x:=by rw[Qn A];simp
theorem XEa (l:List (List Int))(k:Nat):(l.take k).flatten.length≤l.flatten.length:=by
 have:l.flatten=(l.take k).flatten++(l.drop k).flatten:=by rw[←List.flatten_append,List.take_append_drop]
 rw[this,List.length_append];omega
theorem X4a (A:Option Addr)(n cap:Nat)(l:List (List Int))(w:World)(h:Sl (slC QL 1) 1 w All A n cap l)(hm:l.flatten.length≤1000000) :
  Calls Tryz.prog 216 #[.slice A n cap] w fun e w'=>∃v xs,e=.returned v∧Own QL 1 3 w' w.heap.size v l.flatten xs∧yw w w':=by
 have ai:=h.bd;have hg:=Zt Qb (show 0 < 1 by omega)
 go_enter Tryz.func216,Tryz.ntmps216
 go_wp2_with fail
 go_loopg [3,11] n (fun gk s i wr=>∃k:Nat,k≤n∧n - k≤gk∧i=.int .i64 k∧(∃q:Nat,s=.int .i64 q∧Aside (q=(l.take k).flatten.length))∧wr=w)
 case atStart=>exact⟨0,Nat.zero_le _,by omega,rfl,⟨0,rfl,rfl⟩,rfl⟩
 case round=>
  obtain⟨k,hk,ak,rfl,⟨s,rfl,O⟩,rfl⟩:=hrel
  have af:s≤1000000:=by have Q:s=(l.take k).flatten.length:=O;have:=XEa l k;omega
  by_cases hlt:k < n
  ·obtain⟨b,ag,x,c0,rfl,D,hc,g0⟩:=h.at1 hlt
   obtain⟨B,q,c2,hc,J⟩:=hc;simp only[List.cons.injEq,and_true]at hc;subst hc;have I:=J.len
   have al:s+q≤1000000:=by have Q:s=(l.take k).flatten.length:=O;have:=XEa l (k+1);rw[Xl D,List.length_append]at this;omega
   have Y:=yh (show s+q=(l.take (k+1)).flatten.length by rw[Xl D,List.length_append,I];have Q:s=(l.take k).flatten.length:=O;omega);clear D I
   go_wp2_with fail
   go_roundg (n - (k+1))
   case measure=>omega
   case rel=>exact⟨k+1,by omega,by omega,by go_num,⟨s+q,by go_num,Y.out⟩,rfl⟩
  ·have:k=n:=by omega
   subst this;have Z:=yh (List.take_of_length_le (Nat.le_of_eq h.len))
   go_wp2_with fail
   refine(V0b s wr af).mono ?_;rintro e w1 ⟨v1,an,rfl,V,aa⟩;obtain⟨A1,n1,c1,rfl,ad⟩:=V.sl Qb;clear ad
   go_wp2_with fail
   go_loopg [6,27] k (fun gk out i W=>∃j:Nat,j≤k∧k - j≤gk∧i=.int .i64 j∧(∃xs,Own QL 1 3 W wr.heap.size out (l.take j).flatten xs)∧yw wr W)
   case atStart=>exact⟨0,Nat.zero_le _,by omega,rfl,⟨_,V⟩,aa⟩
   case round=>
    obtain⟨j,hj,aj,rfl,⟨ao,E⟩,F⟩:=hrel;obtain⟨A2,n2,ah,rfl,ae⟩:=E.sl Qb;clear ae
    by_cases hjt:j < k
    ·obtain⟨b,ag,x,c0,rfl,D,hc,g0⟩:=(h.below hg (by omega) F).at1 hjt
     obtain⟨B,q,c2,hc,J⟩:=hc;simp only[List.cons.injEq,and_true]at hc;subst hc;have I:=J.len
     have hz:(((l.take j).flatten).length+q)*8≤140737488355328:=by have:=XEa l (j+1);rw[Xl D,List.length_append]at this;omega
     have X:=yh (Xl D);have U:=F.size;clear D I
     go_wp2_with (at_builtin;refine QC (t:=70) (e:=3) (bytes:=8) rfl (.tmp 31) (.tmp 32) rfl Ur Qb rfl E rfl J (fun _ _ hc=>hc) hz (by omega) U ?_;intro v' w' am ac ab _)
     go_roundg (k - (j+1))
     case measure=>omega
     case rel=>exact⟨j+1,by omega,by omega,by go_num,⟨_,by rw[X.out];exact ac⟩,QP F E ab U⟩
    ·have:j=k:=by omega
     subst this
     go_wp2_with fail
     go_ret
     exact⟨_,_,rfl,by rw[Z.out]at E;exact E,F⟩
def Z3 (L:List (List Int)) (c many:Int):Int:=
 if (L.length:Int)≠c∨L.any (fun x=>((x.length:Int) != many))=true then 1 else if L.flatten.any (fun x=>!Qc x 0 100000)then 3 else 0
def Zo (l:List Band) (i:Nat):Int:=
 if Qc (l[i]?.getD default).days 0 999=false∨Qc (l[i]?.getD default).part 0 100=false then 3 else
 if 0 < i∧((l[i]?.getD default).days≤(l[i - 1]?.getD default).days∨(l[i - 1]?.getD default).part < (l[i]?.getD default).part)then 4 else 0
def Uh (l:List Band):Int:=if 4 < l.length then 2 else Qo (Zo l) l.length
def Zq (x:Fares) (c many:Int):Int:=
 if Qc c 1 5=false∨Xq many=false then 3 else
 if Z3 x.leg c many≠0 then Z3 x.leg c many else
 if Qc x.alone 0 200=false∨Qc x.third 0 100=false∨Qc x.down 0 100=false then 3 else Uh x.bands
theorem U4b (A:Option Addr)(n cap:Nat)(x:List Int)(F:Int)(B:Nat)(w:World)(h:Sl QL 1 w All A n cap x)(E:yI w B 0 F) :
  Calls Tryz.prog 215 #[.slice A n cap,.pointer (some ⟨B,0,none⟩)] w fun e w'=>e=.returned (.bool ((x.length:Int) != F))∧yw w w':=by
 have D:=h.len;subst D
 go_enter Tryz.func215,Tryz.ntmps215
 go_wp2_with fail
 go_ret
 exact⟨rfl,Below.refl _ _⟩
theorem U5b (x:Int)(w:World):Calls Tryz.prog 217 #[.int .i64 x] w fun e w'=>e=.returned (.bool (!Qc x 0 100000))∧yw w w':=by
 go_enter Tryz.func217,Tryz.ntmps217
 go_wp2_with (go_at_call 123;refine(Z8 _ _ _ _).mono ?_;rintro e w' ⟨rfl,rfl⟩)
 go_ret
 exact⟨rfl,Below.refl _ _⟩
theorem YFa {L:List (List Int)}{m:Nat}(h:∀x∈L,x.length≤m):L.flatten.length≤L.length*m:=by
 induction L with
 | nil=>simp
 | cons x L ih=>
  have D:=h x (by simp)
  have E:=ih fun y A=>h y (by simp[A])
  rw[List.flatten_cons,List.length_append,List.length_cons,Nat.add_mul];omega
theorem U6b (A:Option Addr)(n cap:Nat)(L:List (List Int))(c D:Int)(w:World)(h:Sl (slC QL 1) 1 w All A n cap L)(hc:c≤5)(hm:D≤7) :
  Calls Tryz.prog 164 #[.slice A n cap,.int .i64 c,.int .i64 D] w fun e w'=>e=.returned (.int .i64 (Z3 L c D))∧yw w w':=by
 have hg:=Zt Qb (show 0 < 1 by omega);have O:=yh h.len;have F:yw w (w.alloc (.cells #[.int .i64 D] 3)):=(Below.refl _ _).alloc (Nat.le_refl _) _;obtain⟨r,V⟩:∃r,r=Z3 L c D:=⟨_,rfl⟩;rw[←V];have Q:=yh V;clear V
 by_cases hn:(n:Int)=c
 ·have af:((n:Int) != c)=false:=by simpa using hn
  obtain⟨t,W⟩:∃t,t=L.any (fun x=>((x.length:Int) != D)):=⟨_,rfl⟩
  have E:=Qoa A n cap L 215 #[.pointer (some ⟨w.heap.size,0,none⟩)] (fun x=>((x.length:Int) != D)) _ (h.below hg (by omega) F) (enters_of Tryz.func215 (by kernel_rfl) rfl)
   (fun x w1 B q Z _ hb ag=>by simpa using U4b B q Z x D w.heap.size w1 ag (cell_of_one ((hb.block _ (by simp)).trans (Za _ _))))
  rw[←W]at E;have X:=yh E;have U:=yh W;have I:=yh hn;clear W E hn
  cases t
  ·have ab:L.flatten.length≤1000:=by
    have h1:=YFa (L:=L) (m:=7) fun x hx=>by
     have:=List.any_eq_false.1 U.out.symm x hx
     simp at this
     omega
    have:=O.out;have:=I.out;omega
   have ad:=yh ab;clear ab;obtain⟨q,hq⟩:∃q,q=L.flatten.any (fun x=>!Qc x 0 100000):=⟨_,rfl⟩;have Y:=yh hq;clear hq
   go_enter Tryz.func164,Tryz.ntmps164
   go_wp2_with fail
   refine X.out.mono ?_;rintro e w1 ⟨rfl,ah⟩;replace ah:=F.trans (ah.mono F.size)
   go_wp2_with fail
   refine(X4a _ _ _ L _ (h.below hg (by omega) ah) (by have:=ad.out;omega)).mono ?_;rintro e w2 ⟨v,xs,rfl,ho,aa⟩;obtain⟨A2,n2,Z,rfl,J⟩:=ho.sl Qb;replace J:=J.all Qb (by omega);replace ah:=ah.trans (aa.mono ah.size);clear aa ho;have E:=Q0a _ _ _ _ 217 #[] (fun x=>!Qc x 0 100000) w2 J (enters_of Tryz.func217 (by kernel_rfl) rfl) (fun x w1 _ _=>by simpa using U5b x w1);rw[←Y.out]at E;have ac:=yh E;clear E J
   cases q
   all_goals
    go_wp2_with fail
    refine ac.out.mono ?_;rintro e w3 ⟨rfl,ae⟩
    go_wp2_with fail
    go_ret
    exact⟨ZH (by rw[Q.out];unfold Z3;rw[if_neg (by rw[O.out,←U.out];simp[I.out]),←Y.out];rfl),ah.trans (ae.mono ah.size)⟩
  ·go_enter Tryz.func164,Tryz.ntmps164
   go_wp2_with fail
   refine X.out.mono ?_;rintro e w1 ⟨rfl,ah⟩
   go_wp2_with fail
   go_ret
   exact⟨ZH (by rw[Q.out];unfold Z3;rw[if_pos (.inr U.out.symm)]),F.trans (ah.mono F.size)⟩
 ·have af:((n:Int) != c)=true:=by simpa using hn
  have I:=yh hn;clear hn
  go_enter Tryz.func164,Tryz.ntmps164
  go_wp2_with fail
  go_ret
  exact⟨ZH (by rw[Q.out];unfold Z3;rw[if_pos (.inl (by rw[O.out];exact I.out))]),F⟩
theorem UHb (A:Option Addr)(n cap:Nat)(l:List Band)(w:World)(h:Sl UH 2 w All A n cap l) :
  Calls Tryz.prog 165 #[.slice A n cap] w fun e w'=>e=.returned (.int .i64 (Uh l))∧yw w w':=by
 have ai:=h.bd;have af:=yh h.len;obtain⟨r,hr⟩:∃r,r=Uh l:=⟨_,rfl⟩;rw[←hr];have Y:=yh hr;clear hr
 by_cases hn:4 < n
 ·have hr:r=2:=by rw[Y.out];unfold Uh;rw[af.out,if_pos hn]
  subst hr
  go_enter Tryz.func165,Tryz.ntmps165
  go_wp2_with fail
  go_ret
  exact⟨rfl,Below.refl _ _⟩
 ·have hr:r=Qo (Zo l) n:=by rw[Y.out];unfold Uh;rw[af.out,if_neg hn]
  have Z:=yh hr;clear hr
  go_enter Tryz.func165,Tryz.ntmps165
  go_wp2_with fail
  go_loopg [10] n (fun gk i wr=>∃k:Nat,k≤n∧n - k≤gk∧i=.int .i64 k∧Aside (Qo (Zo l) k=0)∧yw w wr)
  case atStart=>exact⟨0,Nat.zero_le _,by omega,rfl,rfl,Below.refl _ _⟩
  case round=>
   obtain⟨k,hk,aj,rfl,I,O⟩:=hrel
   by_cases hlt:k < n
   ·obtain⟨b,al,x,c0,c1,rfl,hx,⟨Q,b0,b1⟩,g0,g1⟩:=(h.below Qs (by omega) O).at2 hlt
    simp only[List.cons.injEq,and_true]at Q;obtain⟨rfl,rfl⟩:=Q;have J:=yh hx;clear hx
    have fin:∀q:Int,Zo l k=q→q≠0→r=q:=fun q h1 h2=>by
     rw[Z.out,UB (n:=n) I.out (by rw[h1];exact h2) hlt,h1]
    have V:=yh fin;clear fin
    have D:=fun W=>Z8 x.days 0 999 W
    have F:=fun W=>Z8 x.part 0 100 W
    have E:=O.alloc O.size (.cells #[.int .i64 x.days,.int .i64 x.part] 138)
    cases hd:Qc x.days 0 999
    ·have hr:r=3:=V.out 3 (by unfold Zo;rw[J.out,Option.getD_some,if_pos (.inl hd)]) (by decide)
     subst hr;rw[hd]at D;clear hd
     go_wp2_with fail
     refine(D _).mono ?_;rintro e w1 ⟨rfl,rfl⟩
     go_wp2_with fail
     go_ret
     exact⟨rfl,E⟩
    ·rw[hd]at D
     cases hp:Qc x.part 0 100
     ·have hr:r=3:=V.out 3 (by unfold Zo;rw[J.out,Option.getD_some,if_pos (.inr hp)]) (by decide)
      subst hr;rw[hp]at F;clear hd hp
      go_wp2_with fail
      refine(D _).mono ?_;rintro e w1 ⟨rfl,rfl⟩
      go_wp2_with fail
      refine(F _).mono ?_;rintro e w1 ⟨rfl,rfl⟩
      go_wp2_with fail
      go_ret
      exact⟨rfl,E⟩
     ·rw[hp]at F
      have ae:k=0→Zo l k=0:=fun h0=>by
       unfold Zo;rw[J.out,Option.getD_some,if_neg (by rw[hd,hp];simp),if_neg (by omega)]
      have ad:∀y,l[k - 1]? = some y→0 < k→Zo l k=if x.days≤y.days∨y.part < x.part then 4 else 0:=fun y U h0=>by
       unfold Zo;rw[J.out,Option.getD_some,if_neg (by rw[hd,hp];simp),U,Option.getD_some]
       by_cases e:x.days≤y.days∨y.part < x.part
       ·rw[if_pos ⟨h0,e⟩,if_pos e]
       ·rw[if_neg (fun h=>e h.2),if_neg e]
      have aa:=yh ad;have ag:=yh ae;clear ad ae hd hp
      rcases k with _ | k
      ·simp only[Nat.zero_mul,Nat.add_zero]at g0 g1
       go_wp2_with fail
       refine(D _).mono ?_;rintro e w1 ⟨rfl,rfl⟩
       go_wp2_with fail
       refine(F _).mono ?_;rintro e w1 ⟨rfl,rfl⟩
       go_wp2_with fail
       go_quiet (fail)
       go_wp2_with fail
       go_roundg (n - 1)
       case measure=>omega
       case rel=>exact⟨1,by omega,by omega,rfl,(show Aside _ from(Q4 I.out).trans (ag.out (by trivial))),below_drewN E _⟩
      ·obtain⟨b2,am,y,d0,d1,an,U,⟨ac,y0,y1⟩,e0,e1⟩:=(h.below Qs (by omega) E).at2 (show k < n by omega)
       injection an with an
       injection an with hb2 ho2 _
       subst hb2 ho2;simp only[List.cons.injEq,and_true]at ac;obtain⟨rfl,rfl⟩:=ac;have Hy:=yh U;clear U;have hw:IntKind.i64.wrap (k:Int)=k:=IntWalk.i64_in _ (by omega);have ak:decide ((0:Int) < (k:Int)+1)=true:=decide_eq_true (by omega)
       have ab:x.days≤y.days∨y.part < x.part→r=4:=fun Q=>V.out 4 (by rw[aa.out y (by simpa using Hy.out) (by omega),if_pos Q]) (by decide)
       have X:=yh ab;clear ab
       by_cases hd:x.days≤y.days
       ·have hr:r=4:=X.out (.inl hd)
        subst hr;have ah:decide (x.days≤y.days)=true:=decide_eq_true hd
        go_wp2_with fail
        refine(D _).mono ?_;rintro e w1 ⟨rfl,rfl⟩
        go_wp2_with fail
        refine(F _).mono ?_;rintro e w1 ⟨rfl,rfl⟩
        go_wp2_with fail
        go_quiet (fail)
        go_wp2_with fail
        go_ret
        exact⟨rfl,below_drewN E _⟩
       ·have ah:decide (x.days≤y.days)=false:=decide_eq_false hd
        by_cases hp:y.part < x.part
        ·have hr:r=4:=X.out (.inr hp)
         subst hr
         go_wp2_with fail
         refine(D _).mono ?_;rintro e w1 ⟨rfl,rfl⟩
         go_wp2_with fail
         refine(F _).mono ?_;rintro e w1 ⟨rfl,rfl⟩
         go_wp2_with fail
         go_quiet (fail)
         go_wp2_with fail
         go_ret
         exact⟨rfl,below_drewN E _⟩
        ·go_wp2_with fail
         refine(D _).mono ?_;rintro e w1 ⟨rfl,rfl⟩
         go_wp2_with fail
         refine(F _).mono ?_;rintro e w1 ⟨rfl,rfl⟩
         go_wp2_with fail
         go_quiet (fail)
         go_wp2_with fail
         go_roundg (n - (k+1+1))
         case measure=>omega
         case rel=>exact⟨k+1+1,by omega,by omega,by go_num,(show Aside _ from(Q4 I.out).trans (by rw[aa.out y (by simpa using Hy.out) (by omega),if_neg (by omega)])),below_drewN E _⟩
   ·obtain rfl:k=n:=by omega
    have hr:r=0:=by rw[Z.out];exact I.out
    subst hr
    go_wp2_with fail
    go_ret
    exact⟨rfl,O⟩
def FareAt (w:World) (b:Nat) (A:Option Addr) (n cap:Nat) (x:Fares) (B:Option Addr) (m cap2:Nat):Prop:=
 w.heap[b]? = some (.cells #[.slice A n cap,.int .i64 x.alone,.int .i64 x.third,.slice B m cap2,.int .i64 x.down] 29 (0,0))
section
variable {w w':World} {b:Nat} {A:Option Addr} {n cap:Nat} {x:Fares} {B:Option Addr} {m cap2:Nat}
theorem FareAt.c0 (h:FareAt w b A n cap x B m cap2):yJ w b 0 A n cap:=ZE h rfl
theorem FareAt.c1 (h:FareAt w b A n cap x B m cap2):yI w b 1 x.alone:=ZE h rfl
theorem FareAt.c2 (h:FareAt w b A n cap x B m cap2):yI w b 2 x.third:=ZE h rfl
theorem FareAt.c3 (h:FareAt w b A n cap x B m cap2):yJ w b 3 B m cap2:=ZE h rfl
theorem FareAt.c4 (h:FareAt w b A n cap x B m cap2):yI w b 4 x.down:=ZE h rfl
theorem FareAt.below (h:FareAt w b A n cap x B m cap2)(D:yw w w'):FareAt w' b A n cap x B m cap2:=(D.block _ (lt_of_block h)).trans h
theorem FareAt.new (w:World):FareAt (w.alloc (.cells #[.slice A n cap,.int .i64 x.alone,.int .i64 x.third,.slice B m cap2,.int .i64 x.down] 29)) w.heap.size A n cap x B m cap2:=Za _ _
end
structure FareR (w:World) (A:Option Addr) (n cap:Nat) (x:Fares) (B:Option Addr) (m cap2:Nat):Prop where
 leg:Sl (slC QL 1) 1 w All A n cap x.leg
 bands:Sl UH 2 w All B m cap2 x.bands
 a:InI x.alone
 t:InI x.third
 d:InI x.down
theorem FareR.below {w w':World}{A:Option Addr}{n cap:Nat}{x:Fares}{B:Option Addr}{m E:Nat}(h:FareR w A n cap x B m E)(D:yw w w'):FareR w' A n cap x B m E:=
 ⟨h.leg.below (Zt Qb (by omega)) (by omega) D,h.bands.below Qs (by omega) D,h.a,h.t,h.d⟩
theorem YU (A:Option Addr)(n cap:Nat)(x:Fares)(B:Option Addr)(m X:Nat)(c J:Int)(w:World)(h:FareR w A n cap x B m X) :
  Calls Tryz.prog 78 #[.agg #[.slice A n cap,.int .i64 x.alone,.int .i64 x.third,.slice B m X,.int .i64 x.down],.int .i64 c,.int .i64 J] w fun e w'=>e=.returned (.int .i64 (Zq x c J))∧yw w w':=by
 have E:yw w (w.alloc (.cells #[.slice A n cap,.int .i64 x.alone,.int .i64 x.third,.slice B m X,.int .i64 x.down] 29)):=(Below.refl _ _).alloc (Nat.le_refl _) _;have hF:FareAt (w.alloc (.cells #[.slice A n cap,.int .i64 x.alone,.int .i64 x.third,.slice B m X,.int .i64 x.down] 29)) w.heap.size A n cap x B m X:=FareAt.new w;obtain⟨r,D⟩:∃r,r=Zq x c J:=⟨_,rfl⟩;rw[←D];have Z:=yh D;clear D
 have I:=fun W=>Z8 c 1 5 W
 have O:=fun W=>USa J W
 cases F:Qc c 1 5
 ·have D:r=3:=by rw[Z.out];unfold Zq;rw[if_pos (.inl F)]
  subst D;rw[F]at I;clear F
  go_enter Tryz.func78,Tryz.ntmps78
  go_wp2_with fail
  refine(I _).mono ?_;rintro e w1 ⟨rfl,rfl⟩
  go_wp2_with fail
  go_ret
  exact⟨rfl,E⟩
 ·rw[F]at I
  cases hq2:Xq J
  ·have D:r=3:=by rw[Z.out];unfold Zq;rw[if_pos (.inr hq2)]
   subst D;rw[hq2]at O;clear F hq2
   go_enter Tryz.func78,Tryz.ntmps78
   go_wp2_with fail
   refine(I _).mono ?_;rintro e w1 ⟨rfl,rfl⟩
   go_wp2_with fail
   refine(O _).mono ?_;rintro e w1 ⟨rfl,rfl⟩
   go_wp2_with fail
   go_ret
   exact⟨rfl,E⟩
  ·rw[hq2]at O
   have HV:=yh (show r=if Z3 x.leg c J≠0 then Z3 x.leg c J else if Qc x.alone 0 200=false∨Qc x.third 0 100=false∨Qc x.down 0 100=false then 3 else Uh x.bands by rw[Z.out];unfold Zq;rw[if_neg (by rw[F,hq2];simp)]);have hl:=U6b A n cap x.leg c J _ (h.leg.below (Zt Qb (by omega)) (by omega) E) (Qj.1 F).2 (Qj.1 hq2).2;obtain⟨q,hq⟩:∃q,q=Z3 x.leg c J:=⟨_,rfl⟩;rw[←hq]at hl HV;have V:=yh hl;clear hl hq F hq2 Z
   by_cases hq0:q=0
   ·subst hq0
    have aa:=yh (show r=if Qc x.alone 0 200=false∨Qc x.third 0 100=false∨Qc x.down 0 100=false then 3 else Uh x.bands by rw[HV.out];rw[if_neg (by simp)]);clear HV
    have U:=fun W=>Z8 x.alone 0 200 W
    have Y:=fun W=>Z8 x.third 0 100 W
    have ab:=fun W=>Z8 x.down 0 100 W
    cases qa:Qc x.alone 0 200
    ·have D:r=3:=by rw[aa.out,if_pos (.inl qa)]
     subst D;rw[qa]at U;clear qa
     go_enter Tryz.func78,Tryz.ntmps78
     go_wp2_with fail
     refine(I _).mono ?_;rintro e w1 ⟨rfl,rfl⟩
     go_wp2_with fail
     refine(O _).mono ?_;rintro e w1 ⟨rfl,rfl⟩
     go_wp2_with fail
     refine V.out.mono ?_;rintro e w1 ⟨rfl,af⟩;have k1:=(hF.below af).c1
     go_wp2_with fail
     refine(U _).mono ?_;rintro e Q ⟨rfl,rfl⟩
     go_wp2_with fail
     go_ret
     exact⟨rfl,E.trans (af.mono E.size)⟩
    ·rw[qa]at U
     cases qt:Qc x.third 0 100
     ·have D:r=3:=by rw[aa.out,if_pos (.inr (.inl qt))]
      subst D;rw[qt]at Y;clear qa qt
      go_enter Tryz.func78,Tryz.ntmps78
      go_wp2_with fail
      refine(I _).mono ?_;rintro e w1 ⟨rfl,rfl⟩
      go_wp2_with fail
      refine(O _).mono ?_;rintro e w1 ⟨rfl,rfl⟩
      go_wp2_with fail
      refine V.out.mono ?_;rintro e w1 ⟨rfl,af⟩;have k1:=(hF.below af).c1;have k2:=(hF.below af).c2
      go_wp2_with fail
      refine(U _).mono ?_;rintro e Q ⟨rfl,rfl⟩
      go_wp2_with fail
      refine(Y _).mono ?_;rintro e Q ⟨rfl,rfl⟩
      go_wp2_with fail
      go_ret
      exact⟨rfl,E.trans (af.mono E.size)⟩
     ·rw[qt]at Y
      cases qd:Qc x.down 0 100
      ·have D:r=3:=by rw[aa.out,if_pos (.inr (.inr qd))]
       subst D;rw[qd]at ab;clear qa qt qd
       go_enter Tryz.func78,Tryz.ntmps78
       go_wp2_with fail
       refine(I _).mono ?_;rintro e w1 ⟨rfl,rfl⟩
       go_wp2_with fail
       refine(O _).mono ?_;rintro e w1 ⟨rfl,rfl⟩
       go_wp2_with fail
       refine V.out.mono ?_;rintro e w1 ⟨rfl,af⟩;have k1:=(hF.below af).c1;have k2:=(hF.below af).c2;have k4:=(hF.below af).c4
       go_wp2_with fail
       refine(U _).mono ?_;rintro e Q ⟨rfl,rfl⟩
       go_wp2_with fail
       refine(Y _).mono ?_;rintro e Q ⟨rfl,rfl⟩
       go_wp2_with fail
       refine(ab _).mono ?_;rintro e Q ⟨rfl,rfl⟩
       go_wp2_with fail
       go_ret
       exact⟨rfl,E.trans (af.mono E.size)⟩
      ·have ad:=yh (show r=Uh x.bands by rw[aa.out,if_neg (by rw[qa,qt,qd];simp)])
       rw[qd]at ab;clear qa qt qd
       go_enter Tryz.func78,Tryz.ntmps78
       go_wp2_with fail
       refine(I _).mono ?_;rintro e w1 ⟨rfl,rfl⟩
       go_wp2_with fail
       refine(O _).mono ?_;rintro e w1 ⟨rfl,rfl⟩
       go_wp2_with fail
       refine V.out.mono ?_;rintro e w1 ⟨rfl,af⟩;have k1:=(hF.below af).c1;have k2:=(hF.below af).c2;have k3:=(hF.below af).c3;have k4:=(hF.below af).c4;replace af:=E.trans (af.mono E.size)
       go_wp2_with fail
       refine(U _).mono ?_;rintro e Q ⟨rfl,rfl⟩
       go_wp2_with fail
       refine(Y _).mono ?_;rintro e Q ⟨rfl,rfl⟩
       go_wp2_with fail
       refine(ab _).mono ?_;rintro e Q ⟨rfl,rfl⟩
       go_wp2_with fail
       have ac:=UHb _ _ _ _ _ (h.bands.below Qs (by omega) af);rw[←ad.out]at ac;refine ac.mono ?_;rintro e w3 ⟨rfl,ae⟩
       go_wp2_with fail
       go_ret
       exact⟨rfl,af.trans (ae.mono af.size)⟩
   ·have F:(q != 0)=true:=by simpa using hq0
    have D:r=q:=by rw[HV.out,if_pos hq0]
    subst D;clear hq0 HV
    go_enter Tryz.func78,Tryz.ntmps78
    go_wp2_with fail
    refine(I _).mono ?_;rintro e w1 ⟨rfl,rfl⟩
    go_wp2_with fail
    refine(O _).mono ?_;rintro e w1 ⟨rfl,rfl⟩
    go_wp2_with fail
    refine V.out.mono ?_;rintro e w1 ⟨rfl,af⟩
    go_wp2_with fail
    go_ret
    exact⟨rfl,E.trans (af.mono E.size)⟩
def XNa (x:Fares) (c many n:Int):Int:=if Zq x c many≠0 then Zq x c many else if Qc n 0 100000000 then 0 else 3
def Vvb (x:Fares) (c many n days:Int):Int:=if XNa x c many n≠0 then XNa x c many n else if days < 0 then 3 else 0
def V5a (x:Fares) (days:Int):Int:=Uq (fun b:Band=>decide (days≤b.days)) x.bands
def ZEa (x:Fares) (n days:Int):Int:=if V5a x days < 0 then 0 else VF n (x.bands[(V5a x days).toNat]?.getD default).part
theorem Vua {f:Nat→Int} : ∀{n:Nat},Qo f n=0→∀i,i < n→f i=0:=by
 intro n
 induction n with
 | zero=>intro _ i A;omega
 | succ n ih=>
  intro h i A;simp only[Qo]at h
  by_cases e:Qo f n=0
  ·rw[if_pos e]at h
   by_cases e2:i=n
   ·rw[e2];exact h
   ·exact ih e i (by omega)
  ·rw[if_neg e]at h;exact absurd h e
structure FareOk (x:Fares) (c many:Int):Prop where
 cr:1≤c∧c≤5
 mr:1≤many∧many≤7
 len:(x.leg.length:Int)=c
 lens:∀y∈x.leg,(y.length:Int)=many
 leg:∀y∈x.leg,∀v∈y,0≤v∧v≤100000
 a:0≤x.alone∧x.alone≤200
 t:0≤x.third∧x.third≤100
 d:0≤x.down∧x.down≤100
 four:x.bands.length≤4
 band:∀b∈x.bands,0≤b.days∧b.days≤999∧0≤b.part∧b.part≤100
 ord:∀i y z,x.bands[i]? = some y→x.bands[i+1]? = some z→y.days < z.days∧z.part≤y.part
theorem UR {b:Bool}(h:¬b=false):b=true:=by cases b<;>simp_all
theorem Xfb {l:List Band}(h:Uh l=0):l.length≤4∧(∀b∈l,0≤b.days∧b.days≤999∧0≤b.part∧b.part≤100)∧∀i y z,l[i]? = some y→l[i+1]? = some z→y.days < z.days∧z.part≤y.part:=by
 unfold Uh at h
 by_cases h4:4 < l.length
 ·rw[if_pos h4]at h;omega
 ·rw[if_neg h4]at h
  have O:=Vua h
  have E:∀i y,l[i]? = some y→Qc y.days 0 999=true∧Qc y.part 0 100=true∧¬(0 < i∧(y.days≤(l[i - 1]?.getD default).days∨(l[i - 1]?.getD default).part < y.part)):=by
   intro i y D;have A:=O i (List.getElem?_eq_some_iff.1 D).1;unfold Zo at A;rw[D,Option.getD_some]at A
   by_cases e1:Qc y.days 0 999=false∨Qc y.part 0 100=false
   ·rw[if_pos e1]at A;omega
   ·rw[if_neg e1]at A
    by_cases e2:0 < i∧(y.days≤(l[i - 1]?.getD default).days∨(l[i - 1]?.getD default).part < y.part)
    ·rw[if_pos e2]at A;omega
    ·exact⟨UR fun e=>e1 (.inl e),UR fun e=>e1 (.inr e),e2⟩
  refine⟨by omega,fun b Q=>?_,fun i y z D U=>?_⟩
  ·obtain⟨i,A⟩:=List.getElem?_of_mem Q
   obtain⟨F,I,_⟩:=E i b A;have:=Qj.1 F;have:=Qj.1 I;omega
  ·obtain⟨_,_,J⟩:=E (i+1) z U
   rw[show i+1 - 1=i by omega,D,Option.getD_some]at J;omega
theorem Qsc {L:List (List Int)}{c A:Int}(h:Z3 L c A=0):(L.length:Int)=c∧(∀y∈L,(y.length:Int)=A)∧∀y∈L,∀v∈y,0≤v∧v≤100000:=by
 unfold Z3 at h
 by_cases e1:(L.length:Int)≠c∨L.any (fun x=>((x.length:Int) != A))=true
 ·rw[if_pos e1]at h;omega
 ·rw[if_neg e1]at h
  have E:L.any (fun x=>((x.length:Int) != A))=false:=by
   cases e:L.any (fun x=>((x.length:Int) != A))with
   | false=>rfl
   | true=>exact absurd (.inr e) e1
  have F:L.flatten.any (fun x=>!Qc x 0 100000)=false:=by
   cases e:L.flatten.any (fun x=>!Qc x 0 100000)with
   | false=>rfl
   | true=>rw[e]at h;simp at h
  refine⟨by omega,fun y D=>?_,fun y D v I=>?_⟩
  ·have:=List.any_eq_false.1 E y D
   simpa using this
  ·have:=List.any_eq_false.1 F v (List.mem_flatten.2 ⟨y,D,I⟩)
   exact Qj.1 (by simpa using this)
theorem YG {x:Fares}{c A:Int}(h:Zq x c A=0):FareOk x c A:=by
 unfold Zq at h
 by_cases e1:Qc c 1 5=false∨Xq A=false
 ·rw[if_pos e1]at h;omega
 ·rw[if_neg e1]at h
  by_cases e2:Z3 x.leg c A=0
  ·rw[if_neg (by simp[e2])]at h
   by_cases e3:Qc x.alone 0 200=false∨Qc x.third 0 100=false∨Qc x.down 0 100=false
   ·rw[if_pos e3]at h;omega
   ·rw[if_neg e3]at h
    obtain⟨I,l2,J⟩:=Qsc e2;obtain⟨D,E,F⟩:=Xfb h;exact⟨Qj.1 (UR fun e=>e1 (.inl e)),Qj.1 (UR fun e=>e1 (.inr e)),I,l2,J,Qj.1 (UR fun e=>e3 (.inl e)),Qj.1 (UR fun e=>e3 (.inr (.inl e))),Qj.1 (UR fun e=>e3 (.inr (.inr e))),D,E,F⟩
  ·rw[if_pos e2]at h;exact absurd h e2
theorem ZGc {x:Fares}{c A n:Int}(h:XNa x c A n=0):FareOk x c A∧0≤n∧n≤100000000:=by
 unfold XNa at h
 by_cases e:Zq x c A=0
 ·rw[if_neg (by simp[e])]at h
  have:Qc n 0 100000000=true:=by
   cases e:Qc n 0 100000000 with
   | true=>rfl
   | false=>rw[e]at h;simp at h
  exact⟨YG e,Qj.1 this⟩
 ·rw[if_pos e]at h;exact absurd h e
theorem QKc (A:Option Addr)(n cap:Nat)(x:Fares)(B:Option Addr)(m I:Nat)(c F p:Int)(w:World)(h:FareR w A n cap x B m I) :
  Calls Tryz.prog 174 #[.agg #[.slice A n cap,.int .i64 x.alone,.int .i64 x.third,.slice B m I,.int .i64 x.down],.int .i64 c,.int .i64 F,.int .i64 p] w fun e w'=>e=.returned (.int .i64 (XNa x c F p))∧yw w w':=by
 have Z:yw w (w.alloc (.cells #[.slice A n cap,.int .i64 x.alone,.int .i64 x.third,.slice B m I,.int .i64 x.down] 29)):=(Below.refl _ _).alloc (Nat.le_refl _) _;have J:=YU A n cap x B m I c F _ (h.below Z);obtain⟨r,E⟩:∃r,r=XNa x c F p:=⟨_,rfl⟩;obtain⟨q,O⟩:∃q,q=Zq x c F:=⟨_,rfl⟩;rw[←E];rw[←O]at J;have U:=yh (show r=if q≠0 then q else if Qc p 0 100000000 then 0 else 3 by rw[E,O];rfl);have Q:=yh J;clear E O J
 have V:=fun W=>Z8 p 0 100000000 W
 by_cases h0:q=0
 ·subst h0
  cases hp:Qc p 0 100000000
  all_goals
   rw[hp]at V;have HV:=yh hp;clear hp
   go_enter Tryz.func174,Tryz.ntmps174
   go_wp2_with fail
   refine Q.out.mono ?_;rintro e w1 ⟨rfl,D⟩;replace D:=Z.trans (D.mono Z.size)
   go_wp2_with fail
   refine(V _).mono ?_;rintro e Y ⟨rfl,rfl⟩
   go_wp2_with fail
   go_ret
   exact⟨ZH (by rw[U.out,if_neg (by simp),HV.out];rfl),D⟩
 ·have X:(q == 0)=false:=by simpa using h0
  have E:r=q:=by rw[U.out,if_pos h0]
  subst E;clear h0
  go_enter Tryz.func174,Tryz.ntmps174
  go_wp2_with fail
  refine Q.out.mono ?_;rintro e w1 ⟨rfl,D⟩
  go_wp2_with fail
  go_ret
  exact⟨rfl,Z.trans (D.mono Z.size)⟩
theorem U3b (x:Band)(A:Int)(b:Nat)(w:World)(D:yI w b 0 A) :
  Calls Tryz.prog 225 #[.agg #[.int .i64 x.days,.int .i64 x.part],.pointer (some ⟨b,0,none⟩)] w fun e w'=>e=.returned (.bool (decide (A≤x.days)))∧yw w w':=by
 have E:=Ub D
 go_enter Tryz.func225,Tryz.ntmps225
 go_wp2_with fail
 go_ret
 exact⟨rfl,(Below.refl _ _).alloc (Nat.le_refl _) _⟩
theorem V1b (A:Option Addr)(n cap:Nat)(x:Fares)(B:Option Addr)(m D:Nat)(p ai:Int)(w:World)(h:FareR w A n cap x B m D)(p0:0≤p)(p1:p≤100000000)(aa:∀b∈x.bands,0≤b.part∧b.part≤100) :
  Calls Tryz.prog 176 #[.agg #[.slice A n cap,.int .i64 x.alone,.int .i64 x.third,.slice B m D,.int .i64 x.down],.int .i64 p,.int .i64 ai] w fun e w'=>e=.returned (.int .i64 (ZEa x p ai))∧yw w w':=by
 have J:yw w ((w.alloc (.cells #[.slice A n cap,.int .i64 x.alone,.int .i64 x.third,.slice B m D,.int .i64 x.down] 29)).alloc (.cells #[.int .i64 ai] 3)):=((Below.refl _ _).alloc (Nat.le_refl _) _).alloc (by simp) _;have hF:FareAt ((w.alloc (.cells #[.slice A n cap,.int .i64 x.alone,.int .i64 x.third,.slice B m D,.int .i64 x.down] 29)).alloc (.cells #[.int .i64 ai] 3)) w.heap.size A n cap x B m D:=QA _ _ _;have Z:((w.alloc (.cells #[.slice A n cap,.int .i64 x.alone,.int .i64 x.third,.slice B m D,.int .i64 x.down] 29)).alloc (.cells #[.int .i64 ai] 3)).heap[w.heap.size+1]? = some (.cells #[.int .i64 ai] 3 (0,0)):=QB _ _ _
 have O:=Uoa B m D x.bands 225 #[.pointer (some ⟨w.heap.size+1,0,none⟩)] (fun b=>decide (ai≤b.days)) _ (h.bands.below Qs (by omega) J) (enters_of Tryz.func225 (by kernel_rfl) rfl)
  (fun y w1 _ hb=>by simpa using U3b y ai (w.heap.size+1) w1 (cell_of_one ((hb.block _ (by simp)).trans Z)))
 have X:=h.bands.len;obtain⟨r,I⟩:∃r,r=ZEa x p ai:=⟨_,rfl⟩;rw[←I];obtain⟨q,F⟩:∃q,q=V5a x ai:=⟨_,rfl⟩;rw[show Uq (fun b:Band=>decide (ai≤b.days)) x.bands=V5a x ai from rfl,←F]at O;have V:=yh (show r=if q < 0 then 0 else VF p (x.bands[q.toNat]?.getD default).part by rw[I,F];rfl);have U:=yh O
 cases ha:x.bands.any (fun b=>decide (ai≤b.days))
 ·have ad:q=-1:=by rw[F];exact Ud ha
  subst ad
  have ae:r=0:=by rw[V.out,if_pos (by decide)]
  subst ae;clear I F O ha X
  go_enter Tryz.func176,Tryz.ntmps176
  go_wp2_with fail
  refine U.out.mono ?_;rintro e w1 ⟨rfl,E⟩
  go_wp2_with fail
  go_ret
  exact⟨rfl,J.trans (E.mono J.size)⟩
 ·have Y:=Qnc ha
  rw[show Uq (fun b:Band=>decide (ai≤b.days)) x.bands=q from F.symm]at Y;obtain⟨k,rfl⟩:=Int.eq_ofNat_of_zero_le Y.1
  have ab:k < m:=by omega
  have ag:=h.bands.bd;clear I F O ha X
  go_enter Tryz.func176,Tryz.ntmps176
  go_wp2_with fail
  refine U.out.mono ?_;rintro e w1 ⟨rfl,E⟩;have k3:=(hF.below E).c3;replace E:=J.trans (E.mono J.size);obtain⟨bb,ah,y,c0,c1,rfl,Q,⟨hc,y0,y1⟩,g0,g1⟩:=(h.bands.below Qs (by omega) E).at2 ab;simp only[List.cons.injEq,and_true]at hc;obtain⟨rfl,rfl⟩:=hc;have af:=aa y (List.mem_of_getElem? Q)
  have I:r=VF p y.part:=by rw[V.out,if_neg (by omega)];simp[Q]
  subst I;clear Q
  have ac:=fun W=>U1a p y.part W p0 (by omega) af.1 (by omega)
  go_wp2_with fail
  refine(ac _).mono ?_;rintro e w2 ⟨rfl,rfl⟩
  go_wp2_with fail
  go_ret
  exact⟨rfl,E⟩
theorem X7a (A:Option Addr)(n cap:Nat)(x:Fares)(B:Option Addr)(m F:Nat)(c J p E:Int)(w:World)(h:FareR w A n cap x B m F) :
  Calls Tryz.prog 90 #[.agg #[.slice A n cap,.int .i64 x.alone,.int .i64 x.third,.slice B m F,.int .i64 x.down],.int .i64 c,.int .i64 J,.int .i64 p,.int .i64 E] w fun e w'=>e=.returned (.tuple #[.int .i64 (okI (Vvb x c J p E) (ZEa x p E)),.int .i64 (Vvb x c J p E)])∧yw w w':=by
 have I:yw w (w.alloc (.cells #[.slice A n cap,.int .i64 x.alone,.int .i64 x.third,.slice B m F,.int .i64 x.down] 29)):=(Below.refl _ _).alloc (Nat.le_refl _) _;have hF:FareAt (w.alloc (.cells #[.slice A n cap,.int .i64 x.alone,.int .i64 x.third,.slice B m F,.int .i64 x.down] 29)) w.heap.size A n cap x B m F:=FareAt.new w;have V:=QKc A n cap x B m F c J p _ (h.below I);obtain⟨r,D⟩:∃r,r=Vvb x c J p E:=⟨_,rfl⟩;obtain⟨q,O⟩:∃q,q=XNa x c J p:=⟨_,rfl⟩;rw[←D];rw[←O]at V;have U:=yh (show r=if q≠0 then q else if E < 0 then 3 else 0 by rw[D,O];rfl);have Q:=yh V;have Z:=yh O;clear D O V
 by_cases h0:q=0
 ·subst h0
  obtain⟨ab,p0,p1⟩:=ZGc Z.out.symm
  by_cases hd:E < 0
  ·have D:r=3:=by rw[U.out,if_neg (by simp),if_pos hd]
   subst D
   go_enter Tryz.func90,Tryz.ntmps90
   go_wp2_with fail
   refine Q.out.mono ?_;rintro e w1 ⟨rfl,ac⟩
   go_wp2_with fail
   go_ret2
   exact⟨rfl,I.trans (ac.mono I.size)⟩
  ·have D:r=0:=by rw[U.out,if_neg (by simp),if_neg hd]
   subst D
   have W:∀b∈x.bands,0≤b.part∧b.part≤100:=fun b hb=>by have:=ab.band b hb;omega
   have Y:=yh W;clear W
   go_enter Tryz.func90,Tryz.ntmps90
   go_wp2_with fail
   refine Q.out.mono ?_;rintro e w1 ⟨rfl,ac⟩;have k0:=(hF.below ac).c0;have k1:=(hF.below ac).c1;have k2:=(hF.below ac).c2;have k3:=(hF.below ac).c3;have k4:=(hF.below ac).c4;replace ac:=I.trans (ac.mono I.size)
   go_wp2_with fail
   refine(V1b A n cap x B m F p E _ (h.below ac) p0 p1 Y.out).mono ?_;rintro e w2 ⟨rfl,aa⟩
   go_wp2_with fail
   go_ret2
   exact⟨rfl,ac.trans (aa.mono ac.size)⟩
 ·have h1:(q == 0)=false:=by simpa using h0
  have h2:(q != 0)=true:=by simpa using h0
  have D:r=q:=by rw[U.out,if_pos h0]
  subst D;have X:=yh h0;clear h0
  go_enter Tryz.func90,Tryz.ntmps90
  go_wp2_with fail
  refine Q.out.mono ?_;rintro e w1 ⟨rfl,ac⟩
  go_wp2_with fail
  go_ret2
  exact⟨by rw[Q9b X.out];rfl,I.trans (ac.mono I.size)⟩
def YWa (x:Fares) (s g:Int):Int:=if g=1 then s+VF s x.alone else 2*s+(g - 2)*VF s x.third
def ofV (x:Fares) (cat:Int) (s:Span) (g:Int):Int:=YWa x (seg (x.leg[cat.toNat]?.getD []) s.frm s.upto).sum g
theorem YIb {l:List Int}{M:Nat}(h:∀v∈l,0≤v∧v≤(M:Int)):0≤l.sum∧l.sum≤((l.length*M:Nat):Int):=by
 induction l with
 | nil=>simp
 | cons y l ih=>
  have D:=h y (by simp)
  have E:=ih fun v A=>h v (by simp[A])
  rw[List.sum_cons,List.length_cons,Nat.add_mul];omega
theorem VGa {l:List Int}{k:Nat}{y:Int}(h:l[k]? = some y):(l.take (k+1)).sum=(l.take k).sum+y:=by rw[Qn h];simp
theorem QRa {s h:Int}(A:0≤s)(D:s≤1000000)(E:0≤h)(F:h≤200):0≤VF s h∧VF s h≤2000001:=by
 have:=X8b (N:=1000000) (H:=200) A D E F;unfold VF;omega
theorem Zmc (A:Option Addr)(n cap:Nat)(x:Fares)(B:Option Addr)(m D:Nat)(k f t:Nat)(g:Int)(L:List Int)(w:World)(h:FareR w A n cap x B m D)(V:x.leg[k]? = some L)(ah:f < t)(ht:t≤L.length)(h7:L.length≤7)
  (F:∀v∈L,0≤v∧v≤100000) (Y:0≤x.alone∧x.alone≤200) (ae:0≤x.third∧x.third≤100) (hg:1≤g∧g≤4) :
  Calls Tryz.prog 124 #[.agg #[.slice A n cap,.int .i64 x.alone,.int .i64 x.third,.slice B m D,.int .i64 x.down],.int .i64 k,.agg #[.int .i64 f,.int .i64 t],.int .i64 g] w fun e w'=>e=.returned (.int .i64 (YWa x (seg L f t).sum g))∧yw w w':=by
 have Z:yw w ((w.alloc (.cells #[.slice A n cap,.int .i64 x.alone,.int .i64 x.third,.slice B m D,.int .i64 x.down] 29)).alloc (.cells #[.int .i64 f,.int .i64 t] 51)):=((Below.refl _ _).alloc (Nat.le_refl _) _).alloc (by simp) _;have hF:FareAt ((w.alloc (.cells #[.slice A n cap,.int .i64 x.alone,.int .i64 x.third,.slice B m D,.int .i64 x.down] 29)).alloc (.cells #[.int .i64 f,.int .i64 t] 51)) w.heap.size A n cap x B m D:=QA _ _ _;have hS:SpanAt ((w.alloc (.cells #[.slice A n cap,.int .i64 x.alone,.int .i64 x.third,.slice B m D,.int .i64 x.down] 29)).alloc (.cells #[.int .i64 f,.int .i64 t] 51)) (w.heap.size+1) f t:=QB _ _ _
 have ai:k < n:=by have:=(List.getElem?_eq_some_iff.1 V).1;have:=h.leg.len;omega
 have an:=h.leg.bd;obtain⟨b,am,L',c0,hA,ay,⟨B',q,c2,hc,O⟩,g0⟩:=((h.below Z).leg).at1 ai
 obtain rfl:L'=L:=by rw[V]at ay;injection ay with e;exact e.symm
 simp only[List.cons.injEq,and_true]at hc;subst hc;subst hA;have hq:=O.len;have au:=O.le;have ac:=O.max
 have al:t≤q:=by omega
 have I:=O.segm ah al
 have ad:∀j,0≤((seg L' f t).take j).sum∧((seg L' f t).take j).sum≤700000:=fun j=>by
  have h1:=YIb (l:=(seg L' f t).take j) (M:=100000) fun v aa=>F v (Ukb (List.mem_of_mem_take aa))
  have h2:((seg L' f t).take j).length≤7:=by rw[List.length_take];have:=I.len;omega
  omega
 have HV:=yh (fun v (aa:v∈seg L' f t)=>F v (Ukb aa));have ab:=yh ad;have af:=yh I.len
 have ar:(f:Int)≤(t:Int):=by omega
 have av:(t:Int)≤(c2:Int):=by omega
 have aq:(k:Int) < (n:Int):=by omega
 have j0:=hF.c0;have j1:=hF.c1;have j2:=hF.c2;have s0:=hS.c0;have s1:=hS.c1
 have ao:c2≤9223372036854775807:=by unfold maxLen at ac;omega
 clear V ay F ad hq ac
 go_enter Tryz.func124,Tryz.ntmps124
 go_upto_region 2 with(fail)
 go_quiet (fail)
 go_wp2_with fail
 obtain⟨J,Q,ag⟩:∃J Q,Option.map (fun a:Addr=>a.add f) B'=some ⟨J,Q,none⟩:=by
  obtain⟨J,Q,_,_,h3,_⟩:=I.at1 (k:=0) (by omega);exact⟨J,Q,h3⟩
 rw[ag]at I ⊢
 go_loopg [9,23] (t - f) (fun gk s i wr=>∃j:Nat,j≤t - f∧(t - f) - j≤gk∧i=.int .i64 j∧s=.int .i64 ((seg L' f t).take j).sum∧wr=((w.alloc (.cells #[.slice (some ⟨b,am,none⟩) n cap,.int .i64 x.alone,.int .i64 x.third,.slice B m D,.int .i64 x.down] 29)).alloc (.cells #[.int .i64 f,.int .i64 t] 51)).drewN nq)
 case atStart=>exact⟨0,Nat.zero_le _,by omega,rfl,rfl,rfl⟩
 case round=>
  obtain⟨j,hj,ap,rfl,rfl,rfl⟩:=hrel
  by_cases hlt:j < t - f
  ·obtain⟨b4,ax,v,d0,U,F,⟨hd,v0⟩,e0⟩:=(I.below Qb (by omega) (below_drewN (Below.refl _ _) nq)).at1 hlt
   simp only[List.cons.injEq,and_true]at hd;subst hd;have aw:=HV.out v (List.mem_of_getElem? F);have HS:=yh (VGa F);have E:=ab.out j
   injection U with U
   injection U with e1 e2 _
   subst e1 e2;clear F
   go_wp2_with fail
   go_roundg ((t - f) - (j+1))
   case measure=>omega
   case rel=>exact⟨j+1,by omega,by omega,by go_num,by rw[HS.out],rfl⟩
  ·have:j=t - f:=by omega
   subst this;have E:=ab.out (t - f);have HT:=yh (List.take_of_length_le (Nat.le_of_eq af.out));rw[HT.out]at E;obtain⟨S,X⟩:∃S,S=(seg L' f t).sum:=⟨_,rfl⟩;rw[HT.out];rw[←X]at E ⊢;have HP:=yh (show YWa x (seg L' f t).sum g=if g=1 then S+VF S x.alone else 2*S+(g - 2)*VF S x.third by rw[←X];rfl);clear X
   have aj:=fun W=>U1a S x.alone W E.1 (by omega) Y.1 (by omega)
   have ak:=fun W=>U1a S x.third W E.1 (by omega) ae.1 (by omega)
   have ba:=QRa E.1 (by omega) Y.1 Y.2;have bt:=QRa E.1 (by omega) ae.1 (show x.third≤200 by omega)
   generalize VF S x.alone=pa at *
   generalize VF S x.third=pt at *
   rcases(show g=1∨g=2∨g=3∨g=4 by omega)with rfl | rfl | rfl | rfl
   ·go_wp2_with fail
    refine(aj _).mono ?_;rintro e w2 ⟨rfl,rfl⟩
    go_wp2_with fail
    go_ret
    exact⟨ZH (by rw[HP.out];simp),below_drewN Z _⟩
   all_goals
    go_wp2_with fail
    refine(ak _).mono ?_;rintro e w2 ⟨rfl,rfl⟩
    go_wp2_with fail
    go_ret
    exact⟨ZH (by rw[HP.out,if_neg (by omega)];try omega),below_drewN Z _⟩
def upto (s pt:Int) (j:Nat):Int:=if j≤1 then 0 else if j=2 then s else if j=3 then 2*s else if j=4 then 2*s+pt else 2*s+2*pt
end Go.Proofs.YtjdcokpmgionjaaGreat
