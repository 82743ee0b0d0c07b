/-
  Laws and contracts.
-/
import Derived.Test.YtjdcokpmgionjaaGreatBun0
import Derived.RangeFuncNested
import Derived.RangeFuncBound
import Derived.Shelf.RegionOpen
import Derived.OwnWalkIn
import Derived.LoopNIn
import Derived.LoopIn
set_option linter.unusedSimpArgs false
set_option linter.unusedVariables false
set_option maxRecDepth 100000
set_option maxHeartbeats 20000000
namespace Go.Proofs.YtjdcokpmgionjaaGreat
open Proofs.Tryz Go.RowKit Go.Shelf
structure Entry where
 day:Int
 kind:Int
 amount:Int
 deriving DecidableEq,Inhabited
def Qm:Cod Entry:=fun _ _ x cs=>cs=[.int .i64 x.day,.int .i64 x.kind,.int .i64 x.amount]∧InI x.day∧InI x.kind∧InI x.amount
theorem Z4a:XM Qm:=fun _ _ _ _ _ _ h=>h
theorem Qb:Good Qm:=.of_flat Z4a fun h u A=>by obtain⟨rfl,_⟩:=h;simp at A;rcases A with rfl|rfl|rfl<;>rfl
theorem UY:ElemOf prog 61 140 3 24:=.mk' underlying61 (z:=.agg #[.int .i64 0,.int .i64 0,.int .i64 0]) (by kernel_rfl) rfl (by omega)
def VT (n:Int):Bool:=decide (-100000000≤n) && decide (n≤100000000)
def Zq (x:Entry):Int:=
 if x.kind<1∨4<x.kind then 7 else
 if x.day<0∨9999<x.day∨x.amount < -100000000∨100000000<x.amount then 3 else
 if x.amount<0∧(x.kind=1∨x.kind=3)∨0<x.amount∧x.kind=2 then 4 else 0
theorem UOa (n:Int)(w:World):Calls prog 229 #[.int .i64 n] w fun e w'=>e=.returned (.bool (VT n))∧w=w':=by
 go_enter func229,ntmps229;go_wp2
 all_goals go_ret
 all_goals exact⟨Ux (by simp only[VT];simp;omega),rfl⟩
theorem USb (d k m:Int)(w:World) :
  Calls prog 227 #[.agg #[.int .i64 d,.int .i64 k,.int .i64 m]] w fun e w'=>e=.returned (.int .i64 (Zq ⟨d,k,m⟩))∧yw w w':=by
 go_enter func227,ntmps227;go_wp2
 all_goals go_ret
 all_goals refine⟨ZN ?_,(J4 _ _).alloc (J5 _) _⟩
 all_goals (try simp at *)
 all_goals unfold Zq
 all_goals dsimp only
 all_goals (repeat' split)
 all_goals omega
def ZO (p:Int→Bool) (l:List Entry):Int:=((l.filter fun x=>p x.kind).map (·.amount)).sum
def Small (l:List Entry):Prop:=l.length≤1000∧∀x∈l,-10000000000≤x.amount∧x.amount≤10000000000
theorem Yjb (p:Int→Bool)(l:List Entry)(h:∀x∈l,-10000000000≤x.amount∧x.amount≤10000000000) : -10000000000*(l.length:Int)≤ZO p l∧ZO p l≤10000000000*(l.length:Int):=by
 induction l with
 | nil=>simp[ZO]
 | cons x l ih=>
  have E:=h x (by simp);have A:=ih fun y D=>h y (by simp[D]);simp only[ZO,List.filter_cons]at A ⊢;by_cases hp:p x.kind<;>simp[hp]<;>omega
theorem QMa (p:Int→Bool)(l:List Entry)(x:Entry):ZO p (l++[x])=ZO p l+if p x.kind then x.amount else 0:=by
 simp only[ZO,List.filter_append,List.map_append,List.sum_append,List.filter_cons,List.filter_nil];by_cases hp:p x.kind<;>simp[hp]
theorem Small.take {l:List Entry}(h:Small l)(k:Nat)(p:Int→Bool) : -10000000000000≤ZO p (l.take k)∧ZO p (l.take k)≤10000000000000:=by
 have:=Yjb p (l.take k) fun x A=>h.2 x (List.mem_of_mem_take A);have D:(l.take k).length≤1000:=Nat.le_trans (List.length_take_le' _ _) h.1;omega
theorem Small.sum {l:List Entry}(h:Small l)(p:Int→Bool) : -10000000000000≤ZO p l∧ZO p l≤10000000000000:=by
 have:=h.take l.length p
 rwa [List.take_length]at this
theorem ZJb (A:Option Addr)(n cap:Nat)(l:List Entry)(g:Nat)(lb:Array Value)(p:Int→Bool)(w:World)(h:Sl Qm 3 w All A n cap l)(U:Small l)
  (eg:∀J w,(callFunc g J).run prog w=.ok (.enter g J) w)
  (Q:∀(k:Int) (w:World),Calls prog g (#[.int .i64 k]++lb) w fun e w'=>e=.returned (.bool (p k))∧w=w') :
  Calls prog 180 #[.slice A n cap,.func (.func g) #[] lb] w fun e w'=>e=.returned (.int .i64 (ZO p l))∧yw w w':=by
 have V:=yh Q;clear Q;have aa:=h.bd;go_enter func180,ntmps180;go_wp2_with fail
 go_loopg [5,10] n (fun gk s i wr=>∃k:Nat,k≤n∧n-k≤gk∧i=.int .i64 k∧s=.int .i64 (ZO p (l.take k))∧yw w wr)
 case atStart=>exact⟨0,M0 _,by omega,rfl,rfl,J4 _ _⟩
 case round=>
  obtain⟨k,hk,ab,rfl,rfl,hb⟩:=hrel;by_cases hlt:k<n
  ·obtain⟨b,ac,x,Z,c1,c2,rfl,F,⟨O,W,X,Y⟩,g0,g1,g2⟩:=(h.below Qb (by omega) hb).at3 hlt;simp only[List.cons.injEq,and_true]at O;obtain⟨rfl,rfl,rfl⟩:=O;have s1:=U.take k p;have I:=yh (QMa p (l.take k) x);have D:=yh (Qo F);have s3:=U.2 x (J6 F);clear F;have E:=V x.kind
   cases hq:p x.kind with
   | true=>
    rw[hq]at E;go_wp2_with (go_at_fn g;refine(E _).mono ?_;rintro e w' ⟨rfl,rfl⟩);go_roundg (n-(k+1))
    case measure=>omega
    case rel=>exact⟨k+1,by omega,by omega,by go_num,by rw[D.out,I.out,hq];rfl,hb.alloc hb.size _⟩
   | false=>
    rw[hq]at E;go_wp2_with (go_at_fn g;refine(E _).mono ?_;rintro e w' ⟨rfl,rfl⟩);go_roundg (n-(k+1))
    case measure=>omega
    case rel=>exact⟨k+1,by omega,by omega,by go_num,by rw[D.out,I.out,hq];simp,hb.alloc hb.size _⟩
  ·have:k=n:=by omega
   subst this;have D:=yh (M1 (Nat.le_of_eq h.len));go_wp2_with fail;go_ret;exact⟨ZN (by rw[D.out]),hb⟩
def XT (k:Int):Bool:=k==1 || k==4
def QV (l:List Entry):Int:=ZO XT l
def Zz (l:List Entry):Int:=ZO (fun _=>true) l
theorem YLb (k:Int)(w:World):Calls prog 181 #[.int .i64 k] w fun e w'=>e=.returned (.bool true)∧w=w':=by
 go_enter func181,ntmps181;go_wp2;go_ret;exact⟨rfl,rfl⟩
theorem Q3b (k:Int)(w:World):Calls prog 230 #[.int .i64 k] w fun e w'=>e=.returned (.bool (XT k))∧w=w':=by
 go_enter func230,ntmps230;go_wp2
 all_goals go_ret
 all_goals exact⟨Ux (by simp_all [XT]),rfl⟩
theorem V3a (A:Option Addr)(n cap:Nat)(l:List Entry)(w:World)(h:Sl Qm 3 w All A n cap l)(D:Small l) :
  Calls prog 184 #[.slice A n cap] w fun e w'=>e=.returned (.int .i64 (QV l))∧yw w w':=by
 go_enter func184,ntmps184;go_wp2_with (go_at_call 180;refine(ZJb A n cap l 230 #[] XT _ h D (enters_of func230 (by kernel_rfl) rfl) (fun k w=>by simpa using Q3b k w)).mono ?_;rintro e w' ⟨rfl,F⟩);go_ret;exact⟨rfl,F⟩
theorem XKa (A:Option Addr)(n cap:Nat)(l:List Entry)(w:World)(h:Sl Qm 3 w All A n cap l)(D:Small l) :
  Calls prog 99 #[.slice A n cap] w fun e w'=>e=.returned (.int .i64 (Zz l))∧yw w w':=by
 go_enter func99,ntmps99;go_wp2_with (go_at_call 180;refine(ZJb A n cap l 181 #[] (fun _=>true) _ h D (enters_of func181 (by kernel_rfl) rfl) (fun k w=>by simpa using YLb k w)).mono ?_;rintro e w' ⟨rfl,F⟩);go_ret;exact⟨rfl,F⟩
theorem YJ (A:Option Addr)(n cap:Nat)(l:List Entry)(w:World)(h:Sl Qm 3 w All A n cap l)(J:n≤1000000000) :
  Calls prog 222 #[.slice A n cap] w fun e w'=>∃v xs,e=.returned v∧Own Qm 3 140 w' w.heap.size v l xs∧yw w w':=by
 have O:=fun(W:World) (a:Option Addr)=>Lib.run_eql_slice_nil (P:=prog) W 61 140 a n cap 0 0 underlying61;rcases A with _|a
 ·have F:l=[]:=by
   rcases l with _|⟨x,l⟩
   ·rfl
   ·obtain⟨b,Q,cs,X,_⟩:=h.rd 0 x rfl;cases X
  subst F;go_enter func222,ntmps222;go_wp2;go_ret;exact⟨_,_,rfl,Own.nil _ _ _ _ _,J4 _ _⟩
 ·go_enter func222,ntmps222;go_wp2_with (at_builtin;refine QC (t:=61) (e:=140) (bytes:=24) rfl (.tmp 5) (.tmp 6) rfl UY Qb rfl (Own.made w Qm 3 140 w.heap.size #[] 0 (J5 _) (by simp[maxLen]) rfl) rfl (h.below Qb (by omega) ((J4 _ _).alloc (J5 _) _)) (fun _ _ D=>D) (by simp;omega) (by omega) (by simp) ?_;intro v' w' U I E _);go_ret;exact⟨_,_,rfl,I,QA (Below.alloc (J4 _ _) (J5 _) _) (Own.made w Qm 3 140 w.heap.size #[] 0 (J5 _) (by simp[maxLen]) rfl) E (by simp)⟩
attribute [local go_sem] Oper.semAt_some
def Uka (l:List Entry) (k:Nat):List Int:=(List.range k).map fun j=>Zz (l.take (j+1))
theorem ZLa (l:List Entry)(k:Nat):Uka l (k+1)=Uka l k++[Zz (l.take (k+1))]:=by simp[Uka,List.range_succ]
theorem Y4a (l:List Entry)(k:Nat):(Uka l k).length=k:=by simp[Uka]
theorem QRb (l:List Entry)(x:Entry):Zz (l++[x])=Zz l+x.amount:=by simp[Zz,QMa]
theorem Ylb (A:Option Addr)(n cap:Nat)(w:World) :
  Calls prog 228 #[.slice A n cap] w fun e w'=>e=.returned (.func (.func 247) #[] #[.pointer (some ⟨w.heap.size,0,none⟩)])∧w.alloc (.cells #[.slice A n cap] 61)=w':=by
 go_enter func228,ntmps228;go_wp2;go_ret;exact⟨rfl,rfl⟩
theorem Ykb (F:Fence)(m:Nat)(hF:F.fn 247)(af:F.round=none)(hm:1≤m)(l U n₀:Nat)(A:Option Addr)(n cap:Nat)(es:List Entry)(hs:Small es)(J Jx:List Int→World→Prop)
  (W:World) (ae:n₀≤W.heap.size) (hJ:AbidesFrom W.heap.size J)
  (hY:∀D x W1,J D W1→D.length<n→YieldAt F (m-1) prog l #[.int .i64 x] W1 fun e E=>
   (e=.returned (.bool true)∧J (D++[x]) E∧Below n₀ W1 E)∨(e=.returned (.bool false)∧Jx (D++[x]) E))
  (ai:yJ W U 0 A n cap) (Y:Sl Qm 3 W (fun b=>b<n₀) A n cap es) (h0:J [] W) :
  CallsIn F m prog 247 #[.func (.yield l) #[] #[],.pointer (some ⟨U,0,none⟩)] W fun e E=>(∃v,e=.returned v)∧
   ((∃ys,ys=Uka es n∧J ys E)∨(∃D,(∃k,k<n∧D=Uka es (k+1))∧Jx D E)):=by
 have aj:=Y.bd;refine callsIn_of_wp func247 rfl hF ?_ af;simp only[ntmps247,List.size_toArray,List.length_cons,List.length_nil,Nat.reduceAdd,Nat.reduceSub,Array.replicate_succ,Array.replicate_zero,List.push_toArray,List.append_toArray,List.nil_append,List.cons_append]
 gi_wp2
 gi_loopw [3,8] (fun s i wr=>∃k:Nat,k≤n∧i=.int .i64 k∧s=.int .i64 (Zz (es.take k))∧J (Uka es k) wr∧Below n₀ W wr)
  (fun _ i _=>n-(intOf i).toNat)
 case atStart=>exact⟨0,M0 _,rfl,rfl,h0,J4 _ _⟩
 case round=>
  obtain⟨k,hk,rfl,rfl,X,O⟩:=hrel;by_cases hlt:k<n
  ·obtain⟨b,ak,x,c0,c1,c2,rfl,Q,⟨Z,b0,b1,b2⟩,g0,g1,g2⟩:=(Y.keep (w':=wr) (S':=All) Qb (by omega) (fun b hS hl=>⟨O.block b hS,trivial⟩)).at3 hlt;simp only[List.cons.injEq,and_true]at Z;obtain⟨rfl,rfl,rfl⟩:=Z;have aa:J (Uka es k) (wr.alloc (.cells #[.int .i64 x.day,.int .i64 x.kind,.int .i64 x.amount] 140)):=hJ _ wr _ none X (World.grownBy_alloc _ _ _) (by simp);have I:=yh ((congrArg Zz (Qo Q)).trans (QRb (es.take k) x));have s1:=hs.take k (fun _=>true);have al : -10000000000000≤Zz (es.take k)∧Zz (es.take k)≤10000000000000:=s1;have s3:=hs.2 x (J6 Q);have V:=yh (ZLa es k);obtain⟨fn,am,ag,ah,hy,hR⟩:=hY _ (Zz (es.take k)+x.amount) _ aa (by rw[Y4a];exact hlt);clear Q s1
   gi_wp2
   refine hR.mono ?_;rintro e W3 (⟨rfl,ab,ad⟩|⟨rfl,ac⟩)
   ·gi_wp2
    go_roundw
    case rel=>exact⟨k+1,by omega,by simp,by rw[I.out],by rw[V.out,I.out];exact ab,(O.alloc (Nat.le_trans ae O.size) _).trans ad⟩
    case measure=>simp[intOf];omega
   ·gi_wp2
    refine M4 (results_none rfl _ _ _) rfl ?_;exact⟨⟨_,rfl⟩,.inr ⟨_,⟨k,hlt,rfl⟩,by rw[V.out,I.out];exact ac⟩⟩
  ·obtain rfl:k=n:=by omega
   gi_wp2
   go_end0;exact⟨⟨_,rfl⟩,.inl ⟨_,rfl,X⟩⟩
theorem ZAb (F:Fence)(m:Nat)(hF:F.fn 247)(ab:F.round=none)(Z:1≤m)(Bs E:Nat)(A:Option Addr)(n cap:Nat)(D:List Entry)(hs:Small D)(w:World)(aa:E≤w.heap.size)
  (I:yJ w Bs 0 A n cap) (hc:Sl Qm 3 w (fun b=>b<E) A n cap D) :
  SeqStopsK F m prog 247 #[.pointer (some ⟨Bs,0,none⟩)] (fun x:Int=>#[Value.int .i64 x]) (Below E) (fun ys=>ys=Uka D n) (fun ac=>∃k,k<n∧ac=Uka D (k+1)) n w:=fun l J Jx W hW Q _ V O=>by
 have Y:Bs<w.heap.size:=ZT I
 exact Ykb F m hF ab Z l Bs E A n cap D hs J Jx W (Nat.le_trans aa hW.size) Q V ((hW.cell (p:=⟨Bs,0,none⟩) Y).trans I)
  (hc.keep Qb (by omega) (fun b U X=>⟨hW.block b X,U⟩)) O
end Go.Proofs.YtjdcokpmgionjaaGreat
namespace Go.Proofs.YtjdcokpmgionjaaGreat
open Proofs.Tryz Go.RowKit Go.Shelf
attribute [local go_sem] Oper.semAt_some
def Zs (l:List Entry) (i:Nat):Int:=
 if Zq (l[i]?.getD default)≠0 then Zq (l[i]?.getD default)else
 if 0<i∧(l[i]?.getD default).day<(l[i-1]?.getD default).day then 4 else 0
def U2 (l:List Entry) (i:Nat):Int:=if VT (Zz (l.take (i+1)))then 0 else 3
def Qe (l:List Entry):Int:=
 if 12<l.length then 2 else
 if Qq (Zs l) l.length≠0 then Qq (Zs l) l.length else Qq (U2 l) l.length
theorem YX {F:Fence}{n:Nat}{P:Program}{A:Func}{R:Ending→World→Prop}{a:Act}{w:World}{v:Value}(D:a.defers=[])(E:(results A a.tmps).run P w=.ok v w)(h:R (.returned v) w) :
  bodyPostM F n P A R .ret a w:=by
 show LeavesInM F n P A a.tmps R a.defers .returning w
 rw[D];exact⟨v,E,h⟩
theorem QLb (w:World)(v:Value)(t:TypeId):(w.alloc (.cells #[v] t)).cell? ⟨w.heap.size,0,none⟩=some v∧(w.alloc (.cells #[v] t)).frozen? ⟨w.heap.size,0,none⟩=false:=by
 constructor<;>simp
theorem XZ {x:Entry}(h:Zq x=0) : -100000000≤x.amount∧x.amount≤100000000:=by
 unfold Zq at h;by_cases h1:x.kind<1∨4<x.kind
 ·rw[M3 h1]at h;omega
 ·rw[M2 h1]at h;by_cases h2:x.day<0∨9999<x.day∨x.amount < -100000000∨100000000<x.amount
  ·rw[M3 h2]at h;omega
  ·omega
theorem Xw {l:List Entry}(I:l.length≤12)(h:Qq (Zs l) l.length=0):Small l:=by
 refine⟨by omega,fun x F=>?_⟩;obtain⟨i,A,rfl⟩:=List.getElem_of_mem F
 have E:∀n,Qq (Zs l) n=0→∀i,i<n→Zs l i=0:=by
  intro n
  induction n with
  | zero=>intro _ i A;omega
  | succ n ih=>
   intro h i A;simp only[Qq]at h;by_cases e:Qq (Zs l) n=0
   ·rw[M3 e]at h;by_cases e2:i=n
    ·rw[e2];exact h
    ·exact ih e i (by omega)
   ·rw[M2 e]at h;exact absurd h e
 have D:=E _ h i A
 have:Zq (l[i]?.getD default)=0:=by
  unfold Zs at D;by_cases e:Zq (l[i]?.getD default)=0
  ·exact e
  ·rw[M3 e]at D;exact D
 rw[J1 A,Option.getD_some]at this;have:=XZ this;omega
theorem Sl.lastBlock {w:World}{A:Option Addr}{n cap:Nat}{l:List Entry}(h:Sl Qm 3 w All A n cap l):Sl Qm 3 w (fun b=>b<w.heap.size) A n cap l:=
 h.keep Qb (by omega) fun _ _ D=>⟨rfl,D⟩
theorem Umb (l:List Entry):∀k,(∀s∈Uka l k,VT s=true)→Qq (U2 l) k=0:=by
 intro k
 induction k with
 | zero=>intro _;rfl
 | succ k ih=>
  intro h;rw[ZLa]at h;rw[Za (ih fun s A=>h s (by simp[A]))];unfold U2;rw[h _ (by simp)]
  rfl
theorem UW {l:List Entry}(h:¬12<l.length)(A:Qq (Zs l) l.length=0):Qe l=Qq (U2 l) l.length:=by
 unfold Qe;rw[M2 h,M2 (by rw[A];simp)]
theorem Y5 (A:Option Addr)(n cap:Nat)(l:List Entry)(w:World)(h:Sl Qm 3 w All A n cap l) :
  Calls prog 182 #[.slice A n cap] w fun e w'=>e=.returned (.int .i64 (Qe l))∧yw w w':=by
 have aD:=h.bd;have aK:=yh h.len;refine callsIn_wide.1 (callsIn_of_wp_marks (n:=9) func182 rfl trivial ?_ rfl);simp only[ntmps182,List.size_toArray,List.length_cons,List.length_nil,Nat.reduceAdd,Nat.reduceSub,Array.replicate_succ,Array.replicate_zero,List.push_toArray,List.append_toArray,List.nil_append,List.cons_append];refine wpIn_wide.2 ?_;by_cases hn:12<n
 ·have aA:(12:Int)<(n:Int):=by omega
  go_wp2_with fail;refine YX rfl (v:=.int .i64 2) (by simp[results,Tryz.f182,go_sem]) ⟨ZN ?_,?_⟩
  ·unfold Qe;rw[aK.out,M3 hn]
  ·exact((J4 _ _).alloc (J5 _) _)
 ·have aA:¬(12:Int)<(n:Int):=by omega
  go_wp2_with fail
  go_loopg [12] n (fun gk i wr=>∃k:Nat,k≤n∧n-k≤gk∧i=.int .i64 k∧Aside (Qq (Zs l) k=0)∧yw w wr∧w.heap.size<wr.heap.size∧wr.cell? ⟨w.heap.size,0,none⟩=some (.int .i64 0)∧wr.frozen? ⟨w.heap.size,0,none⟩=false)
  case atStart=>exact⟨0,M0 _,by omega,rfl,rfl,(J4 _ _).alloc (J5 _) _,by simp,by simp,by simp⟩
  case round=>
   obtain⟨k,hk,aE,rfl,F,J,ap,ac,af⟩:=hrel;by_cases hlt:k<n
   ·obtain⟨b,aI,x,c0,c1,c2,rfl,hx,⟨hc,b0,b1,b2⟩,g0,g1,g2⟩:=(h.below Qb (by omega) J).at3 hlt;simp only[List.cons.injEq,and_true]at hc;obtain⟨rfl,rfl,rfl⟩:=hc;have HX:=yh hx;clear hx;go_wp2_with fail;refine yM (USb _ _ _ _) fun w1 O=>?_;have Y:w1.cell? ⟨w.heap.size,0,none⟩=some (.int .i64 0):=(O.cell (p:=⟨w.heap.size,0,none⟩) (by simp;omega)).trans (by rw[World.cell?_alloc_lt (a:=⟨w.heap.size,0,none⟩) wr _ ap];exact ac);have al:w1.frozen? ⟨w.heap.size,0,none⟩=false:=(O.frozen (p:=⟨w.heap.size,0,none⟩) (by simp;omega)).trans (by rw[World.frozen?_alloc_old (a:=⟨w.heap.size,0,none⟩) wr _ (by simp;omega)];exact af);have aH:w1.cell? ⟨wr.heap.size,0,none⟩=some (.int .i64 x.day):=(O.cell (p:=⟨wr.heap.size,0,none⟩) (by simp)).trans (by simp);have aL:yw w w1:=(J.alloc J.size _).trans (O.mono (by simp;omega))
    have aq:w.heap.size<w1.heap.size:=by have:=O.size;simp at this;omega
    clear O ac af g0 g1 g2;obtain⟨r,E⟩:=yE (Zq x);have HR:=yh E;have av:Zq { day:=x.day,kind:=x.kind,amount:=x.amount } = r:=E.symm;rw[av];clear E av
    have fin:∀r:Int,Zs l k=r→r≠0→r=Qe l:=fun r h1 h2=>by
     unfold Qe;rw[aK.out,M2 hn];have:=U5 (n:=n) F (by rw[h1];exact h2) hlt;rw[this,h1,M3 h2]
    have ag:=yh fin;clear fin;by_cases hr0:r=0
    ·subst hr0
     have aj:(∀y,l[k-1]? = some y→0<k→Zs l k=if x.day<y.day then 4 else 0):=fun y U h0=>by
      unfold Zs;rw[HX.out,Option.getD_some,←HR.out,M2 (by simp),U,Option.getD_some];by_cases e:x.day<y.day
      ·rw[M3 ⟨h0,e⟩,M3 e]
      ·rw[M2 (fun h=>e h.2),M2 e]
     have ak:k=0→Zs l k=0:=fun h0=>by
      unfold Zs;rw[HX.out,Option.getD_some,←HR.out,M2 (by simp),M2 (by omega)]
     have ah:=yh aj;have ax:=yh ak;clear aj ak;rcases k with _|k
     ·go_wp2_with fail;go_quiet (fail);go_wp2_with fail;go_roundg (n-1)
      case measure=>omega
      case rel=>exact⟨1,by omega,by omega,rfl,(show Aside _ from(Za F).trans (ax (by trivial))),below_drewN aL _,aq,Y,al⟩
     ·obtain⟨b2,aJ,y,d0,d1,d2,aa,U,⟨ai,y0,y1,y2⟩,e0,e1,e2⟩:=(h.below Qb (by omega) aL).at3 (show k<n by omega);injection aa with aa;injection aa with hb2 ho2 _;subst hb2 ho2;simp only[List.cons.injEq,and_true]at ai;obtain⟨rfl,rfl,rfl⟩:=ai;have Hy:=yh U;clear U e1 e2;have hw:IntKind.i64.wrap (k:Int)=k:=IntWalk.i64_in _ (by omega);have aF:decide ((0:Int)<(k:Int)+1)=true:=J2 (by omega);by_cases hd:x.day<y.day
      ·go_wp2_with fail;go_quiet (fail);go_wp2_with fail;refine YX rfl (v:=.int .i64 4) (by simp[results,Tryz.f182,go_sem,World.cell?_setCell_same (w:=w1.drewN _) (h:=Y)]) ⟨ZN (ag _ ?_ (by omega)),?_⟩
       ·rw[ah.out y (by simpa using Hy.out) (by omega),M3 hd]
       ·exact(below_drewN aL _).setCell (p:=⟨w.heap.size,0,none⟩) (J5 _) _
      ·go_wp2_with fail;go_quiet (fail);go_wp2_with fail;go_roundg (n-(k+1+1))
       case measure=>omega
       case rel=>exact⟨k+1+1,by omega,by omega,by go_num,(show Aside _ from(Za F).trans (by rw[ah.out y (by simpa using Hy.out) (by omega),M2 (by omega)])),below_drewN aL _,aq,Y,al⟩
    ·have aG:(r !=0)=true:=by simpa using hr0
     have aw:¬r=0:=hr0;clear hr0;go_wp2_with fail;refine YX rfl (v:=.int .i64 r) (by simp[results,Tryz.f182,go_sem,World.cell?_setCell_same (h:=Y)]) ⟨ZN (ag _ ?_ aw),?_⟩
     ·unfold Zs;rw[HX.out,Option.getD_some,←HR.out,M3 aw]
     ·exact aL.setCell (p:=⟨w.heap.size,0,none⟩) (J5 _) _
   ·obtain rfl:k=n:=by omega
    have aC:=Xw (l:=l) (by rw[aK.out];omega) (by rw[aK.out];exact F);have h1:=h.lastBlock;go_wp2_with (go_at_call 228;refine(Ylb _ _ _ _).mono ?_;rintro e w' ⟨rfl,rfl⟩);have ay:yw w (wr.alloc (.cells #[.slice A k cap] 61)):=J.alloc J.size _;have c2:=QLb wr (.slice A k cap) 61;have aB:=(h.below Qb (by omega) J).lastBlock.keep (w':=wr.alloc (.cells #[.slice A k cap] 61)) (S':=fun b=>b<wr.heap.size) Qb (by omega) (fun b hS _=>⟨Below.heap_alloc _ _ _ hS,hS⟩);refine(wpIn_wide (n:=9)).1 ?_
    refine wpIn_rangeFunc_ownF rfl (by omega) (gf:=247) (lb:=#[.pointer (some ⟨wr.heap.size,0,none⟩)]) rfl trivial (enters_of func247 (by kernel_rfl) rfl)
     (ZAb Fence.wide 8 trivial rfl (by omega) wr.heap.size wr.heap.size A k cap l aC _ (by simp) c2.1 aB) belowK_t (belowK_b (by simp)) (J4 _ _) (fun _=>rfl)
     (fun V W=>((∀s∈V,VT s=true)∧W.cell? ⟨w.heap.size,0,none⟩=some (.int .i64 0)∧W.frozen? ⟨w.heap.size,0,none⟩=false)∧yw w W)
     (fun c V W=>(c=.ret∧(∃p s,V=p++[s]∧(∀q∈p,VT q=true)∧VT s=false)∧W.cell? ⟨w.heap.size,0,none⟩=some (.int .i64 3))∧yw w W)
     (OwnFrom.and (Go.Own.from (fun s A B row hs Z E=>⟨hs.1,cell_kept hs.2.1 Z E,(frozen_kept hs.2.1 Z E).trans hs.2.2⟩) _) (ownFrom_below (J5 _) (by simp;omega)))
     (fun c=>OwnFrom.and (Go.Own.from (fun s A B row hs Z E=>⟨hs.1,hs.2.1,cell_kept hs.2.2 Z E⟩) _) (ownFrom_below (J5 _) (by simp;omega)))
     ⟨⟨by simp,by rw[World.cell?_alloc_lt (a:=⟨w.heap.size,0,none⟩) wr _ ap];exact ac,by rw[World.frozen?_alloc_old (a:=⟨w.heap.size,0,none⟩) wr _ (by simp;omega)];exact af⟩,ay⟩
     ?a1 ?assign ?body ?done ?stop
    case assign=>
     intro l x W K hK
     gi_wp2
     exact hK
    case body=>
     rintro l V x W ⟨⟨hp,Q,am⟩,I⟩ _
     cases hq:VT x with
     | true=>
      have X:=yh hq;clear hq
      gi_wp2_with (refine⟨trivial,?_⟩;gi_at_call 229;refine(CallsIn.inRound l (callsIn_wide.2 (UOa _ _))).mono ?_;rintro e w' ⟨rfl,rfl⟩;rw[X.out])
      exact⟨KeepsOthers.refl _,J4 _ _,⟨fun y U=>(List.mem_append.1 U).elim (hp y) (fun e=>by simp at e;subst e;exact X.out),Q,am⟩,I⟩
     | false=>
      have X:=yh hq;clear hq
      gi_wp2_with (refine⟨trivial,?_⟩;gi_at_call 229;refine(CallsIn.inRound l (callsIn_wide.2 (UOa _ _))).mono ?_;rintro e w' ⟨rfl,rfl⟩;rw[X.out])
      exact⟨KeepsOthers.setCell _ _ _,⟨rfl,⟨V,x,rfl,hp,X.out⟩,World.cell?_setCell_same _ _ _ Q⟩,I.setCell (p:=⟨w.heap.size,0,none⟩) (J5 _) _⟩
    case done=>
     rintro D ys W hD rfl ⟨⟨ar,Q,am⟩,I⟩ hK;have HN:=yh ar;clear ar;go_wp2_with fail;have ab:=(KeepsOthers.setCell W ⟨w.heap.size,0,none⟩ (.int .i64 0)).same D _ hK rfl;refine⟨by simp,.inl ⟨_,_,rfl,run_takeDeferred ab,?_⟩⟩;have ad:=cell_kept (World.cell?_setCell_same (v:=.int .i64 0) (h:=Q)) (grownBy_putObj' _ D (.deferred none)) (fun r e=>by cases e;exact⟨_,ab,rfl⟩);refine⟨.int .i64 0,?_,ZN ?_,(I.setCell (p:=⟨w.heap.size,0,none⟩) (J5 _) _).trans (belowK_b (w:=w) (J5 _) _ D _ _ (by simp at hD;omega) ab rfl rfl)⟩
     ·simp[results,Tryz.f182,go_sem,ad]
     ·rw[UW (by rw[aK.out];exact hn) (by rw[aK.out];exact F.out),aK.out,Umb _ _ HN.out]
    case stop=>
     rintro D c V W hD au ⟨⟨rfl,an,Q⟩,I⟩ hK;have HP:=yh au;have HI:=yh an;clear au an
     gi_wp2
     refine⟨by simp,.inl ⟨_,_,rfl,run_takeDeferred hK,?_⟩⟩;have ad:=cell_kept Q (grownBy_putObj' _ D (.deferred none)) (fun r e=>by cases e;exact⟨_,hK,rfl⟩);refine⟨.int .i64 3,?_,ZN ?_,I.trans (belowK_b (w:=w) (J5 _) W D _ _ (by simp at hD;omega) hK rfl rfl)⟩
     ·simp[results,Tryz.f182,go_sem,ad]
     ·rw[UW (by rw[aK.out];exact hn) (by rw[aK.out];exact F.out),aK.out];obtain⟨j,hj,rfl⟩:=HP.out;obtain⟨p,s,he,hp,hs⟩:=HI.out;rw[ZLa]at he;obtain⟨az,ae⟩:=List.append_inj' he rfl;injection ae with ae;subst az ae
      have ao:U2 l j=3:=by unfold U2;rw[hs];rfl
      rw[U5 (Umb _ _ hp) (by rw[ao];omega) hj,ao]
end Go.Proofs.YtjdcokpmgionjaaGreat
namespace Go.Proofs.YtjdcokpmgionjaaGreat
open Proofs.Tryz Go.RowKit Go.Shelf
theorem Vpa (w:World)(S:Nat→Prop)(d k m:Int)(t:TypeId)(D:InI d)(E:InI k)(F:InI m)(A:S w.heap.size) :
  Sl Qm 3 (w.alloc (.cells #[.int .i64 d,.int .i64 k,.int .i64 m] t)) S (some ⟨w.heap.size,0,none⟩) 1 1 [⟨d,k,m⟩]:=
 Sl.lit1 w S t (⟨d,k,m⟩:Entry) [.int .i64 d,.int .i64 k,.int .i64 m] ⟨rfl,D,E,F⟩ A
theorem U3 {l:List Entry}(h:Qe l=0):l.length≤12:=by
 unfold Qe at h;by_cases e:12<l.length
 ·rw[M3 e]at h;omega
 ·omega
theorem Z7 {l:List Entry}(h:Qe l=0):Small l:=by
 have A:=U3 h;refine Xw A ?_;unfold Qe at h;rw[M2 (by omega)]at h;by_cases e:Qq (Zs l) l.length=0
 ·exact e
 ·rw[M3 e]at h;exact absurd h e
theorem Yra (A:Option Addr)(n cap:Nat)(l:List Entry)(B:Option Addr)(m I:Nat)(l2:List Entry)(w:World)(h:Sl Qm 3 w All A n cap l)(Y:Sl Qm 3 w All B m I l2)(hn:n≤1000000)(hm:m≤1000000) :
  Calls prog 183 #[.slice A n cap,.slice B m I] w fun e w'=>∃v xs,e=.returned (.tuple #[v,.int .i64 (Qe (l++l2))])∧
   Own Qm 3 140 w' w.heap.size v (okL (Qe (l++l2)) (l++l2)) xs∧yw w w':=by
 have aa:=yh h.len;have J:=fun(W:World) (A:Option Addr) (n cap:Nat)=>Y5 A n cap (l++l2) W
 generalize Qe (l++l2)=r at *
 have F:=yh J;clear J;go_enter func183,ntmps183;go_wp2_with fail;refine(YJ _ _ _ l _ h (by omega)).mono ?_;rintro e w1 ⟨v1,ad,rfl,Q,ag⟩;go_wp2_with (at_builtin;refine QC (t:=61) (e:=140) (bytes:=24) rfl (.tmp 9) (.tmp 10) rfl UY Qb rfl Q rfl (Y.below Qb (by omega) ag) (fun _ _ Z=>Z) (by rw[aa.out];omega) (by omega) ag.size ?_;intro v2 w2 ae U O _;obtain⟨A2,n2,ab,rfl,V⟩:=U.sl Qb);have D:yw w w2:=QA ag Q O ag.size;have ah:=V.all Qb (by omega);clear O V ag;by_cases hr:r=0
 ·subst hr;go_wp2_with (go_at_call 182;refine(F _ _ _ _ ah).mono ?_;rintro e w' ⟨rfl,E⟩);go_ret2;exact⟨_,_,rfl,U.below Qb E,D.trans (E.mono D.size)⟩
 ·have ac:(r !=0)=true:=by simpa using hr
  have X:=yh hr;clear hr;go_wp2_with (go_at_call 182;refine(F _ _ _ _ ah).mono ?_;rintro e w' ⟨rfl,E⟩);go_ret2;exact⟨_,_,rfl,by rw[Yu X.out];exact Own.nil _ _ _ _ _,D.trans (E.mono D.size)⟩
def QCb (l:List Entry) (x:Entry):Int:=if Qe l=0 then Qe (l++[x])else Qe l
theorem YFb (A:Option Addr)(n cap:Nat)(l:List Entry)(d k m:Int)(w:World)(h:Sl Qm 3 w All A n cap l)(hd:InI d)(hk:InI k)(hm:InI m) :
  Calls prog 100 #[.slice A n cap,.agg #[.int .i64 d,.int .i64 k,.int .i64 m]] w fun e w'=>∃v xs,e=.returned (.tuple #[v,.int .i64 (QCb l ⟨d,k,m⟩)])∧
   Own Qm 3 140 w' w.heap.size v (okL (QCb l ⟨d,k,m⟩) (l++[⟨d,k,m⟩])) xs∧yw w w':=by
 have E:yw w (w.alloc (.cells #[.int .i64 d,.int .i64 k,.int .i64 m] 140)):=(J4 _ _).alloc (J5 _) _;have Q:=Y5 A n cap l _ (h.below Qb (by omega) E);have W:=h.len;obtain⟨r,D⟩:=yE (Qe l);obtain⟨X,F⟩:=yE (QCb l ⟨d,k,m⟩);rw[←D]at Q;rw[←F];have U:=yh Q;clear Q;by_cases hr0:r=0
 ·subst hr0;have hl:=U3 D.symm
  have J:X=Qe (l++[⟨d,k,m⟩]):=by rw[F];unfold QCb;rw[M3 D.symm]
  have Y:=yh J
  have ac:n≤12:=by omega
  clear D F J W hl;go_enter func100,ntmps100;go_wp2_with fail;refine yM U fun w1 ai=>?_;have ae:yI w1 w.heap.size 0 d:=(ai.cell (p:=⟨w.heap.size,0,none⟩) (by simp)).trans (by simp);have af:yI w1 w.heap.size 1 k:=(ai.cell (p:=⟨w.heap.size,1,none⟩) (by simp)).trans (by simp);have ag:yI w1 w.heap.size 2 m:=(ai.cell (p:=⟨w.heap.size,2,none⟩) (by simp)).trans (by simp);have I:yw w w1:=E.trans (ai.mono E.size);clear ai;go_wp2_with fail;have V:=Yra _ _ _ l _ _ _ [⟨d,k,m⟩] _ (h.below Qb (by omega) (I.alloc I.size _)) (Vpa w1 All d k m 140 hd hk hm trivial) (by omega) (by omega);rw[←Y.out]at V;refine V.mono ?_;rintro e w2 ⟨v,xs,rfl,ab,aa⟩;have O:=(I.alloc I.size (.cells #[.int .i64 d,.int .i64 k,.int .i64 m] 140));go_wp2_with fail;go_ret2;exact⟨_,_,rfl,ab.mono Qb O.size,O.trans (aa.mono O.size)⟩
 ·have ad:(r !=0)=true:=by simpa using hr0
  have J:X=r:=by rw[F];unfold QCb;rw[M2 (by rw[←D];exact hr0)];exact D.symm
  subst J;have Z:=yh hr0;clear D F hr0 W;go_enter func100,ntmps100;go_wp2_with (go_at_call 182;refine U.mono ?_;rintro e w' ⟨rfl,ai⟩);go_ret2;exact⟨_,_,rfl,by rw[Yu Z.out];exact Own.nil _ _ _ _ _,E.trans (ai.mono E.size)⟩
def Z4 (l:List Entry) (d k m:Int):List Entry:=if m=0 then l else l++[⟨d,k,m⟩]
def ZF (l:List Entry) (d p:Int):List Entry:=
 Z4 (Z4 (Z4 l d 4 (-QV l)) d 3 p) d 4 (max 0 (-Zz (Z4 (Z4 l d 4 (-QV l)) d 3 p)))
def VV (l:List Entry) (d p:Int):Int:=
 if Qe l≠0 then Qe l else if p<0∨100000000<p then 3 else Qe (ZF l d p)
theorem XO {l:List Entry}(h:Qe l=0):∀x∈l,-100000000≤x.amount∧x.amount≤100000000:=by
 have J:=U3 h
 have E:Qq (Zs l) l.length=0:=by
  unfold Qe at h;rw[M2 (by omega)]at h;by_cases e:Qq (Zs l) l.length=0
  ·exact e
  ·rw[M3 e]at h;exact absurd h e
 have F:∀n,Qq (Zs l) n=0→∀i,i<n→Zs l i=0:=by
  intro n
  induction n with
  | zero=>intro _ i A;omega
  | succ n ih=>
   intro h i A;simp only[Qq]at h;by_cases e:Qq (Zs l) n=0
   ·rw[M3 e]at h;by_cases e2:i=n
    ·rw[e2];exact h
    ·exact ih e i (by omega)
   ·rw[M2 e]at h;exact absurd h e
 intro x I;obtain⟨i,A,rfl⟩:=List.getElem_of_mem I;have:=F _ E i A;unfold Zs at this
 have D:Zq (l[i]?.getD default)=0:=by
  by_cases e:Zq (l[i]?.getD default)=0
  ·exact e
  ·rw[M3 e]at this;exact this
 rw[J1 A,Option.getD_some]at D;exact XZ D
theorem Vzb (p:Int→Bool)(l:List Entry)(h:∀x∈l,-100000000≤x.amount∧x.amount≤100000000) : -100000000*(l.length:Int)≤ZO p l∧ZO p l≤100000000*(l.length:Int):=by
 induction l with
 | nil=>simp[ZO]
 | cons x l ih=>
  have E:=h x (by simp);have A:=ih fun y D=>h y (by simp[D]);simp only[ZO,List.filter_cons]at A ⊢;by_cases hp:p x.kind<;>simp[hp]<;>omega
theorem Xb {l:List Entry}(h:Qe l=0)(p:Int→Bool) : -1200000000≤ZO p l∧ZO p l≤1200000000:=by
 have:=Vzb p l (XO h);have:=U3 h;omega
theorem XI (l:List Entry)(d k m:Int):(Z4 l d k m).length≤l.length+1:=by
 unfold Z4;split<;>simp
theorem Yx {l:List Entry}{d k m:Int}(h:∀x∈l,-10000000000≤x.amount∧x.amount≤10000000000)(D : -10000000000≤m)(E:m≤10000000000):∀x∈Z4 l d k m,-10000000000≤x.amount∧x.amount≤10000000000:=by
 unfold Z4
 split
 ·exact h
 ·intro x A;rcases List.mem_append.1 A with A|A
  ·exact h x A
  ·simp at A;subst A;exact⟨D,E⟩
structure Puts (w:World) (O D:Nat) (d:Int) (l:List Entry) (W:World) (A:Option Addr) (n cap:Nat) (xs:List Value):Prop where
 o:W.heap[O]? = some (.cells #[.slice A n cap] 61 (0,0))
 d:W.heap[D]? = some (.cells #[.int .i64 d] 3 (0,0))
 own:Own Qm 3 140 W w.heap.size (.slice A n cap) l xs
 ne:(Value.slice A n cap).ownBlock≠some O
 neD:(Value.slice A n cap).ownBlock≠some D
 od:O≠D
 b:yw w W
 le:w.heap.size≤O
 len:l.length≤1000
theorem X6a (w:World)(O D:Nat)(d:Int)(l:List Entry)(W:World)(A:Option Addr)(n cap:Nat)(xs:List Value)(k m:Int)(h:Puts w O D d l W A n cap xs)(hd:InI d)(hk:InI k)(hm:InI m)(V:l.length≤100) :
  Calls prog 231 #[.int .i64 k,.int .i64 m,.pointer (some ⟨O,0,none⟩),.pointer (some ⟨D,0,none⟩)] W fun e W'=>e=.returned (.tuple #[])∧∃Z n' aa af,Puts w O D d (Z4 l d k m) W' Z n' aa af:=by
 have ho:=cell_of_one h.o;have aj:=free_of_one h.o;have ah:=cell_of_one h.d;have hO:=lt_of_block h.o;have hD:=lt_of_block h.d;by_cases hm0:m=0
 ·subst hm0;go_enter func231,ntmps231;go_wp2_with fail;go_end0;exact⟨rfl,A,n,cap,xs,h⟩
 ·have ak:(m !=0)=true:=by simpa using hm0
  have HL:=yh V;have HP:=yh (show Z4 l d k m=l++[⟨d,k,m⟩]from M2 hm0);clear hm0 V;go_enter func231,ntmps231;have ae:=h.own.below Qb ((J4 W.heap.size W).alloc (J5 _) (.cells #[.int .i64 d,.int .i64 k,.int .i64 m] 140));have ac:=h.b.size;go_wp2_with (at_builtin;refine QC (t:=61) (e:=140) (bytes:=24) rfl (.tmp 8) (.tmp 13) rfl UY Qb rfl ae rfl (Vpa W All d k m 140 hd hk hm trivial) (fun _ _ hc=>hc) (by have:=HL.out;omega) (by omega) (by simp;omega) ?_;intro v2 Y ag X E U;obtain⟨F,J,I,rfl,am⟩:=X.sl Qb;have ao:=E.block O (by simp;omega) (fun e=>h.ne e.symm);have Q:=E.block D (by simp;omega) (fun e=>h.neD e.symm);rw[Below.heap_alloc _ _ _ hO,h.o]at ao;rw[Below.heap_alloc _ _ _ hD,h.d]at Q;have al:=cell_of_one ao;have ai:=free_of_one ao);go_end0;rw[HP.out]
  have hz:W.heap.size<Y.heap.size:=by have:=E.size;simp at this;omega
  have ab:yw w Y:=(h.b.alloc ac _).grown E (by simp;omega) (fun j hj=>(h.own.lt j hj).1)
  have ap:(Value.slice F J I).ownBlock≠some O:=by
   rcases U with e|e<;>rw[e]
   ·exact h.ne
   ·intro he;injection he with he;simp at he;omega
  have ad:(Value.slice F J I).ownBlock≠some D:=by
   rcases U with e|e<;>rw[e]
   ·exact h.neD
   ·intro he;injection he with he;simp at he;omega
  refine⟨rfl,F,J,I,ag,⟨one_setCell ao,?_,ZM Z4a X ap _,ap,ad,h.od,ab.setCell (p:=⟨O,0,none⟩) h.le _,h.le,?_⟩⟩
  ·exact(Below.heap_setCell _ _ _ _ (fun e=>h.od e.symm)).trans Q
  ·rw[J9];have:=HL.out;simp;omega
theorem Vqa {w W:World}{O D:Nat}{d:Int}{l:List Entry}{A:Option Addr}{n cap:Nat}{xs:List Value}(h:Puts w O D d l W A n cap xs):Sl Qm 3 W All A n cap l:=by
 obtain⟨E,I,F,J,Q⟩:=h.own.sl Qb;injection J with e1 e2 e3;subst e1 e2 e3;exact Q.all Qb (by omega)
theorem Puts.below {w W F:World}{O D:Nat}{d:Int}{l:List Entry}{A:Option Addr}{n cap:Nat}{xs:List Value}(h:Puts w O D d l W A n cap xs)(E:yw W F):Puts w O D d l F A n cap xs:=
 ⟨(E.block O (lt_of_block h.o)).trans h.o,(E.block D (lt_of_block h.d)).trans h.d,h.own.below Qb E,h.ne,h.neD,h.od,h.b.trans (E.mono h.b.size),h.le,h.len⟩
theorem Qsb (A:Option Addr)(n cap:Nat)(l:List Entry)(d p:Int)(w:World)(h:Sl Qm 3 w All A n cap l)(hd:InI d)(hp:InI p) :
  Calls prog 185 #[.slice A n cap,.int .i64 d,.int .i64 p] w fun e w'=>∃v xs,e=.returned (.tuple #[v,.int .i64 (VV l d p)])∧
   Own Qm 3 140 w' w.heap.size v (okL (VV l d p) (ZF l d p)) xs∧yw w w':=by
 have D:yw w (w.alloc (.cells #[.int .i64 d] 3)):=(J4 _ _).alloc (J5 _) _;have aj:=Y5 A n cap l _ (h.below Qb (by omega) D);have ac:=h.len;obtain⟨r,hr⟩:=yE (Qe l);obtain⟨ra,J⟩:=yE (VV l d p);rw[←hr]at aj;rw[←J];have Z:=yh aj;clear aj;by_cases hr0:r=0
 ·subst hr0;have hl:=U3 hr.symm;by_cases Q:p<0∨100000000<p
  ·have O:ra=3:=by rw[J];unfold VV;rw[M2 (by rw[←hr];simp),M3 Q]
   subst O;clear hr J ac;rcases Q with Q|Q
   ·go_enter func185,ntmps185;go_wp2_with (go_at_call 182;refine Z.mono ?_;rintro e w' ⟨rfl,E⟩);go_ret2;exact⟨_,_,rfl,Own.nil _ _ _ _ _,D.trans (E.mono D.size)⟩
   ·have aV:¬p<0:=by omega
    go_enter func185,ntmps185;go_wp2_with (go_at_call 182;refine Z.mono ?_;rintro e w' ⟨rfl,E⟩);go_ret2;exact⟨_,_,rfl,Own.nil _ _ _ _ _,D.trans (E.mono D.size)⟩
  ·have aT:0≤p:=by omega
   have aU:p≤100000000:=by omega
   have O:ra=Qe (ZF l d p):=by rw[J];unfold VV;rw[M2 (by rw[←hr];simp),M2 Q]
   have HE:=yh O;have aJ:=Z7 hr.symm;have aK:=Xb hr.symm XT;have ap:=XO hr.symm;have HL:=yh (show ZF l d p=Z4 (Z4 (Z4 l d 4 (-QV l)) d 3 p) d 4 (max 0 (-Zz (Z4 (Z4 l d 4 (-QV l)) d 3 p)))from rfl);rw[show ZO XT l=QV l from rfl]at aK
   have aR:n≤12:=by omega
   have aM:=yh ac;have ax:=yh ap;have ae:=yh hl;clear hr J O ac hl Q ap;go_enter func185,ntmps185;go_wp2_with fail;refine yM Z fun w1 E=>?_;have ab:yw w w1:=D.trans (E.mono D.size);have am:w1.heap[w.heap.size]? = some (.cells #[.int .i64 d] 3 (0,0)):=(E.block _ (by simp)).trans (heap_alloc_new w _);have aE:=lt_of_block am;clear E;go_wp2_with fail;refine(YJ _ _ _ l _ (h.below Qb (by omega) ab) (by omega)).mono ?_;rintro e w2 ⟨v,xs,rfl,I,aa⟩;obtain⟨A2,n2,al,rfl,aI⟩:=I.sl Qb;have ah:=ab.trans (aa.mono ab.size);have aY:=aa.size
   have hP:Puts w w2.heap.size w.heap.size d l (w2.alloc (.cells #[.slice A2 n2 al] 61)) A2 n2 al xs:=
    ⟨heap_alloc_new _ _,(Below.heap_alloc _ _ _ (by omega)).trans ((aa.block _ aE).trans am),(I.mono Qb ab.size).below Qb ((J4 _ _).alloc (J5 _) _),fun e=>by have:=(I.lt _ e).2;omega,fun e=>by have:=(I.lt _ e).1;omega,by omega,ah.alloc ah.size _,by omega,by have:=ae.out;omega⟩
   clear I aa aI ah;go_wp2_with fail;refine yM (V3a _ _ _ l _ ((h.below Qb (by omega) hP.b)) aJ) fun w3 aq=>?_;have an:=hP.below aq;clear hP aq;go_wp2_with fail;refine(X6a w _ _ d l _ _ _ _ _ 4 (-QV l) an hd (.of (by omega) (by omega)) (.of (by omega) (by omega)) (by have:=ae.out;omega)).mono ?_;rintro e w4 ⟨rfl,A4,n4,aN,aZ,af⟩;obtain⟨Y,W⟩:=yE (Z4 l d 4 (-QV l));rw[←W]at af
   have aC:Y.length≤13:=by have:=XI l d 4 (-QV l);have:=ae.out;rw[W];omega
   have av:∀x∈Y,-10000000000≤x.amount∧x.amount≤10000000000:=by rw[W];exact Yx (fun x hx=>by have:=ax x hx;omega) (by omega) (by omega)
   have ay:=yh W;have ak:=yh av;clear W av an;go_wp2_with fail;refine(X6a w _ _ d Y _ _ _ _ _ 3 p af hd (.of (by omega) (by omega)) hp (by omega)).mono ?_;rintro e w5 ⟨rfl,A5,n5,aO,a0,U⟩;obtain⟨F,X⟩:=yE (Z4 Y d 3 p);rw[←X]at U
   have aQ:F.length≤14:=by have:=XI Y d 3 p;rw[X];omega
   have aw:Small F:=⟨by omega,by rw[X];exact Yx ak (by omega) (by omega)⟩;have aP : -10000000000000≤Zz F∧Zz F≤10000000000000:=aw.sum _;have az:=yh X;clear X af aC ak;have aH:=cell_of_one U.o;go_wp2_with fail;refine yM (XKa _ _ _ F _ (Vqa U) aw) fun w6 ar=>?_;have ao:=U.below ar;clear ar U aH;have ad:=yh (show ∀q,q=max 0 (-Zz F)→Z4 F d 4 q=ZF l d p from fun q hq=>by rw[hq,HL.out,←ay.out,←az.out]);go_wp2_with fail
   all_goals
    refine(X6a w _ _ d F _ _ _ _ _ 4 _ ao hd (.of (by omega) (by omega)) (.of (by omega) (by omega)) (by omega)).mono ?_;rintro e w7 ⟨rfl,A7,n7,aA,aL,ag⟩
    have V:Puts w w2.heap.size w.heap.size d (ZF l d p) w7 A7 n7 aA aL:=by
     first
      | (rw[←ad.out 0 (by omega)];exact ag)
      | (rw[←ad.out (-Zz F) (by omega)];exact ag)
    have aS:=cell_of_one V.o;have aD:=V.len;have au:=Vqa V;have aF:=au.len;have ai:=V.b
    have aG:n7≤1000000:=by omega
    have hW:=Yra _ _ _ (ZF l d p) none 0 0 [] w7 au (Sl.nil _ _ _ _) aG (by omega);rw[List.append_nil,←HE.out]at hW;have HW:=yh hW;clear hW aF aD ag V ao ad;go_wp2_with fail;refine HW.mono ?_;rintro e w9 ⟨v,xs,rfl,I,aB⟩;go_wp2_with fail;go_ret2;exact⟨_,_,rfl,I.mono Qb ai.size,ai.trans (aB.mono ai.size)⟩
 ·have aW:(r !=0)=true:=by simpa using hr0
  have aX:(r==0)=false:=by simpa using hr0
  have O:ra=r:=by rw[J];unfold VV;rw[M3 (by rw[←hr];exact hr0)];exact hr.symm
  subst O;have HR:=yh hr0;clear hr J hr0 ac;go_enter func185,ntmps185;go_wp2_with (go_at_call 182;refine Z.mono ?_;rintro e w' ⟨rfl,E⟩);go_ret2;exact⟨_,_,rfl,by rw[Yu HR.out];exact Own.nil _ _ _ _ _,D.trans (E.mono D.size)⟩
def UK (k:Int) (x:Int):Bool:=k==0 || x==k
def Zn (l:List Entry) (k:Int):Int:=ZO (UK k) l
theorem VJ (l:List Entry):Zn l 0=Zz l:=by unfold Zn Zz;congr 1
theorem Sl.takeTo {α:Type}{c:Cod α}{size:Nat}{w:World}{S:Nat→Prop}{A:Option Addr}{n cap:Nat}{l:List α}(h:Sl c size w S A n cap l){i:Nat}(F:i≤n):Sl c size w S A i cap (l.take i):=by
 have:=h.len;have:=h.le;refine⟨by rw[J8];omega,by omega,h.max,fun j x I=>?_⟩
 have E:j<i:=by
  rcases Nat.lt_or_ge j i with D|D
  ·exact D
  ·rw[List.getElem?_eq_none (by rw[J8];omega)]at I;cases I
 rw[List.getElem?_take,M3 E]at I;exact h.rd j x I
theorem Vo (A:Option Addr)(n cap:Nat)(l:List Entry)(q:Int)(w:World)(h:Sl Qm 3 w All A n cap l)(O:Small l) :
  Calls prog 133 #[.slice A n cap,.int .i64 q] w fun e w'=>e=.returned (.int .i64 (Zn l q))∧w=w':=by
 have aa:=h.bd;go_enter func133,ntmps133;go_wp2_with fail
 go_loopg [5,6] n (fun gk s i wr=>∃k:Nat,k≤n∧n-k≤gk∧i=.int .i64 k∧s=.int .i64 (Zn (l.take k) q)∧wr=w)
 case atStart=>exact⟨0,M0 _,by omega,rfl,rfl,rfl⟩
 case round=>
  obtain⟨k,hk,ab,rfl,rfl,rfl⟩:=hrel;by_cases hlt:k<n
  ·obtain⟨b,ac,x,X,Y,Z,rfl,F,⟨I,U,V,W⟩,g0,g1,g2⟩:=h.at3 hlt;simp only[List.cons.injEq,and_true]at I;obtain⟨rfl,rfl,rfl⟩:=I;have s1 : -10000000000000≤Zn (l.take k) q∧Zn (l.take k) q≤10000000000000:=O.take k (UK q)
   have D:Hid (Zn (l.take (k+1)) q=Zn (l.take k) q+if UK q x.kind then x.amount else 0):=by
    have:=QMa (UK q) (l.take k) x;rw[←Qo F]at this;exact this
   have s3:=O.2 x (J6 F);clear F;by_cases hq:q=0
   ·subst hq;go_wp2_with fail;go_roundg (n-(k+1))
    case measure=>omega
    case rel=>exact⟨k+1,by omega,by omega,by go_num,by rw[D.out];rfl,rfl⟩
   ·have J:(q==0)=false:=by simpa using hq
    by_cases hkd:x.kind=q
    ·have E:(x.kind==q)=true:=by simpa using hkd
     have HB:Hid (UK q x.kind=true):=by show UK q x.kind=true;unfold UK;rw[J,E];rfl
     clear hkd;go_wp2_with fail;go_roundg (n-(k+1))
     case measure=>omega
     case rel=>exact⟨k+1,by omega,by omega,by go_num,by rw[D.out,HB.out];rfl,rfl⟩
    ·have E:(x.kind==q)=false:=by simpa using hkd
     have HB:Hid (UK q x.kind=false):=by show UK q x.kind=false;unfold UK;rw[J,E];rfl
     clear hkd;go_wp2_with fail;go_roundg (n-(k+1))
     case measure=>omega
     case rel=>exact⟨k+1,by omega,by omega,by go_num,by rw[D.out,HB.out];simp,rfl⟩
  ·obtain rfl:k=n:=by omega
   have Q:=yh (M1 (Nat.le_of_eq h.len));go_wp2_with fail;go_ret;exact⟨ZN (by rw[Q.out]),rfl⟩
theorem YJa:Tryz.prog.underlying 140=some (.struct (Tryz.prog.fieldsOf 140)):=by kernel_rfl
theorem YIa:Tryz.prog.stoodInHeld 140=false:=by kernel_rfl
theorem YHa:Tryz.prog.eqGuardType Tryz.prog.depth 140=false:=by kernel_rfl
theorem Vdb (a b c d e f:Int)(w:World):(binOp .neq 140 (.agg #[.int .i64 a,.int .i64 b,.int .i64 c]) (.agg #[.int .i64 d,.int .i64 e,.int .i64 f])).run prog w=.ok (.bool (!(a==d && b==e && c==f))) w:=by
 have u3:=underlying3;have A:=Tryz.isAgg3;have D:=Tryz.sizeOf3;rw[run_neq_struct,run_equalIn_agg (P:=prog) w 9999 140 _ _ YJa YIa];simp only[Program.fieldsOf,underlying140];go_simp;by_cases h1:a=d<;>by_cases h2:b=e<;>by_cases h3:c=f<;>simp[h1,h2,h3]
theorem Xfb {x y:Entry}(h:¬x=y):(!(x.day==y.day && x.kind==y.kind && x.amount==y.amount))=true:=by
 rcases x with⟨a,b,c⟩;rcases y with⟨d,e,f⟩;simp at h ⊢;omega
theorem VKa (A B:Option Addr)(n cap m Q:Nat)(l l2:List Entry)(w:World)(h:Sl Qm 3 w All A n cap l)(U:Sl Qm 3 w All B m Q l2) :
  Calls prog 48 #[.slice A n cap,.slice B m Q] w fun e w'=>e=.returned (.bool (decide (l=l2)))∧∃q,w'=w.drewN q:=by
 have ag:=h.bd;have X:=yh h.len;have Y:=yh U.len;by_cases hnm:n=m
 ·subst hnm;go_enter func48,ntmps48;go_wp2_with fail
  go_loopg [5] n (fun gk i wr=>∃k q:Nat,k≤n∧n-k≤gk∧i=.int .i64 k∧Aside (∀j,j<k→l[j]? = l2[j]?)∧wr=w.drewN q)
  case atStart=>exact⟨0,0,M0 _,by omega,rfl,fun j D=>absurd D (by omega),rfl⟩
  case round=>
   obtain⟨k,q,hk,ah,rfl,J,rfl⟩:=hrel;by_cases hlt:k<n
   ·obtain⟨b,aj,x,c0,c1,c2,rfl,Z,⟨V,b0,b1,b2⟩,g0,g1,g2⟩:=h.at3 hlt;simp only[List.cons.injEq,and_true]at V;obtain⟨rfl,rfl,rfl⟩:=V;obtain⟨b',ak,y,d0,d1,d2,rfl,hy,⟨W,aa,ab,ac⟩,ad,ae,af⟩:=U.at3 hlt;simp only[List.cons.injEq,and_true]at W;obtain⟨rfl,rfl,rfl⟩:=W;have O:=yh Z;have I:=yh hy;clear Z hy;have q1:=YHa;have q2:=Vdb;by_cases hxy:x=y
    ·have he:(!(x.day==y.day && x.kind==y.kind && x.amount==y.amount))=false:=by subst hxy;simp
     have F:=yh hxy;clear hxy;go_wp2_with fail;go_quiet (fail);go_wp2_with fail;go_roundg (n-(k+1))
     case measure=>omega
     case rel=>
      refine⟨k+1,_,by omega,by omega,by go_num,(show Aside _ from fun j D=>?_),rfl⟩;by_cases e:j=k
      ·subst e;rw[O.out,I.out,F.out]
      ·exact J j (by omega)
    ·have he:(!(x.day==y.day && x.kind==y.kind && x.amount==y.amount))=true:=by
      exact Xfb hxy
     have F:=yh hxy;clear hxy;go_wp2_with fail;go_quiet (fail);go_wp2_with fail;go_ret;refine⟨Ux ?_,_,World.drewN_drewN _ _ _⟩
     symm
     rw[decide_eq_false_iff_not];intro am;subst am;rw[O.out]at I;exact F (by have:=I.out;injection this)
   ·obtain rfl:k=n:=by omega
    have am:l=l2:=by
     apply List.ext_getElem?;intro j;by_cases D:j<k
     ·exact J j D
     ·rw[List.getElem?_eq_none (by rw[X.out];omega),List.getElem?_eq_none (by rw[Y.out];omega)]
    have E:=yh am;clear am;go_wp2_with fail;go_ret;exact⟨Ux (by rw[J2 E.out]),_,rfl⟩
 ·have ai:((n:Int) !=(m:Int))=true:=by simp;omega
  have am:¬l=l2:=fun e=>hnm (by rw[←X.out,←Y.out,e]);have E:=yh am;clear am hnm;go_enter func48,ntmps48;go_wp2_with fail;go_ret;exact⟨Ux (by rw[J3 E.out]),0,rfl⟩
theorem Xeb {x:Entry}(h:x.kind<1∨4<x.kind):Zq x=7:=M3 h
theorem Xcb {x:Entry}(h:¬(x.kind<1∨4<x.kind))(A:x.day<0∨9999<x.day∨x.amount < -100000000∨100000000<x.amount):Zq x=3:=by
 unfold Zq;rw[M2 h,M3 A]
theorem Xdb {x:Entry}(h:¬(x.kind<1∨4<x.kind))(A:¬(x.day<0∨9999<x.day∨x.amount < -100000000∨100000000<x.amount))
  (D:x.amount<0∧(x.kind=1∨x.kind=3)∨0<x.amount∧x.kind=2):Zq x=4:=by
 unfold Zq;rw[M2 h,M2 A,M3 D]
theorem Xbb {x:Entry}(h:¬(x.kind<1∨4<x.kind))(A:¬(x.day<0∨9999<x.day∨x.amount < -100000000∨100000000<x.amount))
  (D:¬(x.amount<0∧(x.kind=1∨x.kind=3)∨0<x.amount∧x.kind=2)):Zq x=0:=by
 unfold Zq;rw[M2 h,M2 A,M2 D]
theorem Xg (A:Option Addr)(n cap:Nat)(l:List Entry)(w:World)(h:Sl Qm 3 w All A n cap l) :
  Calls prog 148 #[.slice A n cap] w fun e w'=>e=.returned (.int .i64 (Qe l))∧yw w w':=by
 have aq:=h.bd;have F:=yh h.len;by_cases hn:12<n
 ·have am:(12:Int)<(n:Int):=by omega
  go_enter func148,ntmps148;go_wp2_with fail;go_ret;exact⟨ZN (by unfold Qe;rw[F.out,M3 hn]),J4 _ _⟩
 ·have am:¬(12:Int)<(n:Int):=by omega
  go_enter func148,ntmps148;go_wp2_with fail
  go_loopg [3] n (fun gk i wr=>∃k:Nat,k≤n∧n-k≤gk∧i=.int .i64 k∧Aside (Qq (Zs l) k=0)∧yw w wr)
  case atStart=>exact⟨0,M0 _,by omega,rfl,rfl,J4 _ _⟩
  case round=>
   obtain⟨k,hk,ay,rfl,J,D⟩:=hrel;by_cases hlt:k<n
   ·obtain⟨b,ap,x,c0,E,I,rfl,Y,⟨X,b0,b1,b2⟩,g0,g1,g2⟩:=(h.below Qb (by omega) D).at3 hlt;simp only[List.cons.injEq,and_true]at X;obtain⟨rfl,rfl,rfl⟩:=X;have HX:=yh Y;have ac:=D.alloc D.size (.cells #[.int .i64 x.day,.int .i64 x.kind,.int .i64 x.amount] 140)
    have fin:∀r:Int,Zs l k=r→r≠0→r=Qe l:=fun r h1 h2=>by
     unfold Qe;rw[F.out,M2 hn];have:=U5 (n:=n) J (by rw[h1];exact h2) hlt;rw[this,h1,M3 h2]
    have Q:=yh fin
    have ag:(∀y,l[k-1]? = some y→0<k→Zq x=0→Zs l k=if x.day<y.day then 4 else 0):=fun y O h0 U=>by
     unfold Zs;rw[HX.out,Option.getD_some,U,M2 (by simp),O,Option.getD_some];by_cases e:x.day<y.day
     ·rw[M3 ⟨h0,e⟩,M3 e]
     ·rw[M2 (fun h=>e h.2),M2 e]
    have ah:k=0→Zq x=0→Zs l k=0:=fun h0 U=>by
     unfold Zs;rw[HX.out,Option.getD_some,U,M2 (by simp),M2 (by omega)]
    have ai:Zq x≠0→Zs l k=Zq x:=fun U=>by
     unfold Zs;rw[HX.out,Option.getD_some,M3 U]
    have ad:=yh ag;have al:=yh ah;have V:=yh ai;clear fin ag ah ai Y;by_cases E:x.kind<1∨4<x.kind
    ·have HZ:=yh (Xeb E);have t1:=QM E;clear E;go_wp2_with (go_at_call 70;refine(Qj _ _ _ _).mono ?_;rintro e w' ⟨rfl,rfl⟩)
     all_goals
      go_ret;exact⟨ZN (Q.out 7 ((V (by rw[HZ.out];omega)).trans HZ) (by omega)),ac⟩
    ·have t1:Qc x.kind 1 4=true:=Zg (by omega) (by omega);by_cases I:x.day<0∨9999<x.day∨x.amount < -100000000∨100000000<x.amount
     ·have HZ:=yh (Xcb E I);by_cases c2d:x.day<0∨9999<x.day
      ·have t2:=QM c2d;clear E I c2d;go_wp2_with (go_at_call 70;refine(Qj _ _ _ _).mono ?_;rintro e w' ⟨rfl,rfl⟩)
       all_goals
        go_ret;exact⟨ZN (Q.out 3 ((V (by rw[HZ.out];omega)).trans HZ) (by omega)),ac⟩
      ·have t2:Qc x.day 0 9999=true:=Zg (by omega) (by omega);have t3:Qc x.amount (-100000000) 100000000=false:=QM (by omega);clear E I c2d;go_wp2_with (go_at_call 70;refine(Qj _ _ _ _).mono ?_;rintro e w' ⟨rfl,rfl⟩)
       all_goals
        go_ret;exact⟨ZN (Q.out 3 ((V (by rw[HZ.out];omega)).trans HZ) (by omega)),ac⟩
     ·have t2:Qc x.day 0 9999=true:=Zg (by omega) (by omega);have t3:Qc x.amount (-100000000) 100000000=true:=Zg (by omega) (by omega);by_cases c3:x.amount<0∧(x.kind=1∨x.kind=3)∨0<x.amount∧x.kind=2
      ·have HZ:=yh (Xdb E I c3);go_wp2_with (go_at_call 70;refine(Qj _ _ _ _).mono ?_;rintro e w' ⟨rfl,rfl⟩)
       all_goals
        go_ret;exact⟨ZN (Q.out 4 ((V (by rw[HZ.out];omega)).trans HZ) (by omega)),D.alloc D.size _⟩
      ·have HZ:=yh (Xbb E I c3);rcases k with _|k
       ·simp only[Nat.zero_mul,Nat.add_zero]at g0 g1 g2;go_wp2_with (go_at_call 70;refine(Qj _ _ _ _).mono ?_;rintro e w' ⟨rfl,rfl⟩)
        all_goals
         go_quiet (fail);go_wp2_with fail;go_roundg (n-1)
         case measure=>omega
         case rel=>exact⟨1,by omega,by omega,rfl,(show Aside _ from(Za J).trans (al (by trivial) HZ)),below_drewN (D.alloc D.size _) _⟩
       ·obtain⟨b2,aA,y,d0,d1,d2,ab,O,⟨af,y0,y1,y2⟩,e0,e1,e2⟩:=(h.below Qb (by omega) D).at3 (show k<n by omega);injection ab with ab;injection ab with hb2 ho2 _;subst hb2 ho2;simp only[List.cons.injEq,and_true]at af;obtain⟨rfl,rfl,rfl⟩:=af;have Hy:=yh O;have ar:b<wr.heap.size:=ZT e0;clear O e1 e2;have hw:IntKind.i64.wrap (k:Int)=k:=IntWalk.i64_in _ (by omega);have az:decide ((0:Int)<(k:Int)+1)=true:=J2 (by omega);by_cases hd:x.day<y.day
        ·go_wp2_with (go_at_call 70;refine(Qj _ _ _ _).mono ?_;rintro e w' ⟨rfl,rfl⟩)
         all_goals
          go_quiet (fail);go_wp2_with fail;go_ret;exact⟨ZN (Q.out 4 (by rw[ad.out y (by simpa using Hy.out) (by omega) HZ.out,M3 hd]) (by omega)),below_drewN (D.alloc D.size _) _⟩
        ·go_wp2_with (go_at_call 70;refine(Qj _ _ _ _).mono ?_;rintro e w' ⟨rfl,rfl⟩)
         all_goals
          go_quiet (fail);go_wp2_with fail;go_roundg (n-(k+1+1))
          case measure=>omega
          case rel=>exact⟨k+1+1,by omega,by omega,by go_num,(show Aside _ from(Za J).trans (by rw[ad.out y (by simpa using Hy.out) (by omega) HZ.out,M2 (by omega)])),below_drewN (D.alloc D.size _) _⟩
   ·obtain rfl:k=n:=by omega
    have ak:=Xw (l:=l) (by rw[F.out];omega) (by rw[F.out];exact J);have av:=h.le;go_wp2_with fail
    go_loopg [5] k (fun gk i wr=>∃j:Nat,j≤k∧k-j≤gk∧i=.int .i64 ((j:Int)+1)∧Aside (Qq (U2 l) j=0)∧yw w wr)
    case atStart=>exact⟨0,M0 _,by omega,rfl,rfl,D⟩
    case round=>
     obtain⟨j,hj,ax,rfl,Z,W⟩:=hrel;by_cases hlt2:j<k
     ·obtain⟨b,ap,x,c0,E,I,rfl,Y,⟨X,b0,b1,b2⟩,g0,g1,g2⟩:=h.at3 hlt2;clear X b0 b1 b2 g0 g1 g2 Y
      have au:j+1≤cap:=by omega
      have ao:=(h.below Qb (by omega) W).takeTo (i:=j+1) (by omega);have an:Small (l.take (j+1)):=⟨by rw[J8];have:=ak.1;omega,fun y O=>ak.2 y (List.mem_of_mem_take O)⟩;go_wp2_with fail;refine yN (Vo _ _ _ (l.take (j+1)) 0 _ ao an) ?_;have ae:=Qj (Zn (l.take (j+1)) 0) (-100000000) 100000000 wr
      have aj:U2 l j=if Qc (Zn (l.take (j+1)) 0) (-100000000) 100000000 then 0 else 3:=by unfold U2;rw[VJ];rfl
      generalize Qc (Zn (l.take (j+1)) 0) (-100000000) 100000000=bb at *
      have HB:=yh ae;have aa:=yh aj;clear ae aj;cases bb
      ·go_wp2_with (go_at_call 70;refine HB.mono ?_;rintro e w' ⟨rfl,rfl⟩);go_ret;exact⟨ZN (by rw[UW (by rw[F.out];exact hn) (by rw[F.out];exact J.out),F.out,U5 Z.out (by rw[aa.out];decide) hlt2,aa.out];rfl),W⟩
      ·go_wp2_with (go_at_call 70;refine HB.mono ?_;rintro e w' ⟨rfl,rfl⟩);go_roundg (k-(j+1))
       case measure=>omega
       case rel=>exact⟨j+1,by omega,by omega,by go_num,(show Aside _ from(Za Z).trans aa),W⟩
     ·obtain rfl:j=k:=by omega
      have aw:¬((j:Int)+1≤(j:Int)):=by omega
      go_wp2_with fail;go_ret;exact⟨ZN (by rw[UW (by rw[F.out];exact hn) (by rw[F.out];exact J.out),F.out,Z.out]),W⟩
def OwnE (w wx:World) (v:Value) (l:List Entry):Prop:=∃A n cap xs,v=.slice A n cap∧Own Qm 3 140 wx w.heap.size v l xs∧yw w wx
theorem OwnE.sl {w W:World}{A:Option Addr}{n cap:Nat}{l:List Entry}(h:OwnE w W (.slice A n cap) l):Sl Qm 3 W All A n cap l:=by
 obtain⟨I,U,O,xs,_,E,_⟩:=h;obtain⟨J,V,Q,D,F⟩:=E.sl Qb;injection D with e1 e2 e3;subst e1 e2 e3;exact F.all Qb (by omega)
theorem Xr {w wx:World}{A:Option Addr}{n cap:Nat}{l:List Entry}{d k m:Int}{U:Array Oper}{V:List Oper}{o:Oper}{a:Act}{Q:Exit→Act→World→Prop}(Z:o.guard=none)(s x:Operand)
  (ho:o.op=.call { callee:=.builtin .append,args:=#[s,x],argTypes:=#[61,61] })
  (hs:a.eval s=.slice A n cap) (hx:a.eval x=.slice (some ⟨wx.heap.size,0,none⟩) 1 1) (h:OwnE w wx (.slice A n cap) l) (hl:l.length≤1000) (X:InI d) (hk:InI k) (hm:InI m)
  (K:∀E n' F w',OwnE w w' (.slice E n' F) (l++[⟨d,k,m⟩])→wpList prog U Q V (a.put o.dst (.slice E n' F)) w') :
  wpList prog U Q (o::V) a (wx.alloc (.cells #[.int .i64 d,.int .i64 k,.int .i64 m] 140)):=by
 obtain⟨A1,n1,c1,xs,hv,aa,I⟩:=h;injection hv with e1 e2 e3;subst e1 e2 e3;have J:=aa.below Qb ((J4 wx.heap.size wx).alloc (J5 _) (.cells #[.int .i64 d,.int .i64 k,.int .i64 m] 140));have D:=I.alloc I.size (.cells #[.int .i64 d,.int .i64 k,.int .i64 m] 140);refine QC (e:=140) (bytes:=24) Z s x ho UY Qb hs J hx (Vpa wx All d k m 140 X hk hm trivial) (fun _ _ W=>W) (by omega) (by omega) D.size ?_;intro v' w' ac O Y _;obtain⟨A2,n2,ab,rfl,_⟩:=O.sl Qb;exact K _ _ _ _ ⟨_,_,_,_,rfl,O,QA D J Y D.size⟩
theorem Qoa (l:List Entry):Zn l 1+Zn l 4=QV l:=by
 induction l with
 | nil=>rfl
 | cons x l ih=>
  simp only[Zn,QV,ZO,List.filter_cons]at ih ⊢
  have A:UK 1 x.kind=(x.kind==1):=by simp[UK]
  have D:UK 4 x.kind=(x.kind==4):=by simp[UK]
  rw[A,D];unfold XT;by_cases e1:x.kind=1
  ·simp[e1];simp only[XT]at ih;omega
  ·by_cases e4:x.kind=4
   ·simp[e4];simp only[XT]at ih;omega
   ·simp[e1,e4];simp only[XT]at ih;omega
theorem XIa (A:Option Addr)(n cap:Nat)(l:List Entry)(d p:Int)(w:World)(h:Sl Qm 3 w All A n cap l)(hd:InI d)(hp:InI p)(D:Qe l=0)(aN:0≤p)(aO:p≤100000000) :
  Calls prog 236 #[.slice A n cap,.int .i64 d,.int .i64 p] w fun e w'=>∃v xs,e=.returned (.tuple #[v,.int .i64 (Qe (ZF l d p))])∧
   Own Qm 3 140 w' w.heap.size v (okL (Qe (ZF l d p)) (ZF l d p)) xs∧yw w w':=by
 obtain⟨J,ad⟩:=yE (ZF l d p);obtain⟨r,E⟩:=yE (Qe J);rw[←ad,←E];have ay:=yh ad;have az:=yh E;clear ad E;have ag:=Z7 D;have hl:=U3 D;have h1:=Xb D (UK 1);have h4:=Xb D (UK 4);rw[show ZO (UK 1) l=Zn l 1 from rfl]at h1;rw[show ZO (UK 4) l=Zn l 4 from rfl]at h4;have aq:=h.len
 have aM:n≤12:=by omega
 have U:=yh (Qoa l);have aH:=yh (XO D);have X:=yh hl;have aI:=yh aq;clear D hl aq;have am:yw w (w.alloc (.cells #[] 140)):=(J4 _ _).alloc (J5 _) _;go_enter func236,ntmps236;go_wp2_with (at_builtin;refine QC (t:=61) (e:=140) (bytes:=24) rfl (.tmp 11) (.tmp 12) rfl UY Qb rfl (Own.made w Qm 3 140 w.heap.size #[] 0 (J5 _) (by simp[maxLen]) rfl) rfl (h.below Qb (by omega) am) (fun _ _ D=>D) (by simp;omega) (by omega) (by simp) ?_;intro v1 w1 aQ ae ap _;obtain⟨A1,n1,aB,rfl,aF⟩:=ae.sl Qb);have Z:yw w w1:=QA am (Own.made w Qm 3 140 w.heap.size #[] 0 (J5 _) (by simp[maxLen]) rfl) ap (by simp);have V:OwnE w w1 (.slice A1 n1 aB) l:=⟨_,_,_,_,rfl,ae,Z⟩;clear ap aF ae;refine(Vo _ _ _ l 1 _ (h.below Qb (by omega) Z) ag).mono ?_;rintro e w2 ⟨rfl,rfl⟩;go_wp2_with fail;refine(Vo _ _ _ l 4 _ (h.below Qb (by omega) Z) ag).mono ?_;rintro e w2 ⟨rfl,rfl⟩;go_upto_if 20 with(fail);go_cut [8] (fun v Q=>OwnE w Q v (Z4 l d 4 (-QV l)))
 case first=>
  by_cases hz:Zn l 1+Zn l 4=0
  ·have ah:(Zn l 1+Zn l 4 !=0)=false:=by simp[hz]
   have Y:=yh V;have HZ:=yh (show Z4 l d 4 (-QV l)=l by unfold Z4;rw[←U.out,M3 (by omega)]);clear hz V;go_wp2_with fail;go_meet;rw[HZ.out];exact Y
  ·have ah:(Zn l 1+Zn l 4 !=0)=true:=by simpa using hz
   have HZ:=yh (show Z4 l d 4 (-QV l)=l++[⟨d,4,-(Zn l 1+Zn l 4)⟩]by unfold Z4;rw[←U.out,M2 (by omega)]);clear hz;go_wp2_with (at_builtin;refine Xr rfl (.tmp 21) (.tmp 26) rfl rfl rfl V (by have:=X.out;omega) hd (.of (by omega) (by omega)) (.of (by omega) (by omega)) ?_;intro A2 n2 ak w2 F);go_meet;rw[HZ.out];exact F
 case rest=>
  obtain⟨A2,n2,ak,aR,rfl,ar,an⟩:=hcut;have F:OwnE w wc (.slice A2 n2 ak) (Z4 l d 4 (-QV l)):=⟨_,_,_,_,rfl,ar,an⟩;have ab:=XI l d 4 (-QV l);have af:=Yx (d:=d) (k:=4) (m:=-QV l) ag.2 (by have:=U.out;omega) (by have:=U.out;omega);obtain⟨l2,ac⟩:=yE (Z4 l d 4 (-QV l));rw[←ac]at F ab af;have ax:=yh ac;have ai:=yh ab;have aA:=yh af;clear ac ab af ar an V;go_upto_if 29 with(fail);go_cut [8] (fun v Q=>OwnE w Q v (Z4 l2 d 3 p))
  case first=>
   by_cases hz:p=0
   ·have ah:(p !=0)=false:=by simp[hz]
    have Y:=yh F;have HZ:=yh (show Z4 l2 d 3 p=l2 by unfold Z4;rw[M3 hz]);clear hz F;go_wp2_with fail;go_meet;rw[HZ.out];exact Y
   ·have ah:(p !=0)=true:=by simpa using hz
    have HZ:=yh (show Z4 l2 d 3 p=l2++[⟨d,3,p⟩]by unfold Z4;rw[M2 hz]);clear hz;go_wp2_with (at_builtin;refine Xr rfl (.tmp 30) (.tmp 34) rfl rfl rfl F (by have:=X.out;have:=ai.out;omega) hd (.of (by omega) (by omega)) hp ?_;intro A3 n3 al w3 I);go_meet;rw[HZ.out];exact I
  case rest=>
   obtain⟨A3,n3,al,aS,rfl,au,ao⟩:=hcut;have I:OwnE w wc (.slice A3 n3 al) (Z4 l2 d 3 p):=⟨_,_,_,_,rfl,au,ao⟩
   have aL:(Z4 l2 d 3 p).length≤14:=by have:=XI l2 d 3 p;have:=ai.out;have:=X.out;omega
   have aw:Small (Z4 l2 d 3 p):=⟨by omega,Yx aA (by omega) (by omega)⟩;have aj:=yh (show J=Z4 (Z4 l2 d 3 p) d 4 (max 0 (-Zz (Z4 l2 d 3 p)))by rw[ay.out];unfold ZF;rw[ax.out])
   generalize Z4 l2 d 3 p=l3 at *
   have aK : -10000000000000≤Zn l3 0∧Zn l3 0≤10000000000000:=aw.sum _;have aG:=I.sl;clear au ao F;go_wp2_with fail;refine(Vo _ _ _ l3 0 _ aG aw).mono ?_;rintro e w4 ⟨rfl,rfl⟩;go_upto_if 39 with(fail);go_cut [8] (fun v Q=>OwnE w Q v J)
   case first=>
    by_cases hz:Zn l3 0<0
    ·have HZ:=yh (show J=l3++[⟨d,4,-(Zn l3 0)⟩]by rw[aj.out,←VJ];unfold Z4;rw[M2 (by omega)];congr 4;omega);go_wp2_with (at_builtin;refine Xr rfl (.tmp 40) (.tmp 45) rfl rfl rfl I (by omega) hd (.of (by omega) (by omega)) (.of (by omega) (by omega)) ?_;intro A4 n4 aJ w4 aD);go_meet;rw[HZ.out];exact aD
    ·have HZ:=yh (show J=l3 by rw[aj.out,←VJ];unfold Z4;rw[M3 (by omega)]);go_wp2_with fail;go_meet;rw[HZ.out];exact I
   case rest=>
    obtain⟨A5,n5,aC,aT,rfl,av,O⟩:=hcut;have aE:OwnE w wc (.slice A5 n5 aC) J:=⟨_,_,_,_,rfl,av,O⟩;have aa:=Xg _ _ _ _ _ aE.sl;rw[←az.out]at aa;have HK:=yh aa;clear aa I;by_cases E:r=0
    ·subst E;go_wp2_with (go_at_call 148;refine HK.mono ?_;rintro e w' ⟨rfl,W⟩);go_ret2;exact⟨_,_,rfl,av.below Qb W,O.trans (W.mono O.size)⟩
    ·have aP:(r !=0)=true:=by simpa using E
     have HR:=yh E;clear E;go_wp2_with (go_at_call 148;refine HK.mono ?_;rintro e w' ⟨rfl,W⟩);go_ret2;exact⟨_,_,rfl,by rw[Yu HR.out];exact Own.nil _ _ _ _ _,O.trans (W.mono O.size)⟩
end Go.Proofs.YtjdcokpmgionjaaGreat
