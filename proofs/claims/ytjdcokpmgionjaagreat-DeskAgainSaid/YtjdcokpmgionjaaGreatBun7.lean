/-
  Words, laws and contracts: FolioA, FolioB, FolioC, FolioD, FolioE, FolioF, FolioG, FolioH.
-/
import Derived.Test.YtjdcokpmgionjaaGreatBun0
import Derived.RangeFuncNested
import Derived.RangeFuncBound
import Derived.RangeFuncCalls
import Derived.RangeFuncLeaves
import Derived.RangeFuncFrom
import Derived.Shelf.RegionOpen
import Derived.OwnWalkIn
import Derived.TacticsInMore
import Derived.LoopNIn
import Derived.LoopIn
set_option linter.unusedSimpArgs false
set_option linter.unusedVariables false
set_option maxRecDepth 100000
set_option maxHeartbeats 20000000
namespace Go.Proofs.YtjdcokpmgionjaaGreat
open Go.RowKit Go.Shelf
structure Entry where
 day:Int
 kind:Int
 amount:Int
 deriving DecidableEq,Inhabited
def Qw:Cod Entry:=fun _ _ x cs=>cs=[.int .i64 x.day,.int .i64 x.kind,.int .i64 x.amount]∧InI x.day∧InI x.kind∧InI x.amount
theorem ZDa:VV Qw:=fun _ _ _ _ _ _ h=>h
theorem Qd:Good Qw:=.of_flat ZDa fun h u A=>by obtain⟨rfl,_⟩:=h;simp at A;rcases A with rfl | rfl | rfl<;>rfl
theorem Y6:ElemOf Tryz.prog 61 140 3 24:=.mk' Tryz.underlying61 (z:=.agg #[.int .i64 0,.int .i64 0,.int .i64 0]) (by kernel_rfl) rfl (by omega)
def Vh (n:Int):Bool:=decide (-100000000≤n) && decide (n≤100000000)
def Zj (x:Entry):Int:=
 if x.kind < 1∨4 < x.kind then 7 else
 if x.day < 0∨9999 < x.day∨x.amount < -100000000∨100000000 < x.amount then 3 else
 if x.amount < 0∧(x.kind=1∨x.kind=3)∨0 < x.amount∧x.kind=2 then 4 else 0
theorem Uwa (n:Int)(w:World):Calls Tryz.prog 229 #[.int .i64 n] w fun e w'=>e=.returned (.bool (Vh n))∧w=w':=by
 go_enter Tryz.func229,Tryz.ntmps229
 go_wp2
 all_goals go_ret
 all_goals exact⟨ZN (by simp only[Vh];simp;omega),rfl⟩
theorem UYb (d k m:Int)(w:World) :
  Calls Tryz.prog 227 #[.agg #[.int .i64 d,.int .i64 k,.int .i64 m]] w fun e w'=>e=.returned (.int .i64 (Zj ⟨d,k,m⟩))∧yw w w':=by
 go_enter Tryz.func227,Tryz.ntmps227
 go_wp2
 all_goals go_ret
 all_goals refine⟨ZH ?_,(Below.refl _ _).alloc (Nat.le_refl _) _⟩
 all_goals (try simp at *)
 all_goals unfold Zj
 all_goals dsimp only
 all_goals (repeat' split)
 all_goals omega
def ZS (p:Int→Bool) (l:List Entry):Int:=((l.filter fun x=>p x.kind).map (·.amount)).sum
def Small (l:List Entry):Prop:=l.length≤1000∧∀x∈l,-10000000000≤x.amount∧x.amount≤10000000000
theorem YHb (p:Int→Bool)(l:List Entry)(h:∀x∈l,-10000000000≤x.amount∧x.amount≤10000000000) : -10000000000*(l.length:Int)≤ZS p l∧ZS p l≤10000000000*(l.length:Int):=by
 induction l with
 | nil=>simp[ZS]
 | cons x l ih=>
  have E:=h x (by simp)
  have A:=ih fun y D=>h y (by simp[D])
  simp only[ZS,List.filter_cons]at A ⊢
  by_cases hp:p x.kind<;>simp[hp]<;>omega
theorem Qma (p:Int→Bool)(l:List Entry)(x:Entry):ZS p (l++[x])=ZS p l+if p x.kind then x.amount else 0:=by
 simp only[ZS,List.filter_append,List.map_append,List.sum_append,List.filter_cons,List.filter_nil]
 by_cases hp:p x.kind<;>simp[hp]
theorem Small.take {l:List Entry}(h:Small l)(k:Nat)(p:Int→Bool) : -10000000000000≤ZS p (l.take k)∧ZS p (l.take k)≤10000000000000:=by
 have:=YHb p (l.take k) fun x A=>h.2 x (List.mem_of_mem_take A)
 have D:(l.take k).length≤1000:=Nat.le_trans (List.length_take_le' _ _) h.1;omega
theorem Small.sum {l:List Entry}(h:Small l)(p:Int→Bool) : -10000000000000≤ZS p l∧ZS p l≤10000000000000:=by
 have:=h.take l.length p
 rwa [List.take_length]at this
theorem ZDb (A:Option Addr)(n cap:Nat)(l:List Entry)(g:Nat)(lb:Array Value)(p:Int→Bool)(w:World)(h:Sl Qw 3 w All A n cap l)(U:Small l)
  (eg:∀J w,(callFunc g J).run Tryz.prog w=.ok (.enter g J) w)
  (Q:∀(k:Int) (w:World),Calls Tryz.prog g (#[.int .i64 k]++lb) w fun e w'=>e=.returned (.bool (p k))∧w=w') :
  Calls Tryz.prog 180 #[.slice A n cap,.func (.func g) #[] lb] w fun e w'=>e=.returned (.int .i64 (ZS p l))∧yw w w':=by
 have V:=yh Q;clear Q;have aa:=h.bd
 go_enter Tryz.func180,Tryz.ntmps180
 go_wp2_with fail
 go_loopg [5,10] n (fun gk s i wr=>∃k:Nat,k≤n∧n - k≤gk∧i=.int .i64 k∧s=.int .i64 (ZS p (l.take k))∧yw w wr)
 case atStart=>exact⟨0,Nat.zero_le _,by omega,rfl,rfl,Below.refl _ _⟩
 case round=>
  obtain⟨k,hk,ab,rfl,rfl,hb⟩:=hrel
  by_cases hlt:k < n
  ·obtain⟨b,ac,x,Z,c1,c2,rfl,F,⟨O,W,X,Y⟩,g0,g1,g2⟩:=(h.below Qd (by omega) hb).at3 hlt
   simp only[List.cons.injEq,and_true]at O;obtain⟨rfl,rfl,rfl⟩:=O;have s1:=U.take k p;have I:=yh (Qma p (l.take k) x);have D:=yh (Qn F);have s3:=U.2 x (List.mem_of_getElem? F);clear F;have E:=V.out x.kind
   cases hq:p x.kind with
   | true=>
    rw[hq]at E
    go_wp2_with (go_at_fn g;refine(E _).mono ?_;rintro e w' ⟨rfl,rfl⟩)
    go_roundg (n - (k+1))
    case measure=>omega
    case rel=>exact⟨k+1,by omega,by omega,by go_num,by rw[D.out,I.out,hq];rfl,hb.alloc hb.size _⟩
   | false=>
    rw[hq]at E
    go_wp2_with (go_at_fn g;refine(E _).mono ?_;rintro e w' ⟨rfl,rfl⟩)
    go_roundg (n - (k+1))
    case measure=>omega
    case rel=>exact⟨k+1,by omega,by omega,by go_num,by rw[D.out,I.out,hq];simp,hb.alloc hb.size _⟩
  ·have:k=n:=by omega
   subst this;have D:=yh (List.take_of_length_le (Nat.le_of_eq h.len))
   go_wp2_with fail
   go_ret
   exact⟨ZH (by rw[D.out]),hb⟩
def Zka (k:Int):Bool:=k == 1 || k == 4
def Zz (l:List Entry):Int:=ZS Zka l
def ZR (l:List Entry):Int:=ZS (fun _=>true) l
theorem Y7b (k:Int)(w:World):Calls Tryz.prog 181 #[.int .i64 k] w fun e w'=>e=.returned (.bool true)∧w=w':=by
 go_enter Tryz.func181,Tryz.ntmps181
 go_wp2
 go_ret
 exact⟨rfl,rfl⟩
theorem Q0b (k:Int)(w:World):Calls Tryz.prog 230 #[.int .i64 k] w fun e w'=>e=.returned (.bool (Zka k))∧w=w':=by
 go_enter Tryz.func230,Tryz.ntmps230
 go_wp2
 all_goals go_ret
 all_goals exact⟨ZN (by simp_all [Zka]),rfl⟩
theorem VLa (A:Option Addr)(n cap:Nat)(l:List Entry)(w:World)(h:Sl Qw 3 w All A n cap l)(D:Small l) :
  Calls Tryz.prog 184 #[.slice A n cap] w fun e w'=>e=.returned (.int .i64 (Zz l))∧yw w w':=by
 go_enter Tryz.func184,Tryz.ntmps184
 go_wp2_with (go_at_call 180;refine(ZDb A n cap l 230 #[] Zka _ h D (enters_of Tryz.func230 (by kernel_rfl) rfl) (fun k w=>by simpa using Q0b k w)).mono ?_;rintro e w' ⟨rfl,E⟩)
 go_ret
 exact⟨rfl,E⟩
theorem Xpa (A:Option Addr)(n cap:Nat)(l:List Entry)(w:World)(h:Sl Qw 3 w All A n cap l)(D:Small l) :
  Calls Tryz.prog 99 #[.slice A n cap] w fun e w'=>e=.returned (.int .i64 (ZR l))∧yw w w':=by
 go_enter Tryz.func99,Tryz.ntmps99
 go_wp2_with (go_at_call 180;refine(ZDb A n cap l 181 #[] (fun _=>true) _ h D (enters_of Tryz.func181 (by kernel_rfl) rfl) (fun k w=>by simpa using Y7b k w)).mono ?_;rintro e w' ⟨rfl,E⟩)
 go_ret
 exact⟨rfl,E⟩
theorem X3 (A:Option Addr)(n cap:Nat)(l:List Entry)(w:World)(h:Sl Qw 3 w All A n cap l)(O:n≤1000000000) :
  Calls Tryz.prog 222 #[.slice A n cap] w fun e w'=>∃v xs,e=.returned v∧Own Qw 3 140 w' w.heap.size v l xs∧yw w w':=by
 have Q:=fun(W:World) (a:Option Addr)=>Lib.run_eql_slice_nil (P:=Tryz.prog) W 61 140 a n cap 0 0 Tryz.underlying61
 rcases A with _ | a
 ·have F:l=[]:=by
   rcases l with _ | ⟨x,l⟩
   ·rfl
   ·obtain⟨b,U,J,X,_⟩:=h.rd 0 x rfl
    cases X
  subst F
  go_enter Tryz.func222,Tryz.ntmps222
  go_wp2
  go_ret
  exact⟨_,_,rfl,Own.nil _ _ _ _ _,Below.refl _ _⟩
 ·go_enter Tryz.func222,Tryz.ntmps222
  go_wp2_with (at_builtin;refine QC (t:=61) (e:=140) (bytes:=24) rfl (.tmp 5) (.tmp 6) rfl Y6 Qd rfl (Own.made w Qw 3 140 w.heap.size #[] 0 (Nat.le_refl _) (by simp[maxLen]) rfl) rfl (h.below Qd (by omega) ((Below.refl _ _).alloc (Nat.le_refl _) _)) (fun _ _ D=>D) (by simp;omega) (by omega) (by simp) ?_;intro v' w' V I E _)
  go_ret
  exact⟨_,_,rfl,I,QP (Below.alloc (Below.refl _ _) (Nat.le_refl _) _) (Own.made w Qw 3 140 w.heap.size #[] 0 (Nat.le_refl _) (by simp[maxLen]) rfl) E (by simp)⟩
attribute [local go_sem] Oper.semAt_some
def ZRa (l:List Entry) (k:Nat):List Int:=(List.range k).map fun j=>ZR (l.take (j+1))
theorem Zoa (l:List Entry)(k:Nat):ZRa l (k+1)=ZRa l k++[ZR (l.take (k+1))]:=by simp[ZRa,List.range_succ]
theorem YYa (l:List Entry)(k:Nat):(ZRa l k).length=k:=by simp[ZRa]
theorem QQb (l:List Entry)(x:Entry):ZR (l++[x])=ZR l+x.amount:=by simp[ZR,Qma]
theorem YKb (A:Option Addr)(n cap:Nat)(w:World) :
  Calls Tryz.prog 228 #[.slice A n cap] w fun e w'=>e=.returned (.func (.func 247) #[] #[.pointer (some ⟨w.heap.size,0,none⟩)])∧w.alloc (.cells #[.slice A n cap] 61)=w':=by
 go_enter Tryz.func228,Tryz.ntmps228
 go_wp2
 go_ret
 exact⟨rfl,rfl⟩
theorem YJb (F:Fence)(m:Nat)(hF:F.fn 247)(af:F.round=none)(hm:1≤m)(l U n₀:Nat)(A:Option Addr)(n cap:Nat)(es:List Entry)(hs:Small es)(J Jx:List Int→World→Prop)
  (W:World) (ae:n₀≤W.heap.size) (hJ:AbidesFrom W.heap.size J)
  (hY:∀D x W1,J D W1→D.length < n→YieldAt F (m - 1) Tryz.prog l #[.int .i64 x] W1 fun e E=>
   (e=.returned (.bool true)∧J (D++[x]) E∧Below n₀ W1 E)∨(e=.returned (.bool false)∧Jx (D++[x]) E))
  (ai:yJ W U 0 A n cap) (Y:Sl Qw 3 W (fun b=>b < n₀) A n cap es) (h0:J [] W) :
  CallsIn F m Tryz.prog 247 #[.func (.yield l) #[] #[],.pointer (some ⟨U,0,none⟩)] W fun e E=>(∃v,e=.returned v)∧
   ((∃ys,ys=ZRa es n∧J ys E)∨(∃D,(∃k,k < n∧D=ZRa es (k+1))∧Jx D E)):=by
 have aj:=Y.bd;refine callsIn_of_wp Tryz.func247 rfl hF ?_ af;simp only[Tryz.ntmps247,List.size_toArray,List.length_cons,List.length_nil,Nat.reduceAdd,Nat.reduceSub,Array.replicate_succ,Array.replicate_zero,List.push_toArray,List.append_toArray,List.nil_append,List.cons_append]
 gi_wp2
 gi_loopw [3,8] (fun s i wr=>∃k:Nat,k≤n∧i=.int .i64 k∧s=.int .i64 (ZR (es.take k))∧J (ZRa es k) wr∧Below n₀ W wr)
  (fun _ i _=>n - (intOf i).toNat)
 case atStart=>exact⟨0,Nat.zero_le _,rfl,rfl,h0,Below.refl _ _⟩
 case round=>
  obtain⟨k,hk,rfl,rfl,X,O⟩:=hrel
  by_cases hlt:k < n
  ·obtain⟨b,ak,x,c0,c1,c2,rfl,Q,⟨Z,b0,b1,b2⟩,g0,g1,g2⟩:=(Y.keep (w':=wr) (S':=All) Qd (by omega) (fun b hS hl=>⟨O.block b hS,trivial⟩)).at3 hlt
   simp only[List.cons.injEq,and_true]at Z;obtain⟨rfl,rfl,rfl⟩:=Z;have aa:J (ZRa es k) (wr.alloc (.cells #[.int .i64 x.day,.int .i64 x.kind,.int .i64 x.amount] 140)):=hJ _ wr _ none X (World.grownBy_alloc _ _ _) (by simp);have I:=yh ((congrArg ZR (Qn Q)).trans (QQb (es.take k) x));have s1:=hs.take k (fun _=>true);have al : -10000000000000≤ZR (es.take k)∧ZR (es.take k)≤10000000000000:=s1;have s3:=hs.2 x (List.mem_of_getElem? Q);have V:=yh (Zoa es k);obtain⟨fn,am,ag,ah,hy,hR⟩:=hY _ (ZR (es.take k)+x.amount) _ aa (by rw[YYa];exact hlt);clear Q s1
   gi_wp2
   refine hR.mono ?_;rintro e W3 (⟨rfl,ab,ad⟩ | ⟨rfl,ac⟩)
   ·gi_wp2
    go_roundw
    case rel=>exact⟨k+1,by omega,by simp,by rw[I.out],by rw[V.out,I.out];exact ab,(O.alloc (Nat.le_trans ae O.size) _).trans ad⟩
    case measure=>simp[intOf];omega
   ·gi_wp2
    refine bodyPost_ret (results_none rfl _ _ _) rfl ?_;exact⟨⟨_,rfl⟩,.inr ⟨_,⟨k,hlt,rfl⟩,by rw[V.out,I.out];exact ac⟩⟩
  ·obtain rfl:k=n:=by omega
   gi_wp2
   go_end0
   exact⟨⟨_,rfl⟩,.inl ⟨_,rfl,X⟩⟩
theorem Ztb (F:Fence)(m:Nat)(hF:F.fn 247)(ab:F.round=none)(Z:1≤m)(Bs E:Nat)(A:Option Addr)(n cap:Nat)(D:List Entry)(hs:Small D)(w:World)(aa:E≤w.heap.size)
  (I:yJ w Bs 0 A n cap) (hc:Sl Qw 3 w (fun b=>b < E) A n cap D) :
  SeqStopsK F m Tryz.prog 247 #[.pointer (some ⟨Bs,0,none⟩)] (fun x:Int=>#[Value.int .i64 x]) (Below E) (fun ys=>ys=ZRa D n) (fun ac=>∃k,k < n∧ac=ZRa D (k+1)) n w:=fun l J Jx W hW Q _ V O=>by
 have Y:Bs < w.heap.size:=Ub I
 exact YJb F m hF ab Z l Bs E A n cap D hs J Jx W (Nat.le_trans aa hW.size) Q V ((hW.cell (p:=⟨Bs,0,none⟩) Y).trans I)
  (hc.keep Qd (by omega) (fun b U X=>⟨hW.block b X,U⟩)) O
end Go.Proofs.YtjdcokpmgionjaaGreat
namespace Go.Proofs.YtjdcokpmgionjaaGreat
open Go.RowKit Go.Shelf
attribute [local go_sem] Oper.semAt_some
def Zk (l:List Entry) (i:Nat):Int:=
 if Zj (l[i]?.getD default)≠0 then Zj (l[i]?.getD default)else
 if 0 < i∧(l[i]?.getD default).day < (l[i - 1]?.getD default).day then 4 else 0
def Uz (l:List Entry) (i:Nat):Int:=if Vh (ZR (l.take (i+1)))then 0 else 3
def Qe (l:List Entry):Int:=
 if 12 < l.length then 2 else
 if Qo (Zk l) l.length≠0 then Qo (Zk l) l.length else Qo (Uz l) l.length
theorem Yn {F:Fence}{n:Nat}{P:Program}{A:Func}{R:Ending→World→Prop}{a:Act}{w:World}{v:Value}(D:a.defers=[])(E:(results A a.tmps).run P w=.ok v w)(h:R (.returned v) w) :
  bodyPostM F n P A R .ret a w:=by
 show LeavesInM F n P A a.tmps R a.defers .returning w
 rw[D];exact⟨v,E,h⟩
theorem QGb (w:World)(v:Value)(t:TypeId):(w.alloc (.cells #[v] t)).cell? ⟨w.heap.size,0,none⟩=some v∧(w.alloc (.cells #[v] t)).frozen? ⟨w.heap.size,0,none⟩=false:=by
 constructor<;>simp
theorem Xg {x:Entry}(h:Zj x=0) : -100000000≤x.amount∧x.amount≤100000000:=by
 unfold Zj at h
 by_cases h1:x.kind < 1∨4 < x.kind
 ·rw[if_pos h1]at h;omega
 ·rw[if_neg h1]at h
  by_cases h2:x.day < 0∨9999 < x.day∨x.amount < -100000000∨100000000 < x.amount
  ·rw[if_pos h2]at h;omega
  ·omega
theorem VI {l:List Entry}(I:l.length≤12)(h:Qo (Zk l) l.length=0):Small l:=by
 refine⟨by omega,fun x F=>?_⟩;obtain⟨i,A,rfl⟩:=List.getElem_of_mem F
 have E:∀n,Qo (Zk l) n=0→∀i,i < n→Zk l i=0:=by
  intro n
  induction n with
  | zero=>intro _ i A;omega
  | succ n ih=>
   intro h i A;simp only[Qo]at h
   by_cases e:Qo (Zk l) n=0
   ·rw[if_pos e]at h
    by_cases e2:i=n
    ·rw[e2];exact h
    ·exact ih e i (by omega)
   ·rw[if_neg e]at h;exact absurd h e
 have D:=E _ h i A
 have:Zj (l[i]?.getD default)=0:=by
  unfold Zk at D
  by_cases e:Zj (l[i]?.getD default)=0
  ·exact e
  ·rw[if_pos e]at D;exact D
 rw[List.getElem?_eq_getElem A,Option.getD_some]at this;have:=Xg this;omega
theorem Sl.lastBlock {w:World}{A:Option Addr}{n cap:Nat}{l:List Entry}(h:Sl Qw 3 w All A n cap l):Sl Qw 3 w (fun b=>b < w.heap.size) A n cap l:=
 h.keep Qd (by omega) fun _ _ D=>⟨rfl,D⟩
theorem Utb (l:List Entry):∀k,(∀s∈ZRa l k,Vh s=true)→Qo (Uz l) k=0:=by
 intro k
 induction k with
 | zero=>intro _;rfl
 | succ k ih=>
  intro h;rw[Zoa]at h;rw[Q4 (ih fun s A=>h s (by simp[A]))];unfold Uz;rw[h _ (by simp)]
  rfl
theorem Uu {l:List Entry}(h:¬12 < l.length)(A:Qo (Zk l) l.length=0):Qe l=Qo (Uz l) l.length:=by
 unfold Qe;rw[if_neg h,if_neg (by rw[A];simp)]
theorem YC (A:Option Addr)(n cap:Nat)(l:List Entry)(w:World)(h:Sl Qw 3 w All A n cap l) :
  Calls Tryz.prog 182 #[.slice A n cap] w fun e w'=>e=.returned (.int .i64 (Qe l))∧yw w w':=by
 have aD:=h.bd;have aK:=yh h.len;refine callsIn_wide.1 (callsIn_of_wp_marks (n:=9) Tryz.func182 rfl trivial ?_ rfl);simp only[Tryz.ntmps182,List.size_toArray,List.length_cons,List.length_nil,Nat.reduceAdd,Nat.reduceSub,Array.replicate_succ,Array.replicate_zero,List.push_toArray,List.append_toArray,List.nil_append,List.cons_append];refine wpIn_wide.2 ?_
 by_cases hn:12 < n
 ·have aA:(12:Int) < (n:Int):=by omega
  go_wp2_with fail
  refine Yn rfl (v:=.int .i64 2) (by simp[results,Tryz.f182,go_sem]) ⟨ZH ?_,?_⟩
  ·unfold Qe;rw[aK.out,if_pos hn]
  ·exact((Below.refl _ _).alloc (Nat.le_refl _) _)
 ·have aA:¬(12:Int) < (n:Int):=by omega
  go_wp2_with fail
  go_loopg [12] n (fun gk i wr=>∃k:Nat,k≤n∧n - k≤gk∧i=.int .i64 k∧Aside (Qo (Zk l) k=0)∧yw w wr∧w.heap.size < wr.heap.size∧wr.cell? ⟨w.heap.size,0,none⟩=some (.int .i64 0)∧wr.frozen? ⟨w.heap.size,0,none⟩=false)
  case atStart=>exact⟨0,Nat.zero_le _,by omega,rfl,rfl,(Below.refl _ _).alloc (Nat.le_refl _) _,by simp,by simp,by simp⟩
  case round=>
   obtain⟨k,hk,aE,rfl,F,J,ap,ac,af⟩:=hrel
   by_cases hlt:k < n
   ·obtain⟨b,aI,x,c0,c1,c2,rfl,hx,⟨hc,b0,b1,b2⟩,g0,g1,g2⟩:=(h.below Qd (by omega) J).at3 hlt
    simp only[List.cons.injEq,and_true]at hc;obtain⟨rfl,rfl,rfl⟩:=hc;have HX:=yh hx;clear hx
    go_wp2_with fail
    refine(UYb _ _ _ _).mono ?_;rintro e w1 ⟨rfl,O⟩;have Y:w1.cell? ⟨w.heap.size,0,none⟩=some (.int .i64 0):=(O.cell (p:=⟨w.heap.size,0,none⟩) (by simp;omega)).trans (by rw[World.cell?_alloc_lt (a:=⟨w.heap.size,0,none⟩) wr _ ap];exact ac);have al:w1.frozen? ⟨w.heap.size,0,none⟩=false:=(O.frozen (p:=⟨w.heap.size,0,none⟩) (by simp;omega)).trans (by rw[World.frozen?_alloc_old (a:=⟨w.heap.size,0,none⟩) wr _ (by simp;omega)];exact af);have aH:w1.cell? ⟨wr.heap.size,0,none⟩=some (.int .i64 x.day):=(O.cell (p:=⟨wr.heap.size,0,none⟩) (by simp)).trans (by simp);have aL:yw w w1:=(J.alloc J.size _).trans (O.mono (by simp;omega))
    have aq:w.heap.size < w1.heap.size:=by have:=O.size;simp at this;omega
    clear O ac af g0 g1 g2;obtain⟨r,E⟩:∃r,r=Zj x:=⟨_,rfl⟩;have HR:=yh E;have av:Zj { day:=x.day,kind:=x.kind,amount:=x.amount } = r:=E.symm;rw[av];clear E av
    have fin:∀r:Int,Zk l k=r→r≠0→r=Qe l:=fun r h1 h2=>by
     unfold Qe;rw[aK.out,if_neg hn];have:=UB (n:=n) F.out (by rw[h1];exact h2) hlt;rw[this,h1,if_pos h2]
    have ag:=yh fin;clear fin
    by_cases hr0:r=0
    ·subst hr0
     have aj:(∀y,l[k - 1]? = some y→0 < k→Zk l k=if x.day < y.day then 4 else 0):=fun y U h0=>by
      unfold Zk;rw[HX.out,Option.getD_some,←HR.out,if_neg (by simp),U,Option.getD_some]
      by_cases e:x.day < y.day
      ·rw[if_pos ⟨h0,e⟩,if_pos e]
      ·rw[if_neg (fun h=>e h.2),if_neg e]
     have ak:k=0→Zk l k=0:=fun h0=>by
      unfold Zk;rw[HX.out,Option.getD_some,←HR.out,if_neg (by simp),if_neg (by omega)]
     have ah:=yh aj;have ax:=yh ak;clear aj ak
     rcases k with _ | k
     ·go_wp2_with fail
      go_quiet (fail)
      go_wp2_with fail
      go_roundg (n - 1)
      case measure=>omega
      case rel=>exact⟨1,by omega,by omega,rfl,(show Aside _ from(Q4 F.out).trans (ax.out (by trivial))),below_drewN aL _,aq,Y,al⟩
     ·obtain⟨b2,aJ,y,d0,d1,d2,aa,U,⟨ai,y0,y1,y2⟩,e0,e1,e2⟩:=(h.below Qd (by omega) aL).at3 (show k < n by omega)
      injection aa with aa
      injection aa with hb2 ho2 _
      subst hb2 ho2;simp only[List.cons.injEq,and_true]at ai;obtain⟨rfl,rfl,rfl⟩:=ai;have Hy:=yh U;clear U e1 e2;have hw:IntKind.i64.wrap (k:Int)=k:=IntWalk.i64_in _ (by omega);have aF:decide ((0:Int) < (k:Int)+1)=true:=decide_eq_true (by omega)
      by_cases hd:x.day < y.day
      ·go_wp2_with fail
       go_quiet (fail)
       go_wp2_with fail
       refine Yn rfl (v:=.int .i64 4) (by simp[results,Tryz.f182,go_sem,World.cell?_setCell_same (w:=w1.drewN _) (h:=Y)]) ⟨ZH (ag.out _ ?_ (by omega)),?_⟩
       ·rw[ah.out y (by simpa using Hy.out) (by omega),if_pos hd]
       ·exact(below_drewN aL _).setCell (p:=⟨w.heap.size,0,none⟩) (Nat.le_refl _) _
      ·go_wp2_with fail
       go_quiet (fail)
       go_wp2_with fail
       go_roundg (n - (k+1+1))
       case measure=>omega
       case rel=>exact⟨k+1+1,by omega,by omega,by go_num,(show Aside _ from(Q4 F.out).trans (by rw[ah.out y (by simpa using Hy.out) (by omega),if_neg (by omega)])),below_drewN aL _,aq,Y,al⟩
    ·have aG:(r != 0)=true:=by simpa using hr0
     have aw:¬r=0:=hr0;clear hr0
     go_wp2_with fail
     refine Yn rfl (v:=.int .i64 r) (by simp[results,Tryz.f182,go_sem,World.cell?_setCell_same (h:=Y)]) ⟨ZH (ag.out _ ?_ aw),?_⟩
     ·unfold Zk
      rw[HX.out,Option.getD_some,←HR.out,if_pos aw]
     ·exact aL.setCell (p:=⟨w.heap.size,0,none⟩) (Nat.le_refl _) _
   ·obtain rfl:k=n:=by omega
    have aC:=VI (l:=l) (by rw[aK.out];omega) (by rw[aK.out];exact F.out);have h1:=h.lastBlock
    go_wp2_with (go_at_call 228;refine(YKb _ _ _ _).mono ?_;rintro e w' ⟨rfl,rfl⟩)
    have ay:yw w (wr.alloc (.cells #[.slice A k cap] 61)):=J.alloc J.size _;have c2:=QGb wr (.slice A k cap) 61;have aB:=(h.below Qd (by omega) J).lastBlock.keep (w':=wr.alloc (.cells #[.slice A k cap] 61)) (S':=fun b=>b < wr.heap.size) Qd (by omega) (fun b hS _=>⟨Below.heap_alloc _ _ _ hS,hS⟩);refine(wpIn_wide (n:=9)).1 ?_
    refine wpIn_rangeFunc_ownF rfl (by omega) (gf:=247) (lb:=#[.pointer (some ⟨wr.heap.size,0,none⟩)]) rfl trivial (enters_of Tryz.func247 (by kernel_rfl) rfl)
     (Ztb Fence.wide 8 trivial rfl (by omega) wr.heap.size wr.heap.size A k cap l aC _ (by simp) c2.1 aB) belowK_t (belowK_b (by simp)) (Below.refl _ _) (fun _=>rfl)
     (fun V W=>((∀s∈V,Vh s=true)∧W.cell? ⟨w.heap.size,0,none⟩=some (.int .i64 0)∧W.frozen? ⟨w.heap.size,0,none⟩=false)∧yw w W)
     (fun c V W=>(c=.ret∧(∃p s,V=p++[s]∧(∀q∈p,Vh q=true)∧Vh s=false)∧W.cell? ⟨w.heap.size,0,none⟩=some (.int .i64 3))∧yw w W)
     (OwnFrom.and (Go.Own.from (fun s A B row hs Z E=>⟨hs.1,cell_kept hs.2.1 Z E,(frozen_kept hs.2.1 Z E).trans hs.2.2⟩) _) (ownFrom_below (Nat.le_refl _) (by simp;omega)))
     (fun c=>OwnFrom.and (Go.Own.from (fun s A B row hs Z E=>⟨hs.1,hs.2.1,cell_kept hs.2.2 Z E⟩) _) (ownFrom_below (Nat.le_refl _) (by simp;omega)))
     ⟨⟨by simp,by rw[World.cell?_alloc_lt (a:=⟨w.heap.size,0,none⟩) wr _ ap];exact ac,by rw[World.frozen?_alloc_old (a:=⟨w.heap.size,0,none⟩) wr _ (by simp;omega)];exact af⟩,ay⟩
     ?a1 ?assign ?body ?done ?stop
    case assign=>
     intro l x W K hK
     gi_wp2
     exact hK
    case body=>
     rintro l V x W ⟨⟨hp,Q,am⟩,I⟩ _
     cases hq:Vh x with
     | true=>
      have X:=yh hq;clear hq
      gi_wp2_with (refine⟨trivial,?_⟩;gi_at_call 229;refine(CallsIn.inRound l (callsIn_wide.2 (Uwa _ _))).mono ?_;rintro e w' ⟨rfl,rfl⟩;rw[X.out])
      exact⟨KeepsOthers.refl _,Below.refl _ _,⟨fun y U=>(List.mem_append.1 U).elim (hp y) (fun e=>by simp at e;subst e;exact X.out),Q,am⟩,I⟩
     | false=>
      have X:=yh hq;clear hq
      gi_wp2_with (refine⟨trivial,?_⟩;gi_at_call 229;refine(CallsIn.inRound l (callsIn_wide.2 (Uwa _ _))).mono ?_;rintro e w' ⟨rfl,rfl⟩;rw[X.out])
      exact⟨KeepsOthers.setCell _ _ _,⟨rfl,⟨V,x,rfl,hp,X.out⟩,World.cell?_setCell_same _ _ _ Q⟩,I.setCell (p:=⟨w.heap.size,0,none⟩) (Nat.le_refl _) _⟩
    case done=>
     rintro D ys W hD rfl ⟨⟨ar,Q,am⟩,I⟩ hK;have HN:=yh ar;clear ar
     go_wp2_with fail
     have ab:=(KeepsOthers.setCell W ⟨w.heap.size,0,none⟩ (.int .i64 0)).same D _ hK rfl;refine⟨by simp,.inl ⟨_,_,rfl,run_takeDeferred ab,?_⟩⟩;have ad:=cell_kept (World.cell?_setCell_same (v:=.int .i64 0) (h:=Q)) (grownBy_putObj' _ D (.deferred none)) (fun r e=>by cases e;exact⟨_,ab,rfl⟩);refine⟨.int .i64 0,?_,ZH ?_,(I.setCell (p:=⟨w.heap.size,0,none⟩) (Nat.le_refl _) _).trans (belowK_b (w:=w) (Nat.le_refl _) _ D _ _ (by simp at hD;omega) ab rfl rfl)⟩
     ·simp[results,Tryz.f182,go_sem,ad]
     ·rw[Uu (by rw[aK.out];exact hn) (by rw[aK.out];exact F.out),aK.out,Utb _ _ HN.out]
    case stop=>
     rintro D c V W hD au ⟨⟨rfl,an,Q⟩,I⟩ hK;have HP:=yh au;have HI:=yh an;clear au an
     gi_wp2
     refine⟨by simp,.inl ⟨_,_,rfl,run_takeDeferred hK,?_⟩⟩;have ad:=cell_kept Q (grownBy_putObj' _ D (.deferred none)) (fun r e=>by cases e;exact⟨_,hK,rfl⟩);refine⟨.int .i64 3,?_,ZH ?_,I.trans (belowK_b (w:=w) (Nat.le_refl _) W D _ _ (by simp at hD;omega) hK rfl rfl)⟩
     ·simp[results,Tryz.f182,go_sem,ad]
     ·rw[Uu (by rw[aK.out];exact hn) (by rw[aK.out];exact F.out),aK.out]
      obtain⟨j,hj,rfl⟩:=HP.out;obtain⟨p,s,he,hp,hs⟩:=HI.out;rw[Zoa]at he;obtain⟨az,ae⟩:=List.append_inj' he rfl
      injection ae with ae
      subst az ae
      have ao:Uz l j=3:=by unfold Uz;rw[hs];rfl
      rw[UB (Utb _ _ hp) (by rw[ao];omega) hj,ao]
end Go.Proofs.YtjdcokpmgionjaaGreat
namespace Go.Proofs.YtjdcokpmgionjaaGreat
open Go.RowKit Go.Shelf
theorem Qdb (w:World)(S:Nat→Prop)(d k m:Int)(t:TypeId)(D:InI d)(E:InI k)(F:InI m)(A:S w.heap.size) :
  Sl Qw 3 (w.alloc (.cells #[.int .i64 d,.int .i64 k,.int .i64 m] t)) S (some ⟨w.heap.size,0,none⟩) 1 1 [⟨d,k,m⟩]:=
 Sl.lit1 w S t (⟨d,k,m⟩:Entry) [.int .i64 d,.int .i64 k,.int .i64 m] ⟨rfl,D,E,F⟩ A
theorem US {l:List Entry}(h:Qe l=0):l.length≤12:=by
 unfold Qe at h
 by_cases e:12 < l.length
 ·rw[if_pos e]at h;omega
 ·omega
theorem VO {l:List Entry}(h:Qe l=0):Small l:=by
 have A:=US h;refine VI A ?_;unfold Qe at h;rw[if_neg (by omega)]at h
 by_cases e:Qo (Zk l) l.length=0
 ·exact e
 ·rw[if_pos e]at h;exact absurd h e
theorem Yaa (A:Option Addr)(n cap:Nat)(l:List Entry)(B:Option Addr)(m I:Nat)(l2:List Entry)(w:World)(h:Sl Qw 3 w All A n cap l)(Y:Sl Qw 3 w All B m I l2)(hn:n≤1000000)(hm:m≤1000000) :
  Calls Tryz.prog 183 #[.slice A n cap,.slice B m I] w fun e w'=>∃v xs,e=.returned (.tuple #[v,.int .i64 (Qe (l++l2))])∧
   Own Qw 3 140 w' w.heap.size v (okL (Qe (l++l2)) (l++l2)) xs∧yw w w':=by
 have aa:=yh h.len
 have J:=fun(W:World) (A:Option Addr) (n cap:Nat)=>YC A n cap (l++l2) W
 generalize Qe (l++l2)=r at *
 have F:=yh J;clear J
 go_enter Tryz.func183,Tryz.ntmps183
 go_wp2_with fail
 refine(X3 _ _ _ l _ h (by omega)).mono ?_;rintro e w1 ⟨v1,ad,rfl,Q,af⟩
 go_wp2_with (at_builtin;refine QC (t:=61) (e:=140) (bytes:=24) rfl (.tmp 9) (.tmp 10) rfl Y6 Qd rfl Q rfl (Y.below Qd (by omega) af) (fun _ _ Z=>Z) (by rw[aa.out];omega) (by omega) af.size ?_;intro v2 w2 ae U O _;obtain⟨A2,n2,ab,rfl,V⟩:=U.sl Qd)
 have D:yw w w2:=QP af Q O af.size;have ag:=V.all Qd (by omega);clear O V af
 by_cases hr:r=0
 ·subst hr
  go_wp2_with (go_at_call 182;refine(F.out _ _ _ _ ag).mono ?_;rintro e w' ⟨rfl,E⟩)
  go_ret2
  exact⟨_,_,rfl,U.below Qd E,D.trans (E.mono D.size)⟩
 ·have ac:(r != 0)=true:=by simpa using hr
  have X:=yh hr;clear hr
  go_wp2_with (go_at_call 182;refine(F.out _ _ _ _ ag).mono ?_;rintro e w' ⟨rfl,E⟩)
  go_ret2
  exact⟨_,_,rfl,by rw[Yq X.out];exact Own.nil _ _ _ _ _,D.trans (E.mono D.size)⟩
def Qyb (l:List Entry) (x:Entry):Int:=if Qe l=0 then Qe (l++[x])else Qe l
theorem Y3b (A:Option Addr)(n cap:Nat)(l:List Entry)(d k m:Int)(w:World)(h:Sl Qw 3 w All A n cap l)(hd:InI d)(hk:InI k)(hm:InI m) :
  Calls Tryz.prog 100 #[.slice A n cap,.agg #[.int .i64 d,.int .i64 k,.int .i64 m]] w fun e w'=>∃v xs,e=.returned (.tuple #[v,.int .i64 (Qyb l ⟨d,k,m⟩)])∧
   Own Qw 3 140 w' w.heap.size v (okL (Qyb l ⟨d,k,m⟩) (l++[⟨d,k,m⟩])) xs∧yw w w':=by
 have E:yw w (w.alloc (.cells #[.int .i64 d,.int .i64 k,.int .i64 m] 140)):=(Below.refl _ _).alloc (Nat.le_refl _) _;have U:=YC A n cap l _ (h.below Qd (by omega) E);have X:=h.len;obtain⟨r,D⟩:∃r,r=Qe l:=⟨_,rfl⟩;obtain⟨O,F⟩:∃O,O=Qyb l ⟨d,k,m⟩:=⟨_,rfl⟩;rw[←D]at U;rw[←F];have V:=yh U;clear U
 by_cases hr0:r=0
 ·subst hr0
  have hl:=US D.symm
  have J:O=Qe (l++[⟨d,k,m⟩]):=by rw[F];unfold Qyb;rw[if_pos D.symm]
  have Y:=yh J
  have ac:n≤12:=by omega
  clear D F J X hl
  go_enter Tryz.func100,Tryz.ntmps100
  go_wp2_with fail
  refine V.out.mono ?_;rintro e w1 ⟨rfl,ah⟩;have ae:yI w1 w.heap.size 0 d:=(ah.cell (p:=⟨w.heap.size,0,none⟩) (by simp)).trans (by simp);have af:yI w1 w.heap.size 1 k:=(ah.cell (p:=⟨w.heap.size,1,none⟩) (by simp)).trans (by simp);have ag:yI w1 w.heap.size 2 m:=(ah.cell (p:=⟨w.heap.size,2,none⟩) (by simp)).trans (by simp);have I:yw w w1:=E.trans (ah.mono E.size);clear ah
  go_wp2_with fail
  have W:=Yaa _ _ _ l _ _ _ [⟨d,k,m⟩] _ (h.below Qd (by omega) (I.alloc I.size _)) (Qdb w1 All d k m 140 hd hk hm trivial) (by omega) (by omega);rw[←Y.out]at W;refine W.mono ?_;rintro e w2 ⟨v,xs,rfl,ab,aa⟩;have Q:=(I.alloc I.size (.cells #[.int .i64 d,.int .i64 k,.int .i64 m] 140))
  go_wp2_with fail
  go_ret2
  exact⟨_,_,rfl,ab.mono Qd Q.size,Q.trans (aa.mono Q.size)⟩
 ·have ad:(r != 0)=true:=by simpa using hr0
  have J:O=r:=by rw[F];unfold Qyb;rw[if_neg (by rw[←D];exact hr0)];exact D.symm
  subst J;have Z:=yh hr0;clear D F hr0 X
  go_enter Tryz.func100,Tryz.ntmps100
  go_wp2_with (go_at_call 182;refine V.out.mono ?_;rintro e w' ⟨rfl,ah⟩)
  go_ret2
  exact⟨_,_,rfl,by rw[Yq Z.out];exact Own.nil _ _ _ _ _,E.trans (ah.mono E.size)⟩
def XR (l:List Entry) (d k m:Int):List Entry:=if m=0 then l else l++[⟨d,k,m⟩]
def Ut (l:List Entry) (d p:Int):List Entry:=
 XR (XR (XR l d 4 (-Zz l)) d 3 p) d 4 (max 0 (-ZR (XR (XR l d 4 (-Zz l)) d 3 p)))
def Vk (l:List Entry) (d p:Int):Int:=
 if Qe l≠0 then Qe l else if p < 0∨100000000 < p then 3 else Qe (Ut l d p)
theorem YS {l:List Entry}(h:Qe l=0):∀x∈l,-100000000≤x.amount∧x.amount≤100000000:=by
 have J:=US h
 have E:Qo (Zk l) l.length=0:=by
  unfold Qe at h;rw[if_neg (by omega)]at h
  by_cases e:Qo (Zk l) l.length=0
  ·exact e
  ·rw[if_pos e]at h;exact absurd h e
 have F:∀n,Qo (Zk l) n=0→∀i,i < n→Zk l i=0:=by
  intro n
  induction n with
  | zero=>intro _ i A;omega
  | succ n ih=>
   intro h i A;simp only[Qo]at h
   by_cases e:Qo (Zk l) n=0
   ·rw[if_pos e]at h
    by_cases e2:i=n
    ·rw[e2];exact h
    ·exact ih e i (by omega)
   ·rw[if_neg e]at h;exact absurd h e
 intro x I;obtain⟨i,A,rfl⟩:=List.getElem_of_mem I;have:=F _ E i A;unfold Zk at this
 have D:Zj (l[i]?.getD default)=0:=by
  by_cases e:Zj (l[i]?.getD default)=0
  ·exact e
  ·rw[if_pos e]at this;exact this
 rw[List.getElem?_eq_getElem A,Option.getD_some]at D;exact Xg D
theorem VPb (p:Int→Bool)(l:List Entry)(h:∀x∈l,-100000000≤x.amount∧x.amount≤100000000) : -100000000*(l.length:Int)≤ZS p l∧ZS p l≤100000000*(l.length:Int):=by
 induction l with
 | nil=>simp[ZS]
 | cons x l ih=>
  have E:=h x (by simp)
  have A:=ih fun y D=>h y (by simp[D])
  simp only[ZS,List.filter_cons]at A ⊢
  by_cases hp:p x.kind<;>simp[hp]<;>omega
theorem VZa {l:List Entry}(h:Qe l=0)(p:Int→Bool) : -1200000000≤ZS p l∧ZS p l≤1200000000:=by
 have:=VPb p l (YS h);have:=US h;omega
theorem ZHa (l:List Entry)(d k m:Int):(XR l d k m).length≤l.length+1:=by
 unfold XR;split<;>simp
theorem U3a {l:List Entry}{d k m:Int}(h:∀x∈l,-10000000000≤x.amount∧x.amount≤10000000000)(D : -10000000000≤m)(E:m≤10000000000):∀x∈XR l d k m,-10000000000≤x.amount∧x.amount≤10000000000:=by
 unfold XR
 split
 ·exact h
 ·intro x A
  rcases List.mem_append.1 A with A | A
  ·exact h x A
  ·simp at A;subst A;exact⟨D,E⟩
structure Puts (w:World) (O D:Nat) (d:Int) (l:List Entry) (W:World) (A:Option Addr) (n cap:Nat) (xs:List Value):Prop where
 o:W.heap[O]? = some (.cells #[.slice A n cap] 61 (0,0))
 d:W.heap[D]? = some (.cells #[.int .i64 d] 3 (0,0))
 own:Own Qw 3 140 W w.heap.size (.slice A n cap) l xs
 ne:(Value.slice A n cap).ownBlock≠some O
 neD:(Value.slice A n cap).ownBlock≠some D
 od:O≠D
 b:yw w W
 le:w.heap.size≤O
 len:l.length≤1000
theorem XQa (w:World)(O D:Nat)(d:Int)(l:List Entry)(W:World)(A:Option Addr)(n cap:Nat)(xs:List Value)(k m:Int)(h:Puts w O D d l W A n cap xs)(hd:InI d)(hk:InI k)(hm:InI m)(V:l.length≤100) :
  Calls Tryz.prog 231 #[.int .i64 k,.int .i64 m,.pointer (some ⟨O,0,none⟩),.pointer (some ⟨D,0,none⟩)] W fun e W'=>e=.returned (.tuple #[])∧∃Z n' aa af,Puts w O D d (XR l d k m) W' Z n' aa af:=by
 have ho:=cell_of_one h.o;have aj:=free_of_one h.o;have ah:=cell_of_one h.d;have hO:=lt_of_block h.o;have hD:=lt_of_block h.d
 by_cases hm0:m=0
 ·subst hm0
  go_enter Tryz.func231,Tryz.ntmps231
  go_wp2_with fail
  go_end0
  exact⟨rfl,A,n,cap,xs,h⟩
 ·have ak:(m != 0)=true:=by simpa using hm0
  have HL:=yh V;have HP:=yh (show XR l d k m=l++[⟨d,k,m⟩]from if_neg hm0);clear hm0 V
  go_enter Tryz.func231,Tryz.ntmps231
  have ae:=h.own.below Qd ((Below.refl W.heap.size W).alloc (Nat.le_refl _) (.cells #[.int .i64 d,.int .i64 k,.int .i64 m] 140));have ac:=h.b.size
  go_wp2_with (at_builtin;refine QC (t:=61) (e:=140) (bytes:=24) rfl (.tmp 8) (.tmp 13) rfl Y6 Qd rfl ae rfl (Qdb W All d k m 140 hd hk hm trivial) (fun _ _ hc=>hc) (by have:=HL.out;omega) (by omega) (by simp;omega) ?_;intro v2 Y ag X E U;obtain⟨F,J,I,rfl,am⟩:=X.sl Qd;have an:=E.block O (by simp;omega) (fun e=>h.ne e.symm);have Q:=E.block D (by simp;omega) (fun e=>h.neD e.symm);rw[Below.heap_alloc _ _ _ hO,h.o]at an;rw[Below.heap_alloc _ _ _ hD,h.d]at Q;have al:=cell_of_one an;have ai:=free_of_one an)
  go_end0
  rw[HP.out]
  have hz:W.heap.size < Y.heap.size:=by have:=E.size;simp at this;omega
  have ab:yw w Y:=(h.b.alloc ac _).grown E (by simp;omega) (fun j hj=>(h.own.lt j hj).1)
  have ao:(Value.slice F J I).ownBlock≠some O:=by
   rcases U with e | e<;>rw[e]
   ·exact h.ne
   ·intro he;injection he with he;simp at he;omega
  have ad:(Value.slice F J I).ownBlock≠some D:=by
   rcases U with e | e<;>rw[e]
   ·exact h.neD
   ·intro he;injection he with he;simp at he;omega
  refine⟨rfl,F,J,I,ag,⟨one_setCell an,?_,QY ZDa X ao _,ao,ad,h.od,ab.setCell (p:=⟨O,0,none⟩) h.le _,h.le,?_⟩⟩
  ·exact(Below.heap_setCell _ _ _ _ (fun e=>h.od e.symm)).trans Q
  ·rw[List.length_append];have:=HL.out;simp;omega
theorem U7a {w W:World}{O D:Nat}{d:Int}{l:List Entry}{A:Option Addr}{n cap:Nat}{xs:List Value}(h:Puts w O D d l W A n cap xs):Sl Qw 3 W All A n cap l:=by
 obtain⟨E,I,F,J,Q⟩:=h.own.sl Qd
 injection J with e1 e2 e3
 subst e1 e2 e3;exact Q.all Qd (by omega)
theorem Puts.below {w W F:World}{O D:Nat}{d:Int}{l:List Entry}{A:Option Addr}{n cap:Nat}{xs:List Value}(h:Puts w O D d l W A n cap xs)(E:yw W F):Puts w O D d l F A n cap xs:=
 ⟨(E.block O (lt_of_block h.o)).trans h.o,(E.block D (lt_of_block h.d)).trans h.d,h.own.below Qd E,h.ne,h.neD,h.od,h.b.trans (E.mono h.b.size),h.le,h.len⟩
theorem Qqb (A:Option Addr)(n cap:Nat)(l:List Entry)(d p:Int)(w:World)(h:Sl Qw 3 w All A n cap l)(hd:InI d)(hp:InI p) :
  Calls Tryz.prog 185 #[.slice A n cap,.int .i64 d,.int .i64 p] w fun e w'=>∃v xs,e=.returned (.tuple #[v,.int .i64 (Vk l d p)])∧
   Own Qw 3 140 w' w.heap.size v (okL (Vk l d p) (Ut l d p)) xs∧yw w w':=by
 have E:yw w (w.alloc (.cells #[.int .i64 d] 3)):=(Below.refl _ _).alloc (Nat.le_refl _) _;have aj:=YC A n cap l _ (h.below Qd (by omega) E);have ac:=h.len;obtain⟨r,hr⟩:∃r,r=Qe l:=⟨_,rfl⟩;obtain⟨Z,J⟩:∃Z,Z=Vk l d p:=⟨_,rfl⟩;rw[←hr]at aj;rw[←J];have HK:=yh aj;clear aj
 by_cases hr0:r=0
 ·subst hr0
  have hl:=US hr.symm
  by_cases U:p < 0∨100000000 < p
  ·have Q:Z=3:=by rw[J];unfold Vk;rw[if_neg (by rw[←hr];simp),if_pos U]
   subst Q;clear hr J ac
   rcases U with U | U
   ·go_enter Tryz.func185,Tryz.ntmps185
    go_wp2_with (go_at_call 182;refine HK.out.mono ?_;rintro e w' ⟨rfl,F⟩)
    go_ret2
    exact⟨_,_,rfl,Own.nil _ _ _ _ _,E.trans (F.mono E.size)⟩
   ·have aV:¬p < 0:=by omega
    go_enter Tryz.func185,Tryz.ntmps185
    go_wp2_with (go_at_call 182;refine HK.out.mono ?_;rintro e w' ⟨rfl,F⟩)
    go_ret2
    exact⟨_,_,rfl,Own.nil _ _ _ _ _,E.trans (F.mono E.size)⟩
  ·have aT:0≤p:=by omega
   have aU:p≤100000000:=by omega
   have Q:Z=Qe (Ut l d p):=by rw[J];unfold Vk;rw[if_neg (by rw[←hr];simp),if_neg U]
   have HE:=yh Q;have aJ:=VO hr.symm;have aK:=VZa hr.symm Zka;have ap:=YS hr.symm;have HL:=yh (show Ut l d p=XR (XR (XR l d 4 (-Zz l)) d 3 p) d 4 (max 0 (-ZR (XR (XR l d 4 (-Zz l)) d 3 p)))from rfl);rw[show ZS Zka l=Zz l from rfl]at aK
   have aR:n≤12:=by omega
   have aM:=yh ac;have ax:=yh ap;have ae:=yh hl;clear hr J Q ac hl U ap
   go_enter Tryz.func185,Tryz.ntmps185
   go_wp2_with fail
   refine HK.out.mono ?_;rintro e w1 ⟨rfl,F⟩;have ab:yw w w1:=E.trans (F.mono E.size);have am:w1.heap[w.heap.size]? = some (.cells #[.int .i64 d] 3 (0,0)):=(F.block _ (by simp)).trans (heap_alloc_new w _);have aE:=lt_of_block am;clear F
   go_wp2_with fail
   refine(X3 _ _ _ l _ (h.below Qd (by omega) ab) (by omega)).mono ?_;rintro e w2 ⟨v,xs,rfl,I,aa⟩;obtain⟨A2,n2,al,rfl,aI⟩:=I.sl Qd;have ah:=ab.trans (aa.mono ab.size);have aY:=aa.size
   have hP:Puts w w2.heap.size w.heap.size d l (w2.alloc (.cells #[.slice A2 n2 al] 61)) A2 n2 al xs:=
    ⟨heap_alloc_new _ _,(Below.heap_alloc _ _ _ (by omega)).trans ((aa.block _ aE).trans am),(I.mono Qd ab.size).below Qd ((Below.refl _ _).alloc (Nat.le_refl _) _),fun e=>by have:=(I.lt _ e).2;omega,fun e=>by have:=(I.lt _ e).1;omega,by omega,ah.alloc ah.size _,by omega,by have:=ae.out;omega⟩
   clear I aa aI ah
   go_wp2_with fail
   refine(VLa _ _ _ l _ ((h.below Qd (by omega) hP.b)) aJ).mono ?_;rintro e w3 ⟨rfl,aq⟩;have an:=hP.below aq;clear hP aq
   go_wp2_with fail
   refine(XQa w _ _ d l _ _ _ _ _ 4 (-Zz l) an hd (.of (by omega) (by omega)) (.of (by omega) (by omega)) (by have:=ae.out;omega)).mono ?_;rintro e w4 ⟨rfl,A4,n4,aN,aZ,af⟩;obtain⟨O,X⟩:∃O,O=XR l d 4 (-Zz l):=⟨_,rfl⟩;rw[←X]at af
   have aC:O.length≤13:=by have:=ZHa l d 4 (-Zz l);have:=ae.out;rw[X];omega
   have av:∀x∈O,-10000000000≤x.amount∧x.amount≤10000000000:=by rw[X];exact U3a (fun x hx=>by have:=ax.out x hx;omega) (by omega) (by omega)
   have ay:=yh X;have ak:=yh av;clear X av an
   go_wp2_with fail
   refine(XQa w _ _ d O _ _ _ _ _ 3 p af hd (.of (by omega) (by omega)) hp (by omega)).mono ?_;rintro e w5 ⟨rfl,A5,n5,aO,a0,V⟩;obtain⟨D,Y⟩:∃D,D=XR O d 3 p:=⟨_,rfl⟩;rw[←Y]at V
   have aQ:D.length≤14:=by have:=ZHa O d 3 p;rw[Y];omega
   have aw:Small D:=⟨by omega,by rw[Y];exact U3a ak.out (by omega) (by omega)⟩;have aP : -10000000000000≤ZR D∧ZR D≤10000000000000:=aw.sum _;have az:=yh Y;clear Y af aC ak;have aH:=cell_of_one V.o
   go_wp2_with fail
   refine(Xpa _ _ _ D _ (U7a V) aw).mono ?_;rintro e w6 ⟨rfl,ar⟩;have ao:=V.below ar;clear ar V aH;have ad:=yh (show ∀q,q=max 0 (-ZR D)→XR D d 4 q=Ut l d p from fun q hq=>by rw[hq,HL.out,←ay.out,←az.out])
   go_wp2_with fail
   all_goals
    refine(XQa w _ _ d D _ _ _ _ _ 4 _ ao hd (.of (by omega) (by omega)) (.of (by omega) (by omega)) (by omega)).mono ?_;rintro e w7 ⟨rfl,A7,n7,aA,aL,ag⟩
    have W:Puts w w2.heap.size w.heap.size d (Ut l d p) w7 A7 n7 aA aL:=by
     first
      | (rw[←ad.out 0 (by omega)];exact ag)
      | (rw[←ad.out (-ZR D) (by omega)];exact ag)
    have aS:=cell_of_one W.o;have aD:=W.len;have au:=U7a W;have aF:=au.len;have ai:=W.b
    have aG:n7≤1000000:=by omega
    have hW:=Yaa _ _ _ (Ut l d p) none 0 0 [] w7 au (Sl.nil _ _ _ _) aG (by omega);rw[List.append_nil,←HE.out]at hW;have HW:=yh hW;clear hW aF aD ag W ao ad
    go_wp2_with fail
    refine HW.out.mono ?_;rintro e w9 ⟨v,xs,rfl,I,aB⟩
    go_wp2_with fail
    go_ret2
    exact⟨_,_,rfl,I.mono Qd ai.size,ai.trans (aB.mono ai.size)⟩
 ·have aW:(r != 0)=true:=by simpa using hr0
  have aX:(r == 0)=false:=by simpa using hr0
  have Q:Z=r:=by rw[J];unfold Vk;rw[if_pos (by rw[←hr];exact hr0)];exact hr.symm
  subst Q;have HR:=yh hr0;clear hr J hr0 ac
  go_enter Tryz.func185,Tryz.ntmps185
  go_wp2_with (go_at_call 182;refine HK.out.mono ?_;rintro e w' ⟨rfl,F⟩)
  go_ret2
  exact⟨_,_,rfl,by rw[Yq HR.out];exact Own.nil _ _ _ _ _,E.trans (F.mono E.size)⟩
def YX (k:Int) (x:Int):Bool:=k == 0 || x == k
def VJ (l:List Entry) (k:Int):Int:=ZS (YX k) l
theorem Qib (l:List Entry):VJ l 0=ZR l:=by unfold VJ ZR;congr 1
theorem Sl.takeTo {α:Type}{c:Cod α}{size:Nat}{w:World}{S:Nat→Prop}{A:Option Addr}{n cap:Nat}{l:List α}(h:Sl c size w S A n cap l){i:Nat}(F:i≤n):Sl c size w S A i cap (l.take i):=by
 have:=h.len;have:=h.le;refine⟨by rw[List.length_take];omega,by omega,h.max,fun j x I=>?_⟩
 have E:j < i:=by
  rcases Nat.lt_or_ge j i with D | D
  ·exact D
  ·rw[List.getElem?_eq_none (by rw[List.length_take];omega)]at I;cases I
 rw[List.getElem?_take,if_pos E]at I;exact h.rd j x I
theorem UDb (A:Option Addr)(n cap:Nat)(l:List Entry)(q:Int)(w:World)(h:Sl Qw 3 w All A n cap l)(O:Small l) :
  Calls Tryz.prog 133 #[.slice A n cap,.int .i64 q] w fun e w'=>e=.returned (.int .i64 (VJ l q))∧w=w':=by
 have aa:=h.bd
 go_enter Tryz.func133,Tryz.ntmps133
 go_wp2_with fail
 go_loopg [5,6] n (fun gk s i wr=>∃k:Nat,k≤n∧n - k≤gk∧i=.int .i64 k∧s=.int .i64 (VJ (l.take k) q)∧wr=w)
 case atStart=>exact⟨0,Nat.zero_le _,by omega,rfl,rfl,rfl⟩
 case round=>
  obtain⟨k,hk,ab,rfl,rfl,rfl⟩:=hrel
  by_cases hlt:k < n
  ·obtain⟨b,ac,x,X,Y,Z,rfl,F,⟨I,U,V,W⟩,g0,g1,g2⟩:=h.at3 hlt
   simp only[List.cons.injEq,and_true]at I;obtain⟨rfl,rfl,rfl⟩:=I;have s1 : -10000000000000≤VJ (l.take k) q∧VJ (l.take k) q≤10000000000000:=O.take k (YX q)
   have D:Hid (VJ (l.take (k+1)) q=VJ (l.take k) q+if YX q x.kind then x.amount else 0):=by
    have:=Qma (YX q) (l.take k) x;rw[←Qn F]at this;exact this
   have s3:=O.2 x (List.mem_of_getElem? F);clear F
   by_cases hq:q=0
   ·subst hq
    go_wp2_with fail
    go_roundg (n - (k+1))
    case measure=>omega
    case rel=>exact⟨k+1,by omega,by omega,by go_num,by rw[D.out];rfl,rfl⟩
   ·have J:(q == 0)=false:=by simpa using hq
    by_cases hkd:x.kind=q
    ·have E:(x.kind == q)=true:=by simpa using hkd
     have HB:Hid (YX q x.kind=true):=by show YX q x.kind=true;unfold YX;rw[J,E];rfl
     clear hkd
     go_wp2_with fail
     go_roundg (n - (k+1))
     case measure=>omega
     case rel=>exact⟨k+1,by omega,by omega,by go_num,by rw[D.out,HB.out];rfl,rfl⟩
    ·have E:(x.kind == q)=false:=by simpa using hkd
     have HB:Hid (YX q x.kind=false):=by show YX q x.kind=false;unfold YX;rw[J,E];rfl
     clear hkd
     go_wp2_with fail
     go_roundg (n - (k+1))
     case measure=>omega
     case rel=>exact⟨k+1,by omega,by omega,by go_num,by rw[D.out,HB.out];simp,rfl⟩
  ·obtain rfl:k=n:=by omega
   have Q:=yh (List.take_of_length_le (Nat.le_of_eq h.len))
   go_wp2_with fail
   go_ret
   exact⟨ZH (by rw[Q.out]),rfl⟩
theorem YAa:Tryz.prog.underlying 140=some (.struct (Tryz.prog.fieldsOf 140)):=by kernel_rfl
theorem Yza:Tryz.prog.stoodInHeld 140=false:=by kernel_rfl
theorem Yya:Tryz.prog.eqGuardType Tryz.prog.depth 140=false:=by kernel_rfl
theorem Vpb (a b c d e f:Int)(w:World):(binOp .neq 140 (.agg #[.int .i64 a,.int .i64 b,.int .i64 c]) (.agg #[.int .i64 d,.int .i64 e,.int .i64 f])).run Tryz.prog w=.ok (.bool (!(a == d && b == e && c == f))) w:=by
 have u3:=Tryz.underlying3;have A:=Tryz.isAgg3;have D:=Tryz.sizeOf3;rw[run_neq_struct,run_equalIn_agg (P:=Tryz.prog) w 9999 140 _ _ YAa Yza];simp only[Program.fieldsOf,Tryz.underlying140];go_simp
 by_cases h1:a=d<;>by_cases h2:b=e<;>by_cases h3:c=f<;>simp[h1,h2,h3]
theorem XAb {x y:Entry}(h:¬x=y):(!(x.day == y.day && x.kind == y.kind && x.amount == y.amount))=true:=by
 rcases x with⟨a,b,c⟩
 rcases y with⟨d,e,f⟩
 simp at h ⊢
 omega
theorem Vpa (A B:Option Addr)(n cap m Q:Nat)(l l2:List Entry)(w:World)(h:Sl Qw 3 w All A n cap l)(U:Sl Qw 3 w All B m Q l2) :
  Calls Tryz.prog 48 #[.slice A n cap,.slice B m Q] w fun e w'=>e=.returned (.bool (decide (l=l2)))∧∃q,w'=w.drewN q:=by
 have ag:=h.bd;have X:=yh h.len;have Y:=yh U.len
 by_cases hnm:n=m
 ·subst hnm
  go_enter Tryz.func48,Tryz.ntmps48
  go_wp2_with fail
  go_loopg [5] n (fun gk i wr=>∃k q:Nat,k≤n∧n - k≤gk∧i=.int .i64 k∧Aside (∀j,j < k→l[j]? = l2[j]?)∧wr=w.drewN q)
  case atStart=>exact⟨0,0,Nat.zero_le _,by omega,rfl,fun j D=>absurd D (by omega),rfl⟩
  case round=>
   obtain⟨k,q,hk,ah,rfl,J,rfl⟩:=hrel
   by_cases hlt:k < n
   ·obtain⟨b,aj,x,c0,c1,c2,rfl,Z,⟨V,b0,b1,b2⟩,g0,g1,g2⟩:=h.at3 hlt
    simp only[List.cons.injEq,and_true]at V;obtain⟨rfl,rfl,rfl⟩:=V;obtain⟨b',ak,y,d0,d1,d2,rfl,hy,⟨W,aa,ab,ac⟩,ad,ae,af⟩:=U.at3 hlt;simp only[List.cons.injEq,and_true]at W;obtain⟨rfl,rfl,rfl⟩:=W;have O:=yh Z;have I:=yh hy;clear Z hy;have q1:=Yya;have q2:=Vpb
    by_cases hxy:x=y
    ·have he:(!(x.day == y.day && x.kind == y.kind && x.amount == y.amount))=false:=by subst hxy;simp
     have F:=yh hxy;clear hxy
     go_wp2_with fail
     go_quiet (fail)
     go_wp2_with fail
     go_roundg (n - (k+1))
     case measure=>omega
     case rel=>
      refine⟨k+1,_,by omega,by omega,by go_num,(show Aside _ from fun j D=>?_),rfl⟩
      by_cases e:j=k
      ·subst e;rw[O.out,I.out,F.out]
      ·exact J.out j (by omega)
    ·have he:(!(x.day == y.day && x.kind == y.kind && x.amount == y.amount))=true:=by
      exact XAb hxy
     have F:=yh hxy;clear hxy
     go_wp2_with fail
     go_quiet (fail)
     go_wp2_with fail
     go_ret
     refine⟨ZN ?_,_,World.drewN_drewN _ _ _⟩
     symm
     rw[decide_eq_false_iff_not];intro al;subst al;rw[O.out]at I;exact F.out (by have:=I.out;injection this)
   ·obtain rfl:k=n:=by omega
    have al:l=l2:=by
     apply List.ext_getElem?
     intro j
     by_cases D:j < k
     ·exact J.out j D
     ·rw[List.getElem?_eq_none (by rw[X.out];omega),List.getElem?_eq_none (by rw[Y.out];omega)]
    have E:=yh al;clear al
    go_wp2_with fail
    go_ret
    exact⟨ZN (by rw[decide_eq_true E.out]),_,rfl⟩
 ·have ai:((n:Int) != (m:Int))=true:=by simp;omega
  have al:¬l=l2:=fun e=>hnm (by rw[←X.out,←Y.out,e])
  have E:=yh al;clear al hnm
  go_enter Tryz.func48,Tryz.ntmps48
  go_wp2_with fail
  go_ret
  exact⟨ZN (by rw[decide_eq_false E.out]),0,rfl⟩
theorem Xzb {x:Entry}(h:x.kind < 1∨4 < x.kind):Zj x=7:=if_pos h
theorem Xxb {x:Entry}(h:¬(x.kind < 1∨4 < x.kind))(A:x.day < 0∨9999 < x.day∨x.amount < -100000000∨100000000 < x.amount):Zj x=3:=by
 unfold Zj;rw[if_neg h,if_pos A]
theorem Xyb {x:Entry}(h:¬(x.kind < 1∨4 < x.kind))(A:¬(x.day < 0∨9999 < x.day∨x.amount < -100000000∨100000000 < x.amount))
  (D:x.amount < 0∧(x.kind=1∨x.kind=3)∨0 < x.amount∧x.kind=2):Zj x=4:=by
 unfold Zj;rw[if_neg h,if_neg A,if_pos D]
theorem Xwb {x:Entry}(h:¬(x.kind < 1∨4 < x.kind))(A:¬(x.day < 0∨9999 < x.day∨x.amount < -100000000∨100000000 < x.amount))
  (D:¬(x.amount < 0∧(x.kind=1∨x.kind=3)∨0 < x.amount∧x.kind=2)):Zj x=0:=by
 unfold Zj;rw[if_neg h,if_neg A,if_neg D]
theorem Z7a (A:Option Addr)(n cap:Nat)(l:List Entry)(w:World)(h:Sl Qw 3 w All A n cap l) :
  Calls Tryz.prog 148 #[.slice A n cap] w fun e w'=>e=.returned (.int .i64 (Qe l))∧yw w w':=by
 have aq:=h.bd;have F:=yh h.len
 by_cases hn:12 < n
 ·have am:(12:Int) < (n:Int):=by omega
  go_enter Tryz.func148,Tryz.ntmps148
  go_wp2_with fail
  go_ret
  exact⟨ZH (by unfold Qe;rw[F.out,if_pos hn]),Below.refl _ _⟩
 ·have am:¬(12:Int) < (n:Int):=by omega
  go_enter Tryz.func148,Tryz.ntmps148
  go_wp2_with fail
  go_loopg [3] n (fun gk i wr=>∃k:Nat,k≤n∧n - k≤gk∧i=.int .i64 k∧Aside (Qo (Zk l) k=0)∧yw w wr)
  case atStart=>exact⟨0,Nat.zero_le _,by omega,rfl,rfl,Below.refl _ _⟩
  case round=>
   obtain⟨k,hk,ay,rfl,J,D⟩:=hrel
   by_cases hlt:k < n
   ·obtain⟨b,ap,x,c0,E,I,rfl,Y,⟨X,b0,b1,b2⟩,g0,g1,g2⟩:=(h.below Qd (by omega) D).at3 hlt
    simp only[List.cons.injEq,and_true]at X;obtain⟨rfl,rfl,rfl⟩:=X;have HX:=yh Y;have ac:=D.alloc D.size (.cells #[.int .i64 x.day,.int .i64 x.kind,.int .i64 x.amount] 140)
    have fin:∀r:Int,Zk l k=r→r≠0→r=Qe l:=fun r h1 h2=>by
     unfold Qe;rw[F.out,if_neg hn];have:=UB (n:=n) J.out (by rw[h1];exact h2) hlt;rw[this,h1,if_pos h2]
    have Q:=yh fin
    have ag:(∀y,l[k - 1]? = some y→0 < k→Zj x=0→Zk l k=if x.day < y.day then 4 else 0):=fun y O h0 U=>by
     unfold Zk;rw[HX.out,Option.getD_some,U,if_neg (by simp),O,Option.getD_some]
     by_cases e:x.day < y.day
     ·rw[if_pos ⟨h0,e⟩,if_pos e]
     ·rw[if_neg (fun h=>e h.2),if_neg e]
    have ah:k=0→Zj x=0→Zk l k=0:=fun h0 U=>by
     unfold Zk;rw[HX.out,Option.getD_some,U,if_neg (by simp),if_neg (by omega)]
    have ai:Zj x≠0→Zk l k=Zj x:=fun U=>by
     unfold Zk;rw[HX.out,Option.getD_some,if_pos U]
    have ad:=yh ag;have al:=yh ah;have V:=yh ai;clear fin ag ah ai Y
    by_cases E:x.kind < 1∨4 < x.kind
    ·have HZ:=yh (Xzb E)
     have t1:=QH E;clear E
     go_wp2_with (go_at_call 70;refine(Qk _ _ _ _).mono ?_;rintro e w' ⟨rfl,rfl⟩)
     all_goals
      go_ret
      exact⟨ZH (Q.out 7 ((V.out (by rw[HZ.out];omega)).trans HZ.out) (by omega)),ac⟩
    ·have t1:Qc x.kind 1 4=true:=QX (by omega) (by omega)
     by_cases I:x.day < 0∨9999 < x.day∨x.amount < -100000000∨100000000 < x.amount
     ·have HZ:=yh (Xxb E I)
      by_cases c2d:x.day < 0∨9999 < x.day
      ·have t2:=QH c2d
       clear E I c2d
       go_wp2_with (go_at_call 70;refine(Qk _ _ _ _).mono ?_;rintro e w' ⟨rfl,rfl⟩)
       all_goals
        go_ret
        exact⟨ZH (Q.out 3 ((V.out (by rw[HZ.out];omega)).trans HZ.out) (by omega)),ac⟩
      ·have t2:Qc x.day 0 9999=true:=QX (by omega) (by omega)
       have t3:Qc x.amount (-100000000) 100000000=false:=QH (by omega);clear E I c2d
       go_wp2_with (go_at_call 70;refine(Qk _ _ _ _).mono ?_;rintro e w' ⟨rfl,rfl⟩)
       all_goals
        go_ret
        exact⟨ZH (Q.out 3 ((V.out (by rw[HZ.out];omega)).trans HZ.out) (by omega)),ac⟩
     ·have t2:Qc x.day 0 9999=true:=QX (by omega) (by omega)
      have t3:Qc x.amount (-100000000) 100000000=true:=QX (by omega) (by omega)
      by_cases c3:x.amount < 0∧(x.kind=1∨x.kind=3)∨0 < x.amount∧x.kind=2
      ·have HZ:=yh (Xyb E I c3)
       go_wp2_with (go_at_call 70;refine(Qk _ _ _ _).mono ?_;rintro e w' ⟨rfl,rfl⟩)
       all_goals
        go_ret
        exact⟨ZH (Q.out 4 ((V.out (by rw[HZ.out];omega)).trans HZ.out) (by omega)),D.alloc D.size _⟩
      ·have HZ:=yh (Xwb E I c3)
       rcases k with _ | k
       ·simp only[Nat.zero_mul,Nat.add_zero]at g0 g1 g2
        go_wp2_with (go_at_call 70;refine(Qk _ _ _ _).mono ?_;rintro e w' ⟨rfl,rfl⟩)
        all_goals
         go_quiet (fail)
         go_wp2_with fail
         go_roundg (n - 1)
         case measure=>omega
         case rel=>exact⟨1,by omega,by omega,rfl,(show Aside _ from(Q4 J.out).trans (al.out (by trivial) HZ.out)),below_drewN (D.alloc D.size _) _⟩
       ·obtain⟨b2,aA,y,d0,d1,d2,ab,O,⟨af,y0,y1,y2⟩,e0,e1,e2⟩:=(h.below Qd (by omega) D).at3 (show k < n by omega)
        injection ab with ab
        injection ab with hb2 ho2 _
        subst hb2 ho2;simp only[List.cons.injEq,and_true]at af;obtain⟨rfl,rfl,rfl⟩:=af;have Hy:=yh O;have ar:b < wr.heap.size:=Ub e0;clear O e1 e2;have hw:IntKind.i64.wrap (k:Int)=k:=IntWalk.i64_in _ (by omega);have az:decide ((0:Int) < (k:Int)+1)=true:=decide_eq_true (by omega)
        by_cases hd:x.day < y.day
        ·go_wp2_with (go_at_call 70;refine(Qk _ _ _ _).mono ?_;rintro e w' ⟨rfl,rfl⟩)
         all_goals
          go_quiet (fail)
          go_wp2_with fail
          go_ret
          exact⟨ZH (Q.out 4 (by rw[ad.out y (by simpa using Hy.out) (by omega) HZ.out,if_pos hd]) (by omega)),below_drewN (D.alloc D.size _) _⟩
        ·go_wp2_with (go_at_call 70;refine(Qk _ _ _ _).mono ?_;rintro e w' ⟨rfl,rfl⟩)
         all_goals
          go_quiet (fail)
          go_wp2_with fail
          go_roundg (n - (k+1+1))
          case measure=>omega
          case rel=>exact⟨k+1+1,by omega,by omega,by go_num,(show Aside _ from(Q4 J.out).trans (by rw[ad.out y (by simpa using Hy.out) (by omega) HZ.out,if_neg (by omega)])),below_drewN (D.alloc D.size _) _⟩
   ·obtain rfl:k=n:=by omega
    have ak:=VI (l:=l) (by rw[F.out];omega) (by rw[F.out];exact J.out);have av:=h.le
    go_wp2_with fail
    go_loopg [5] k (fun gk i wr=>∃j:Nat,j≤k∧k - j≤gk∧i=.int .i64 ((j:Int)+1)∧Aside (Qo (Uz l) j=0)∧yw w wr)
    case atStart=>exact⟨0,Nat.zero_le _,by omega,rfl,rfl,D⟩
    case round=>
     obtain⟨j,hj,ax,rfl,Z,W⟩:=hrel
     by_cases hlt2:j < k
     ·obtain⟨b,ap,x,c0,E,I,rfl,Y,⟨X,b0,b1,b2⟩,g0,g1,g2⟩:=h.at3 hlt2
      clear X b0 b1 b2 g0 g1 g2 Y
      have au:j+1≤cap:=by omega
      have ao:=(h.below Qd (by omega) W).takeTo (i:=j+1) (by omega);have an:Small (l.take (j+1)):=⟨by rw[List.length_take];have:=ak.1;omega,fun y O=>ak.2 y (List.mem_of_mem_take O)⟩
      go_wp2_with fail
      refine(UDb _ _ _ (l.take (j+1)) 0 _ ao an).mono ?_;rintro e w1 ⟨rfl,rfl⟩;have ae:=Qk (VJ (l.take (j+1)) 0) (-100000000) 100000000 wr
      have aj:Uz l j=if Qc (VJ (l.take (j+1)) 0) (-100000000) 100000000 then 0 else 3:=by unfold Uz;rw[Qib];rfl
      generalize Qc (VJ (l.take (j+1)) 0) (-100000000) 100000000=bb at *
      have HB:=yh ae;have aa:=yh aj;clear ae aj
      cases bb
      ·go_wp2_with (go_at_call 70;refine HB.out.mono ?_;rintro e w' ⟨rfl,rfl⟩)
       go_ret
       exact⟨ZH (by rw[Uu (by rw[F.out];exact hn) (by rw[F.out];exact J.out),F.out,UB Z.out (by rw[aa.out];decide) hlt2,aa.out];rfl),W⟩
      ·go_wp2_with (go_at_call 70;refine HB.out.mono ?_;rintro e w' ⟨rfl,rfl⟩)
       go_roundg (k - (j+1))
       case measure=>omega
       case rel=>exact⟨j+1,by omega,by omega,by go_num,(show Aside _ from(Q4 Z.out).trans aa.out),W⟩
     ·obtain rfl:j=k:=by omega
      have aw:¬((j:Int)+1≤(j:Int)):=by omega
      go_wp2_with fail
      go_ret
      exact⟨ZH (by rw[Uu (by rw[F.out];exact hn) (by rw[F.out];exact J.out),F.out,Z.out]),W⟩
end Go.Proofs.YtjdcokpmgionjaaGreat
