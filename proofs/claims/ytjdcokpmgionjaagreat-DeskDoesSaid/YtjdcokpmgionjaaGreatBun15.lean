/-
  Laws and contracts.
-/
import Derived.Test.YtjdcokpmgionjaaGreatBun4
import Derived.Test.YtjdcokpmgionjaaGreatBun12
import Derived.BigQuiet
set_option linter.unusedSimpArgs false
set_option linter.unusedVariables false
set_option maxRecDepth 100000
set_option maxHeartbeats 20000000
namespace Go.Proofs.YtjdcokpmgionjaaGreat
open Proofs.Tryz Go.RowKit Go.Shelf
structure Ans where
 errno:Int
 owed:Int
 deriving DecidableEq,Inhabited
structure Don where
 ask:Ask
 ans:Ans
 deriving DecidableEq,Inhabited
abbrev QD (x:Ans):Array Value:=#[.int .i64 x.errno,.int .i64 x.owed]
def VV (x:Don):Array Value:=#[.int .i64 x.ask.number,.int .i64 x.ask.kind,.int .i64 x.ask.id,.int .i64 x.ask.guests,.bool x.ask.level,.int .i64 x.ask.cabin,.int .i64 x.ask.category,.int .i64 x.ask.frm,.int .i64 x.ask.upto,.int .i64 x.ask.til,.int .i64 x.ask.amount,.int .i64 x.ans.errno,.int .i64 x.ans.owed]
def Q8b (x:Don):Prop:=Qpa x.ask∧InI x.ans.errno∧InI x.ans.owed
def Vv:Cod Don:=fun _ _ x cs=>cs=(VV x).toList∧Q8b x
theorem Z8:Xq Vv:=fun _ _ _ _ _ _ h=>h
theorem Qy:Good Vv:=.of_flat Z8 fun h u A=>by obtain⟨rfl,_⟩:=h;simp[VV]at A;rcases A with rfl | rfl | rfl | rfl | rfl | rfl | rfl | rfl | rfl | rfl | rfl | rfl | rfl<;>rfl
instance donK:CodK Vv 13:=⟨Qy,by omega⟩
theorem Yea:ElemOf prog 37 106 13 104:=.mk' underlying37 (z:=.agg #[.int .i64 0,.int .i64 0,.int .i64 0,.int .i64 0,.bool false,.int .i64 0,.int .i64 0,.int .i64 0,.int .i64 0,.int .i64 0,.int .i64 0,.int .i64 0,.int .i64 0]) (by kernel_rfl) rfl (by omega)
theorem Ubb {w:World}{a o:Nat}{x:Don}(h:∀j u,(VV x).toList[j]? = some u→w.cell? ⟨a,o+j,none⟩=some u):yI w a o x.ask.number∧yI w a (o+1) x.ask.kind∧yI w a (o+2) x.ask.id∧
  yI w a (o+3) x.ask.guests∧w.cell? ⟨a,o+4,none⟩=some (.bool x.ask.level)∧yI w a (o+5) x.ask.cabin∧yI w a (o+6) x.ask.category∧yI w a (o+7) x.ask.frm∧
  yI w a (o+8) x.ask.upto∧yI w a (o+9) x.ask.til∧yI w a (o+10) x.ask.amount∧yI w a (o+11) x.ans.errno∧yI w a (o+12) x.ans.owed:=
 ⟨h 0 _ rfl,h 1 _ rfl,h 2 _ rfl,h 3 _ rfl,h 4 _ rfl,h 5 _ rfl,h 6 _ rfl,h 7 _ rfl,h 8 _ rfl,h 9 _ rfl,h 10 _ rfl,h 11 _ rfl,h 12 _ rfl⟩
theorem Sl.don {w:World}{S:Nat→Prop}{A:Option Addr}{n cap:Nat}{l:List Don}(h:Sl Vv 13 w S A n cap l){k:Nat}(I:k < n):∃b O x,A=some ⟨b,O,none⟩∧l[k]? = some x∧Q8b x∧∀j u,(VV x).toList[j]? = some u→w.cell? ⟨b,O+k*13+j,none⟩=some u:=by
 have J:=h.len;obtain⟨b,O,cs,D,-,⟨rfl,F⟩,-,E⟩:=h.rd k (l[k]'(by omega)) (J1 (by omega));exact⟨b,O,_,D,J1 (by omega),F,E⟩
theorem YY (A:Option Addr)(n cap:Nat)(l:List Don)(g:Nat)(lb:Array Value)(p:Don→Bool)(w:World)(h:Sl Vv 13 w All A n cap l)
  (eg:∀V w,(callFunc g V).run prog w=.ok (.enter g V) w)
  (X:∀(x:Don) (w1:World),x∈l→yw w w1→Calls prog g (#[.agg (VV x)]++lb) w1 fun e w'=>e=.returned (.bool (p x))∧yw w1 w') :
  Calls prog 134 #[.slice A n cap,.func (.func g) #[] lb] w fun e w'=>e=.returned (.int .i64 (UV p l))∧yw w w':=by
 have Hp:=yh X;clear X;have ad:=h.bd;have Y:=yh h;have HN:=yh h.len;clear h;go_enter func134,ntmps134;go_wp2_with fail
 go_loopg [8] n (fun gk i wr=>∃k:Nat,k≤n∧n - k≤gk∧i=.int .i64 k∧Aside ((l.take k).any p=false)∧yw w wr)
 case atStart=>exact⟨0,M0 _,by omega,rfl,rfl,J4 _ _⟩
 case round=>
  obtain⟨k,hk,ae,rfl,E,hb⟩:=hrel;by_cases hlt:k < n
  ·obtain⟨b,af,x,rfl,J,hi,W⟩:=(Y.bel hb).don hlt;obtain⟨c0,c1,c2,c3,c4,c5,c6,c7,c8,c9,aa,ab,ac⟩:=Ubb W;have U:=yh J;have Z:=yh (J6 J);have F:=Hp _ wr Z hb;obtain⟨q,I⟩:=yE (p x);rw[←I]at F;have O:=yh F;clear F;have Q:=yh I;clear I;clear J hi W;cases q
   ·skip;go_wp2_with fail;go_at_fn g;refine yM O fun w1 D=>?_;replace D:=hb.trans (D.mono hb.size);go_wp2_with fail;go_roundg (n - (k+1))
    case measure=>omega
    case rel=>exact⟨k+1,by omega,by omega,by go_num,by show _=_;rw[Qw U.out,E,←Q.out];rfl,D⟩
   ·skip;go_wp2_with fail;go_at_fn g;refine yM O fun w1 D=>?_;replace D:=hb.trans (D.mono hb.size);go_wp2_with fail;go_ret;exact⟨ZH (Vi E U Q.symm).symm,D⟩
  ·obtain rfl:k=n:=by omega
   have HT:=yh (M1 (Nat.le_of_eq HN));go_wp2_with fail;go_ret;exact⟨ZH (by rw[ZE (by rw[←HT.out];exact E)]),hb⟩
theorem Q5a (A:Option Addr)(n cap:Nat)(l:List Don)(g:Nat)(lb:Array Value)(p:Don→Bool)(w:World)(h:Sl Vv 13 w All A n cap l)
  (I:∀U w,(callFunc g U).run prog w=.ok (.enter g U) w)
  (D:∀(x:Don) (w1:World),x∈l→yw w w1→Calls prog g (#[.agg (VV x)]++lb) w1 fun e w'=>e=.returned (.bool (p x))∧yw w1 w') :
  Calls prog 154 #[.slice A n cap,.func (.func g) #[] lb] w fun e w'=>e=.returned (.bool (l.any p))∧yw w w':=by
 have E:=YY A n cap l g lb p w h I D;clear D;go_enter func154,ntmps154;go_wp2_with fail;refine yM E fun w1 J=>?_;have F:=yh (Vo (p:=p) (l:=l));have O:=X3 (p:=p) (l:=l) (by have:=h.bd;have:=h.len;omega);go_wp2_with fail;go_ret;exact⟨Un F,J⟩
theorem Vra (A:Option Addr)(n cap:Nat)(l:List Don)(w:World)(h:Sl Vv 13 w All A n cap l)(J:n*104≤140737488355328) :
  Calls prog 74 #[.slice A n cap] w fun e w'=>∃v xs,e=.returned v∧Own Vv 13 106 w' w.heap.size v l xs∧yw w w':=by
 have O:=fun(W:World) (a:Option Addr)=>Lib.run_eql_slice_nil (P:=prog) W 37 106 a n cap 0 0 underlying37;rcases A with _ | a
 ·have F:l=[]:=by
   rcases l with _ | ⟨x,l⟩
   ·rfl
   ·obtain⟨b,Q,cs,X,_⟩:=h.rd 0 x rfl;cases X
  subst F;go_enter func74,ntmps74;go_wp2;go_ret;exact⟨_,_,rfl,Own.nil _ _ _ _ _,J4 _ _⟩
 ·go_enter func74,ntmps74;go_wp2_with (at_builtin;refine Qz (t:=37) (e:=106) (bytes:=104) rfl (.tmp 5) (.tmp 6) rfl Yea Qy rfl (Own.made w Vv 13 106 w.heap.size #[] 0 (J5 _) (by simp[maxLen]) rfl) rfl (h.below Qy (by omega) ((J4 _ _).alloc (J5 _) _)) (fun _ _ D=>D) (by simp;omega) (by omega) (by simp) ?_;intro v' w' U I E _);go_ret;exact⟨_,_,rfl,I,QA (Below.alloc (J4 _ _) (J5 _) _) (Own.made w Vv 13 106 w.heap.size #[] 0 (J5 _) (by simp[maxLen]) rfl) E (by simp)⟩
end Go.Proofs.YtjdcokpmgionjaaGreat
