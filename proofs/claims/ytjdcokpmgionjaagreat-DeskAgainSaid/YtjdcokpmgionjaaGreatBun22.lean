/-
  Words, laws and contracts: DeskA.
-/
import Derived.Test.YtjdcokpmgionjaaGreatBun5
import Derived.Test.YtjdcokpmgionjaaGreatBun17
import Derived.BigQuiet
set_option linter.unusedSimpArgs false
set_option linter.unusedVariables false
set_option maxRecDepth 100000
set_option maxHeartbeats 20000000
namespace Go.Proofs.YtjdcokpmgionjaaGreat
open Go.RowKit Go.Shelf
structure Ans where
 errno:Int
 owed:Int
 deriving DecidableEq,Inhabited
structure Don where
 ask:Ask
 ans:Ans
 deriving DecidableEq,Inhabited
abbrev QK (x:Ans):Array Value:=#[.int .i64 x.errno,.int .i64 x.owed]
def VC (x:Don):Array Value:=#[.int .i64 x.ask.number,.int .i64 x.ask.kind,.int .i64 x.ask.id,.int .i64 x.ask.guests,.bool x.ask.level,.int .i64 x.ask.cabin,.int .i64 x.ask.category,.int .i64 x.ask.frm,.int .i64 x.ask.upto,.int .i64 x.ask.til,.int .i64 x.ask.amount,.int .i64 x.ans.errno,.int .i64 x.ans.owed]
def X5a (x:Don):Prop:=Xb x.ask∧InI x.ans.errno∧InI x.ans.owed
def ZL:Cod Don:=fun _ _ x cs=>cs=(VC x).toList∧X5a x
theorem ZC:VV ZL:=fun _ _ _ _ _ _ h=>h
theorem Qm:Good ZL:=.of_flat ZC fun h u A=>by obtain⟨rfl,_⟩:=h;simp[VC]at A;rcases A with rfl | rfl | rfl | rfl | rfl | rfl | rfl | rfl | rfl | rfl | rfl | rfl | rfl<;>rfl
instance donK:CodK ZL 13:=⟨Qm,by omega⟩
theorem Yua:ElemOf Tryz.prog 37 106 13 104:=.mk' Tryz.underlying37 (z:=.agg #[.int .i64 0,.int .i64 0,.int .i64 0,.int .i64 0,.bool false,.int .i64 0,.int .i64 0,.int .i64 0,.int .i64 0,.int .i64 0,.int .i64 0,.int .i64 0,.int .i64 0]) (by kernel_rfl) rfl (by omega)
theorem Yta {w:World}{a o:Nat}{x:Don}(h:∀j u,(VC x).toList[j]? = some u→w.cell? ⟨a,o+j,none⟩=some u):yI w a o x.ask.number∧yI w a (o+1) x.ask.kind∧yI w a (o+2) x.ask.id∧
  yI w a (o+3) x.ask.guests∧w.cell? ⟨a,o+4,none⟩=some (.bool x.ask.level)∧yI w a (o+5) x.ask.cabin∧yI w a (o+6) x.ask.category∧yI w a (o+7) x.ask.frm∧
  yI w a (o+8) x.ask.upto∧yI w a (o+9) x.ask.til∧yI w a (o+10) x.ask.amount∧yI w a (o+11) x.ans.errno∧yI w a (o+12) x.ans.owed:=
 ⟨h 0 _ rfl,h 1 _ rfl,h 2 _ rfl,h 3 _ rfl,h 4 _ rfl,h 5 _ rfl,h 6 _ rfl,h 7 _ rfl,h 8 _ rfl,h 9 _ rfl,h 10 _ rfl,h 11 _ rfl,h 12 _ rfl⟩
theorem Sl.don {w:World}{S:Nat→Prop}{A:Option Addr}{n cap:Nat}{l:List Don}(h:Sl ZL 13 w S A n cap l){k:Nat}(J:k < n):∃b Q x,A=some ⟨b,Q,none⟩∧l[k]? = some x∧X5a x∧∀j u,(VC x).toList[j]? = some u→w.cell? ⟨b,Q+k*13+j,none⟩=some u:=by
 have O:=h.len;obtain⟨b,Q,I,D,-,⟨rfl,F⟩,-,E⟩:=h.rd k (l[k]'(by omega)) (List.getElem?_eq_getElem (by omega));exact⟨b,Q,_,D,List.getElem?_eq_getElem (by omega),F,E⟩
theorem YQ (A:Option Addr)(n cap:Nat)(l:List Don)(g:Nat)(lb:Array Value)(p:Don→Bool)(w:World)(h:Sl ZL 13 w All A n cap l)
  (eg:∀V w,(callFunc g V).run Tryz.prog w=.ok (.enter g V) w)
  (X:∀(x:Don) (w1:World),x∈l→yw w w1→Calls Tryz.prog g (#[.agg (VC x)]++lb) w1 fun e w'=>e=.returned (.bool (p x))∧yw w1 w') :
  Calls Tryz.prog 134 #[.slice A n cap,.func (.func g) #[] lb] w fun e w'=>e=.returned (.int .i64 (Uq p l))∧yw w w':=by
 have Hp:=yh X;clear X;have ad:=h.bd;have Y:=yh h;have HN:=yh h.len;clear h
 go_enter Tryz.func134,Tryz.ntmps134
 go_wp2_with fail
 go_loopg [8] n (fun gk i wr=>∃k:Nat,k≤n∧n - k≤gk∧i=.int .i64 k∧Aside ((l.take k).any p=false)∧yw w wr)
 case atStart=>exact⟨0,Nat.zero_le _,by omega,rfl,rfl,Below.refl _ _⟩
 case round=>
  obtain⟨k,hk,ae,rfl,E,hb⟩:=hrel
  by_cases hlt:k < n
  ·obtain⟨b,af,x,rfl,J,hi,W⟩:=(Y.out.bel hb).don hlt
   obtain⟨c0,c1,c2,c3,c4,c5,c6,c7,c8,c9,aa,ab,ac⟩:=Yta W;have U:=yh J;have Z:=yh (List.mem_of_getElem? J);have F:=Hp.out _ wr Z.out hb;obtain⟨q,I⟩:∃q,q=p x:=⟨_,rfl⟩;rw[←I]at F;have O:=yh F;clear F;have Q:=yh I;clear I;clear J hi W
   cases q
   ·skip
    go_wp2_with fail
    go_at_fn g
    refine O.out.mono ?_;rintro e w1 ⟨rfl,D⟩;replace D:=hb.trans (D.mono hb.size)
    go_wp2_with fail
    go_roundg (n - (k+1))
    case measure=>omega
    case rel=>exact⟨k+1,by omega,by omega,by go_num,by show _=_;rw[QF U.out,E,←Q.out];rfl,D⟩
   ·skip
    go_wp2_with fail
    go_at_fn g
    refine O.out.mono ?_;rintro e w1 ⟨rfl,D⟩;replace D:=hb.trans (D.mono hb.size)
    go_wp2_with fail
    go_ret
    exact⟨ZH (VR E U.out Q.out.symm).symm,D⟩
  ·obtain rfl:k=n:=by omega
   have HT:=yh (List.take_of_length_le (Nat.le_of_eq HN.out))
   go_wp2_with fail
   go_ret
   exact⟨ZH (by rw[Ud (by rw[←HT.out];exact E)]),hb⟩
theorem QZa (A:Option Addr)(n cap:Nat)(l:List Don)(g:Nat)(lb:Array Value)(p:Don→Bool)(w:World)(h:Sl ZL 13 w All A n cap l)
  (I:∀Q w,(callFunc g Q).run Tryz.prog w=.ok (.enter g Q) w)
  (D:∀(x:Don) (w1:World),x∈l→yw w w1→Calls Tryz.prog g (#[.agg (VC x)]++lb) w1 fun e w'=>e=.returned (.bool (p x))∧yw w1 w') :
  Calls Tryz.prog 154 #[.slice A n cap,.func (.func g) #[] lb] w fun e w'=>e=.returned (.bool (l.any p))∧yw w w':=by
 have E:=YQ A n cap l g lb p w h I D;clear D
 go_enter Tryz.func154,Tryz.ntmps154
 go_wp2_with fail
 refine E.mono ?_;rintro e w1 ⟨rfl,J⟩;have F:=yh (VD (p:=p) (l:=l));have O:=XL (p:=p) (l:=l) (by have:=h.bd;have:=h.len;omega)
 go_wp2_with fail
 go_ret
 exact⟨ZN F.out,J⟩
theorem VHa (A:Option Addr)(n cap:Nat)(l:List Don)(w:World)(h:Sl ZL 13 w All A n cap l)(O:n*104≤140737488355328) :
  Calls Tryz.prog 74 #[.slice A n cap] w fun e w'=>∃v xs,e=.returned v∧Own ZL 13 106 w' w.heap.size v l xs∧yw w w':=by
 have Q:=fun(W:World) (a:Option Addr)=>Lib.run_eql_slice_nil (P:=Tryz.prog) W 37 106 a n cap 0 0 Tryz.underlying37
 rcases A with _ | a
 ·have F:l=[]:=by
   rcases l with _ | ⟨x,l⟩
   ·rfl
   ·obtain⟨b,U,J,X,_⟩:=h.rd 0 x rfl
    cases X
  subst F
  go_enter Tryz.func74,Tryz.ntmps74
  go_wp2
  go_ret
  exact⟨_,_,rfl,Own.nil _ _ _ _ _,Below.refl _ _⟩
 ·go_enter Tryz.func74,Tryz.ntmps74
  go_wp2_with (at_builtin;refine QC (t:=37) (e:=106) (bytes:=104) rfl (.tmp 5) (.tmp 6) rfl Yua Qm rfl (Own.made w ZL 13 106 w.heap.size #[] 0 (Nat.le_refl _) (by simp[maxLen]) rfl) rfl (h.below Qm (by omega) ((Below.refl _ _).alloc (Nat.le_refl _) _)) (fun _ _ D=>D) (by simp;omega) (by omega) (by simp) ?_;intro v' w' V I E _)
  go_ret
  exact⟨_,_,rfl,I,QP (Below.alloc (Below.refl _ _) (Nat.le_refl _) _) (Own.made w ZL 13 106 w.heap.size #[] 0 (Nat.le_refl _) (by simp[maxLen]) rfl) E (by simp)⟩
end Go.Proofs.YtjdcokpmgionjaaGreat
