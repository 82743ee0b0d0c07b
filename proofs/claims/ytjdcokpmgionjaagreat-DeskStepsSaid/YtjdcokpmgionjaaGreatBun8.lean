/-
  Laws and contracts.
-/
import Derived.Test.YtjdcokpmgionjaaGreatBun7
import Derived.WideKeyEntry
import Derived.DeepKeys4
import Derived.Test.YtjdcokpmgionjaaGreatSortEdge
set_option linter.unusedSimpArgs false
set_option linter.unusedVariables false
set_option maxRecDepth 100000
set_option maxHeartbeats 20000000
namespace Go.Proofs.YtjdcokpmgionjaaGreat
open Proofs.Tryz Go.RowKit Go.Shelf
theorem USc (W:World):(Instr.makeSlice 26 (.int .i64 0) (.int .i64 0)).run prog W=.ok (.slice (some ⟨W.heap.size,0,none⟩) 0 0) (W.alloc (.cells (Array.replicate 0 (Value.slice none 0 0)) 70)):=by kernel_rfl
theorem UTc (W:World):(Instr.makeSlice 26 (.int .i64 1) (.int .i64 1)).run prog W=.ok (.slice (some ⟨W.heap.size,0,none⟩) 1 1) (W.alloc (.cells (Array.replicate 1 (Value.slice none 0 0)) 70)):=by kernel_rfl
theorem UUc (W:World):(Instr.makeSlice 26 (.int .i64 2) (.int .i64 2)).run prog W=.ok (.slice (some ⟨W.heap.size,0,none⟩) 2 2) (W.alloc (.cells (Array.replicate 2 (Value.slice none 0 0)) 70)):=by kernel_rfl
theorem UVc (W:World):(Instr.makeSlice 26 (.int .i64 3) (.int .i64 3)).run prog W=.ok (.slice (some ⟨W.heap.size,0,none⟩) 3 3) (W.alloc (.cells (Array.replicate 3 (Value.slice none 0 0)) 70)):=by kernel_rfl
theorem UWc (W:World):(Instr.makeSlice 26 (.int .i64 4) (.int .i64 4)).run prog W=.ok (.slice (some ⟨W.heap.size,0,none⟩) 4 4) (W.alloc (.cells (Array.replicate 4 (Value.slice none 0 0)) 70)):=by kernel_rfl
theorem UXc (W:World):(Instr.makeSlice 26 (.int .i64 5) (.int .i64 5)).run prog W=.ok (.slice (some ⟨W.heap.size,0,none⟩) 5 5) (W.alloc (.cells (Array.replicate 5 (Value.slice none 0 0)) 70)):=by kernel_rfl
theorem UYc (W:World):(Instr.makeSlice 26 (.int .i64 6) (.int .i64 6)).run prog W=.ok (.slice (some ⟨W.heap.size,0,none⟩) 6 6) (W.alloc (.cells (Array.replicate 6 (Value.slice none 0 0)) 70)):=by kernel_rfl
theorem UZc (W:World):(Instr.makeSlice 26 (.int .i64 7) (.int .i64 7)).run prog W=.ok (.slice (some ⟨W.heap.size,0,none⟩) 7 7) (W.alloc (.cells (Array.replicate 7 (Value.slice none 0 0)) 70)):=by kernel_rfl
theorem U0c (W:World):(Instr.makeSlice 26 (.int .i64 8) (.int .i64 8)).run prog W=.ok (.slice (some ⟨W.heap.size,0,none⟩) 8 8) (W.alloc (.cells (Array.replicate 8 (Value.slice none 0 0)) 70)):=by kernel_rfl
theorem U1c (W:World):(Instr.makeSlice 26 (.int .i64 9) (.int .i64 9)).run prog W=.ok (.slice (some ⟨W.heap.size,0,none⟩) 9 9) (W.alloc (.cells (Array.replicate 9 (Value.slice none 0 0)) 70)):=by kernel_rfl
theorem Z4c (W:World):(Instr.makeSlice 26 (.int .i64 10) (.int .i64 10)).run prog W=.ok (.slice (some ⟨W.heap.size,0,none⟩) 10 10) (W.alloc (.cells (Array.replicate 10 (Value.slice none 0 0)) 70)):=by kernel_rfl
theorem Z5c (W:World):(Instr.makeSlice 26 (.int .i64 11) (.int .i64 11)).run prog W=.ok (.slice (some ⟨W.heap.size,0,none⟩) 11 11) (W.alloc (.cells (Array.replicate 11 (Value.slice none 0 0)) 70)):=by kernel_rfl
theorem Z6c (W:World):(Instr.makeSlice 26 (.int .i64 12) (.int .i64 12)).run prog W=.ok (.slice (some ⟨W.heap.size,0,none⟩) 12 12) (W.alloc (.cells (Array.replicate 12 (Value.slice none 0 0)) 70)):=by kernel_rfl
theorem Z7c (W:World):(Instr.makeSlice 26 (.int .i64 13) (.int .i64 13)).run prog W=.ok (.slice (some ⟨W.heap.size,0,none⟩) 13 13) (W.alloc (.cells (Array.replicate 13 (Value.slice none 0 0)) 70)):=by kernel_rfl
theorem Z8c (W:World):(Instr.makeSlice 26 (.int .i64 14) (.int .i64 14)).run prog W=.ok (.slice (some ⟨W.heap.size,0,none⟩) 14 14) (W.alloc (.cells (Array.replicate 14 (Value.slice none 0 0)) 70)):=by kernel_rfl
theorem Z9c (W:World):(Instr.makeSlice 26 (.int .i64 15) (.int .i64 15)).run prog W=.ok (.slice (some ⟨W.heap.size,0,none⟩) 15 15) (W.alloc (.cells (Array.replicate 15 (Value.slice none 0 0)) 70)):=by kernel_rfl
theorem Uac (W:World):(Instr.makeSlice 26 (.int .i64 16) (.int .i64 16)).run prog W=.ok (.slice (some ⟨W.heap.size,0,none⟩) 16 16) (W.alloc (.cells (Array.replicate 16 (Value.slice none 0 0)) 70)):=by kernel_rfl
theorem mkR (n:Nat)(A:n≤16)(W:World):(Instr.makeSlice 26 (.int .i64 n) (.int .i64 n)).run prog W=.ok (.slice (some ⟨W.heap.size,0,none⟩) n n) (W.alloc (.cells (Array.replicate n (Value.slice none 0 0)) 70)):=by
 have h:n=0∨n=1∨n=2∨n=3∨n=4∨n=5∨n=6∨n=7∨n=8∨n=9∨n=10∨n=11∨n=12∨n=13∨n=14∨n=15∨n=16:=by omega
 rcases h with rfl|rfl|rfl|rfl|rfl|rfl|rfl|rfl|rfl|rfl|rfl|rfl|rfl|rfl|rfl|rfl|rfl
 ·exact USc W
 ·exact UTc W
 ·exact UUc W
 ·exact UVc W
 ·exact UWc W
 ·exact UXc W
 ·exact UYc W
 ·exact UZc W
 ·exact U0c W
 ·exact U1c W
 ·exact Z4c W
 ·exact Z5c W
 ·exact Z6c W
 ·exact Z7c W
 ·exact Z8c W
 ·exact Z9c W
 ·exact Uac W
def ZOa (l:List Edg) (d:Nat):List Int:=(l.filter (fun x=>decide (x.lft=(d:Int)))).map (·.rgt)
def Z2 (left:Nat) (l:List Edg):List (List Int):=(List.range left).map (ZOa l)
theorem Qea {left:Nat}{l:List Edg}{d:Nat}(h:d<left):(Z2 left l).getD d []=ZOa l d:=by
 unfold Z2;rw[J7,List.getElem?_map,List.getElem?_range h];rfl
theorem Zqb (left:Nat):Z2 left []=List.replicate left []:=by
 unfold Z2;rw[show ZOa []=fun _=>[]by funext d;rfl];rw[List.map_const'];simp
theorem Vlb {left right:Nat}{l:List Edg}(h:Uga left right l):Ula (Z2 left l)=U1 l:=by
 funext d
 unfold Ula;by_cases hd:d<left
 ·rw[Qea hd];unfold ZOa U1;rw[List.map_map];rfl
 ·rw[J7,List.getElem?_eq_none (by unfold Z2;simp;omega)]
  have:U1 l d=[]:=by
   cases hn:U1 l d with
   | nil=>rfl
   | cons r t=>exact absurd (Zaa h d r (by rw[hn];simp)).1 hd
  rw[this];rfl
theorem Qsc {left right:Nat}{l:List Edg}(h:Uga left right l):∀c∈Z2 left l,∀r∈c,0≤r∧r<right:=fun c A r D=>by
 obtain⟨d,_,rfl⟩:=List.mem_map.1 A;obtain⟨x,E,rfl⟩:=List.mem_map.1 D;have:=h x (List.mem_filter.1 E).1;omega
theorem Qdb {left:Nat}{l:List Edg}{x:Edg}{d:Nat}(A:x.lft=(d:Int))(D:d<left):(Z2 left l).set d ((Z2 left l).getD d []++[x.rgt])=Z2 left (l++[x]):=by
 rw[Qea D];apply List.ext_getElem?;intro i;unfold Z2;by_cases hi:i<left
 ·by_cases he:d=i
  ·subst he;rw[List.getElem?_set_self (by simpa using hi),List.getElem?_map,List.getElem?_range hi];simp[ZOa,A]
  ·rw[List.getElem?_set_ne he,List.getElem?_map,List.getElem?_map,List.getElem?_range hi]
   have:¬x.lft=(i:Int):=by rw[A];omega
   simp[ZOa,this]
 ·rw[List.getElem?_eq_none (by simp;omega),List.getElem?_eq_none (by simp;omega)]
def Q6c (w wx:World) (left right P G O:Nat):Prop:=
 Blk wx P #[.slice (some ⟨O,0,none⟩) left left,.slice (some ⟨G,0,none⟩) right right,.slice none 0 0] 289∧RowI wx G (List.replicate right (-1)) 3∧Blk wx O (Array.replicate left (.slice none 0 0)) 70∧
  w.heap.size≤P∧w.heap.size≤G∧w.heap.size≤O∧P≠G∧P≠O∧G≠O∧yw w wx
theorem Z5b {w W w1:World}{left right O q:Nat}(E:yw w W)(D:Blk W O (Array.replicate left (.slice none 0 0)) 70)(J:w.heap.size≤O)(F:RowI w1 q (List.replicate right (-1)) 3)(V:W.heap.size≤q)(A:yw W w1) :
  Q6c w (w1.alloc (.cells #[.slice (some ⟨O,0,none⟩) left left,.slice (some ⟨q,0,none⟩) right right,.slice none 0 0] 289)) left right w1.heap.size q O:=by
 have I:=E.size;have X:=A.size;have Q:=D.lt;have U:q<w1.heap.size:=Blk.lt F;exact⟨Zk _ _,Blk.old F _,(D.bel A).old _,by omega,by omega,J,by omega,by omega,by omega,(E.trans (A.mono I)).alloc (by omega) _⟩
theorem U4b {w W w1:World}{left right q:Nat}(A:yw w W)(E:RowI w1 q (List.replicate right (-1)) 3)(O:W.heap.size≤q)(D:yw W w1) :
  Q6c w ((w1.alloc (.cells (Array.replicate left (.slice none 0 0)) 70)).alloc (.cells #[.slice (some ⟨w1.heap.size,0,none⟩) left left,.slice (some ⟨q,0,none⟩) right right,.slice none 0 0] 289)) left right (w1.heap.size+1) q w1.heap.size:=by
 have F:=A.size;have I:=D.size;have J:q<w1.heap.size:=Blk.lt E;exact⟨QF _ _ _,Blk.old (Blk.old E _) _,QE _ _ _,by omega,by omega,by omega,by omega,by omega,by omega,((A.trans (D.mono F)).alloc (by omega) _).alloc (by simp;omega) _⟩
theorem Vtb (left right:Nat)(A:Option Addr)(n cap:Nat)(l:List Edg)(w:World)(h:Sl Xn 2 w All A n cap l)(hl:left≤16)(hr:right≤16)(hg:Uga left right l)(hn:n≤1000) :
  Calls prog 218 #[.int .i64 (left:Int),.int .i64 (right:Int),.slice A n cap] w fun e w'=>∃(P G N O:Nat) (v:Value) (X:List Int) (no:List Nat) (D:Nat→Prop) (xs:List Value),e=.returned (.tuple #[.pointer (some ⟨P,0,none⟩),v])∧StAt w' P G N (some ⟨O,0,none⟩) left left right (Z2 left l) X∧Own QO 1 3 w' N v (no.map Int.ofNat) xs∧Asked (U1 l) right (fun x=>x<left) X no D∧
   w.heap.size≤P∧w.heap.size≤G∧w.heap.size≤N∧yw w w':=by
 have bX:=fun W=>mkR left hl W;have a0:=yh h;clear h;have HG:=yh hg;clear hg;go_enter func218,ntmps218;go_upto_region 1 with(fail);go_cut [8] (fun p wx=>∃P G O,yp p P∧Q6c w wx left right P G O)
 case first=>as_aux_lemma=>
  have bc:yw w ((w.alloc (.cells (Array.replicate left (Value.slice none 0 0)) 70)).alloc (.cells #[Value.int .i64 (-1)] 3)).drew:=(Zo w _ _).drew;have bd:yw w ((w.alloc (.cells #[Value.int .i64 (-1)] 3)).alloc (.cells (Array.replicate left (Value.slice none 0 0)) 70)).drew:=(Zo w _ _).drew;have be:yw w (w.alloc (.cells #[Value.int .i64 (-1)] 3)).drew:=(Qi w _).drew;have hA:Blk ((w.alloc (.cells (Array.replicate left (Value.slice none 0 0)) 70)).alloc (.cells #[Value.int .i64 (-1)] 3)).drew (w.heap.size+1) #[.int .i64 (-1)] 3:=QF _ _ _;have hB:Blk ((w.alloc (.cells #[Value.int .i64 (-1)] 3)).alloc (.cells (Array.replicate left (Value.slice none 0 0)) 70)).drew w.heap.size #[.int .i64 (-1)] 3:=QE _ _ _;have hC:Blk (w.alloc (.cells #[Value.int .i64 (-1)] 3)).drew w.heap.size #[.int .i64 (-1)] 3:=Zk _ _;have a2:Blk ((w.alloc (.cells (Array.replicate left (Value.slice none 0 0)) 70)).alloc (.cells #[Value.int .i64 (-1)] 3)).drew w.heap.size (Array.replicate left (.slice none 0 0)) 70:=QE _ _ _;have a3:Blk ((w.alloc (.cells #[Value.int .i64 (-1)] 3)).alloc (.cells (Array.replicate left (Value.slice none 0 0)) 70)).drew (w.heap.size+1) (Array.replicate left (.slice none 0 0)) 70:=QF _ _ _;have HA:=yh (fun w1 q=>Z5b (w1:=w1) (q:=q) (right:=right) bc a2 (J5 _));have HB:=yh (fun w1 q=>Z5b (w1:=w1) (q:=q) (right:=right) bd a3 (by omega));have HC:=yh (fun w1 q=>U4b (w1:=w1) (q:=q) (right:=right) (left:=left) be);clear a2 a3 bc bd be
  go_region_with (first
   | (go_at_call 244;with_reducible refine(X8a right _ _ hr hA).mono ?_;rintro e w1 ⟨q,rfl,ac,ak,bi,ad⟩;have HM:=HA.out w1 q ac ak ad;clear ac ad)
   | (go_at_call 244;with_reducible refine(X8a right _ _ hr hB).mono ?_;rintro e w1 ⟨q,rfl,ac,ak,bi,ad⟩;have HM:=HB.out w1 q ac ak ad;clear ac ad)
   | (go_at_call 244;with_reducible refine(X8a right _ _ hr hC).mono ?_;rintro e w1 ⟨q,rfl,ac,ak,bi,ad⟩;have HM:=HC.out w1 q ac ak ad;clear ac ad))
  all_goals
   go_wp2_with fail;go_meet;exact⟨_,_,_,rfl,HM⟩
 obtain⟨P,G,O,rfl,hM⟩:=hcut;obtain⟨W1,rfl⟩:=yE wc;obtain⟨base,bT⟩:=yE W1.heap.size;obtain⟨hP,hG,hO,bB,bA,bO,aL,ay,a4,hb⟩:=hM;have bQ:=hP.lt;have bM:=Blk.lt hG;have bP:=hO.lt;have HP:=yh hP;have bu:=yh hG;have bz:=yh (TabI.new (base:=base) hO (by omega));have HB:=yh hb;have bW:=a0.out.len;clear hP hG hO hb;go_wp2_with fail
 go_loopg [22] n (fun gk i wr=>∃(k:Nat) (Z:List Value),k≤n∧n-k≤gk∧i=.int .i64 k∧Z.length=left∧TabI wr base O Z (Z2 left (l.take k))∧Kept (fun q=>q=O) W1 wr)
 case atStart=>exact⟨0,List.replicate left (.slice none 0 0),M0 _,by omega,rfl,by simp,by rw[List.take_zero,Zqb];exact bz.out,Kept.refl _ _⟩
 case round=>
  obtain⟨k,Z,hk,bV,rfl,aV,hT,hK⟩:=hrel;by_cases hlt:k<n
  ·have V:yw w wr:=HB.out.trans (hK.below HB.out.size (fun q U e=>by omega));obtain⟨b,b3,x,c0,c1,rfl,hx,aC,e0,e1⟩:=(a0.out.bel V).at2 hlt;obtain⟨aC,ix,iy⟩:=aC;simp only[List.cons.injEq,and_true]at aC;obtain⟨rfl,rfl⟩:=aC;obtain⟨x0,x1,x2,x3⟩:=HG.out x (J6 hx);obtain⟨d,hd⟩:=Int.eq_ofNat_of_zero_le x0;rw[hd]at e0
   have aT:d<left:=by omega
   obtain⟨v,hv⟩:∃v,Z[d]? = some v:=⟨_,J1 (by omega)⟩;obtain⟨xs,au⟩:=hT.row d v hv;rw[Qea aT]at au;obtain⟨I,J,Q,rfl,_⟩:=au.sl Qd;have bK:=hK.size;obtain⟨E,hE⟩:=yE wr.heap.size;obtain⟨W4,ap⟩:=yE (wr.alloc (.cells #[.int .i64 (d:Int),.int .i64 x.rgt] 94))
   have ai:yw wr W4:=by rw[ap];exact Qi _ _
   have aI:Blk W4 E #[.int .i64 (d:Int),.int .i64 x.rgt] 94:=by rw[ap,hE];exact Zk _ _
   have bI:W4.heap.size=E+1:=by rw[ap,hE];simp
   have aB:=hT.bel ai;have ba:=(HP.out.kept hK ay).bel ai;have p4:yJ W4 P 0 (some ⟨O,0,none⟩) left left:=ba.cell rfl;have e4:yI W4 E 0 (d:Int):=aI.cell rfl;have e5:yI W4 E 1 x.rgt:=aI.cell rfl;have o4:W4.cell? ⟨O,d,none⟩=some (.slice I J Q):=Blk.cell aB.outer (by rw[List.getElem?_toArray];exact hv);have b2:W4.frozen? ⟨O,d,none⟩=false:=aB.outer.free d;have ab:yw W4 (W4.alloc (.cells #[Value.int .i64 x.rgt] 3)).drew:=(Qi W4 _).drew;have bC:yw W4 W4.drew:=(J4 _ W4).drew;have aZ:=yh (show yJ W4.drew P 0 (some ⟨O,0,none⟩) left left∧yI W4.drew E 0 (d:Int)∧yI W4.drew E 1 x.rgt from⟨p4,e4,e5⟩);have af:=yh (show(W4.alloc (.cells #[Value.int .i64 x.rgt] 3)).drew.cell? ⟨P,0,none⟩=some (.slice (some ⟨O,0,none⟩) left left)∧(W4.alloc (.cells #[Value.int .i64 x.rgt] 3)).drew.cell? ⟨E,0,none⟩=some (.int .i64 (d:Int))∧(W4.alloc (.cells #[Value.int .i64 x.rgt] 3)).drew.cell? ⟨E,1,none⟩=some (.int .i64 x.rgt)from⟨Upa ab p4,Upa ab e4,Upa ab e5⟩);have o5:(W4.alloc (.cells #[Value.int .i64 x.rgt] 3)).drew.cell? ⟨O,d,none⟩=some (.slice I J Q):=Upa ab o4;have o6:yJ W4.drew O d I J Q:=o4;have aX:=yh (show Sl QO 1 (W4.alloc (.cells #[Value.int .i64 x.rgt] 3)).drew All (some ⟨E+1,0,none⟩) 1 1 [x.rgt]from by rw[←bI];exact(QLa W4 All x.rgt 3 iy trivial).keep Qd (by omega) (fun b _ _=>⟨rfl,trivial⟩));have aO:TabI (W4.alloc (.cells #[Value.int .i64 x.rgt] 3)).drew base O Z (Z2 left (l.take k)):=aB.bel ab;have am:=yh (show Own QO 1 3 (W4.alloc (.cells #[Value.int .i64 x.rgt] 3)).drew base (.slice I J Q) (ZOa (l.take k) d) xs from(au.bel ai).bel ab);have Y:∀q,(Value.slice I J Q).ownBlock=some q→base≤q∧q<wr.heap.size:=fun q U=>au.lt q U
   have ob:some O≠(Value.slice I J Q).ownBlock:=fun e=>by have:=(Y O e.symm).1;omega
   have pb:some P≠(Value.slice I J Q).ownBlock:=fun e=>by have:=(Y P e.symm).1;omega
   have eb:some E≠(Value.slice I J Q).ownBlock:=fun e=>by have:=(Y E e.symm).2;omega
   have b0:(W4.alloc (.cells #[Value.int .i64 x.rgt] 3)).drew.heap.size=E+2:=by show(W4.alloc (.cells #[Value.int .i64 x.rgt] 3)).heap.size=_;simp;omega
   have mv:∀(w2:World),(W4.alloc (.cells #[Value.int .i64 x.rgt] 3)).drew.grownBy w2 (Value.slice I J Q).ownBlock→∀(p j:Nat),p<E+2→some p≠(Value.slice I J Q).ownBlock→w2.cell? ⟨p,j,none⟩=(W4.alloc (.cells #[Value.int .i64 x.rgt] 3)).drew.cell? ⟨p,j,none⟩∧w2.frozen? ⟨p,j,none⟩=(W4.alloc (.cells #[Value.int .i64 x.rgt] 3)).drew.frozen? ⟨p,j,none⟩:=fun w2 F p j hp bg=>
    ⟨World.cell?_of_block (a:=⟨p,j,none⟩) (F.block p (by omega) bg),World.frozen?_of_block (a:=⟨p,j,none⟩) (F.block p (by omega) bg)⟩
   have aE:=yh (show ∀w2,(W4.alloc (.cells #[Value.int .i64 x.rgt] 3)).drew.grownBy w2 (Value.slice I J Q).ownBlock→(yJ w2 P 0 (some ⟨O,0,none⟩) left left∧yI w2 E 0 (d:Int)∧yI w2 E 1 x.rgt)∧yJ w2 O d I J Q∧w2.frozen? ⟨O,d,none⟩=false from fun w2 F=>
    ⟨⟨(mv w2 F P 0 (by omega) pb).1.trans af.out.1,(mv w2 F E 0 (by omega) eb).1.trans af.out.2.1,(mv w2 F E 1 (by omega) eb).1.trans af.out.2.2⟩,(mv w2 F O d (by omega) ob).1.trans o5,(mv w2 F O d (by omega) ob).2.trans (aO.outer.free d)⟩)
   have aw:=yh (show ∀w2 v2,(W4.alloc (.cells #[Value.int .i64 x.rgt] 3)).drew.grownBy w2 (Value.slice I J Q).ownBlock→((w2.setCell ⟨O,d,none⟩ v2).cell? ⟨P,0,none⟩=some (.slice (some ⟨O,0,none⟩) left left)∧(w2.setCell ⟨O,d,none⟩ v2).cell? ⟨E,0,none⟩=some (.int .i64 (d:Int))∧(w2.setCell ⟨O,d,none⟩ v2).cell? ⟨E,1,none⟩=some (.int .i64 x.rgt))from fun w2 v2 F=>by
    obtain⟨⟨g1,g2,g3⟩,_⟩:=aE.out w2 F;have aF:∀p j,p≠O→(w2.setCell ⟨O,d,none⟩ v2).cell? ⟨p,j,none⟩=w2.cell? ⟨p,j,none⟩:=fun p j hp=>World.cell?_of_block (a:=⟨p,j,none⟩) (Below.heap_setCell _ _ _ _ hp)
    exact⟨(aF P 0 ay).trans g1,(aF E 0 (by omega)).trans g2,(aF E 1 (by omega)).trans g3⟩)
   have aY:=yh (show ∀w2 v2 al,Own QO 1 3 w2 base v2 (ZOa (l.take k) d++[x.rgt]) al→(W4.alloc (.cells #[Value.int .i64 x.rgt] 3)).drew.grownBy w2 (Value.slice I J Q).ownBlock→(v2.ownBlock=(Value.slice I J Q).ownBlock∨v2.ownBlock=some (W4.alloc (.cells #[Value.int .i64 x.rgt] 3)).drew.heap.size)→
     (Z.set d v2).length=left∧TabI (w2.setCell ⟨O,d,none⟩ v2) base O (Z.set d v2) (Z2 left (l.take (k+1)))∧Kept (fun q=>q=O) W1 (w2.setCell ⟨O,d,none⟩ v2)from fun w2 v2 al ae F aq=>by
    refine⟨by rw[List.length_set];exact aV,?_,?_⟩
    ·have:=aO.put hv ae F aq;rw[←Qea aT,Qdb hd aT,←Qo hx]at this;exact this
    ·have h1:Kept (fun q=>q=O) W1 (W4.alloc (.cells #[Value.int .i64 x.rgt] 3)).drew:=hK.trans (Kept.of_below (ai.trans (ab.mono ai.size)) (fun q U ak=>by omega));have h2:Kept (fun q=>q=O) W1 w2:=⟨F.os.trans h1.os,F.tape.trans h1.tape,F.output.trans h1.output,Nat.le_trans h1.size F.size,fun q U bG=>(F.block q (Nat.lt_of_lt_of_le U h1.size) (fun e=>by have:=(Y q e.symm).1;omega)).trans (h1.block q U bG)⟩
     exact h2.setCell (p:=⟨O,d,none⟩) (.inl rfl) v2)
   have bf:((ZOa (l.take k) d).length+1)*8≤140737488355328:=by
    have:(ZOa (l.take k) d).length≤k:=by
     unfold ZOa;rw[List.length_map];exact Nat.le_trans (List.length_filter_le _ _) (by rw[J8];omega)
    omega
   have aR:base≤(W4.alloc (.cells #[Value.int .i64 x.rgt] 3)).drew.heap.size:=by omega
   have k0:(0:Int)≤(k:Int):=Int.natCast_nonneg _
   have k1:(k:Int)<(n:Int):=by omega
   have d0:(0:Int)≤(d:Int):=Int.natCast_nonneg _
   have d1:(d:Int)<(left:Int):=by omega
   clear hT hK aB ba aI aO ai ab bC hx hv au Y mv ix iy x0 x1 x2 x3 V p4 e4 e5 ob pb eb;subst hE;go_upto_region 5 with(fail);rw[←ap];clear ap;refine yZ (S:=fun w'=>yJ w' P 0 (some ⟨O,0,none⟩) left left∧yI w' wr.heap.size 0 (d:Int)∧yI w' wr.heap.size 1 x.rgt) aZ.out fun aa=>?_;refine wpAnyH_take (i:=0) (oi:=?o_1) (v:=?v_1) ?h_1 (by kernel_rfl) (by kernel_rfl) (by kernel_rfl) ?q_1 (Or.inl ⟨?w_1,?y_1⟩) (by assumption) ?_
   case h_1=>(simp only[List.getElem?_toArray,List.getElem?_cons_zero];rfl)
   case q_1=>exact fun _ _ _ h=>h
   case w_1=>rfl
   case y_1=>(intro w b5;(try dsimp only at b5);first|(go_simp;done)|(go_simp;with_reducible rfl))
   simp only[yU];refine wpAnyH_take (i:=1) (oi:=?o_2) (v:=?v_2) ?h_2 (by kernel_rfl) (by kernel_rfl) (by kernel_rfl) ?q_2 (Or.inl ⟨?w_2,?y_2⟩) (by assumption) ?_
   case h_2=>(simp only[List.getElem?_toArray,List.getElem?_cons_succ,List.getElem?_cons_zero];rfl)
   case q_2=>exact fun _ _ _ h=>h
   case w_2=>rfl
   case y_2=>(intro w b5;(try dsimp only at b5);first|(go_simp;done)|(go_simp;with_reducible rfl))
   simp only[yU];refine wpAnyH_take (i:=2) (oi:=?o_3) (v:=?v_3) ?h_3 (by kernel_rfl) (by kernel_rfl) (by kernel_rfl) ?q_3 (Or.inl ⟨?w_3,?y_3⟩) (by assumption) ?_
   case h_3=>(simp only[List.getElem?_toArray,List.getElem?_cons_succ,List.getElem?_cons_zero];rfl)
   case q_3=>exact fun _ _ _ h=>h
   case w_3=>rfl
   case y_3=>(intro w b5;(try dsimp only at b5);first|(go_simp;done)|(go_simp;with_reducible rfl))
   simp only[yU];refine wpAnyH_take (i:=3) (oi:=?o_4) (v:=?v_4) ?h_4 (by kernel_rfl) (by kernel_rfl) (by kernel_rfl) ?q_4 (Or.inl ⟨?w_4,?y_4⟩) (by assumption) ?_
   case h_4=>(simp only[List.getElem?_toArray,List.getElem?_cons_succ,List.getElem?_cons_zero];rfl)
   case q_4=>exact fun _ _ _ h=>h
   case w_4=>rfl
   case y_4=>(intro w b5;(try dsimp only at b5);first|(go_simp;done)|(go_simp;with_reducible rfl))
   simp only[yU];refine wpAnyH_take (i:=4) (oi:=?o_5) (v:=?v_5) ?h_5 (by kernel_rfl) (by kernel_rfl) (by kernel_rfl) ?q_5 (Or.inl ⟨?w_5,?y_5⟩) (by assumption) ?_
   case h_5=>(simp only[List.getElem?_toArray,List.getElem?_cons_succ,List.getElem?_cons_zero];rfl)
   case q_5=>exact fun _ _ _ h=>h
   case w_5=>rfl
   case y_5=>(intro w b5;(try dsimp only at b5);first|(go_simp;done)|(go_simp;with_reducible rfl))
   simp only[yU];refine wpAnyH_take (i:=5) (oi:=?o_6) (v:=?v_6) ?h_6 (by kernel_rfl) (by kernel_rfl) (by kernel_rfl) ?q_6 (Or.inl ⟨?w_6,?y_6⟩) (by assumption) ?_
   case h_6=>(simp only[List.getElem?_toArray,List.getElem?_cons_succ,List.getElem?_cons_zero];rfl)
   case q_6=>exact fun _ _ _ h=>h
   case w_6=>rfl
   case y_6=>(intro w b5;(try dsimp only at b5);first|(go_simp;done)|(go_simp;with_reducible rfl))
   simp only[yU];refine wpAnyH_take (i:=6) (oi:=?o_7) (v:=?v_7) ?h_7 (by kernel_rfl) (by kernel_rfl) (by kernel_rfl) ?q_7 (Or.inl ⟨?w_7,?y_7⟩) (by assumption) ?_
   case h_7=>(simp only[List.getElem?_toArray,List.getElem?_cons_succ,List.getElem?_cons_zero];rfl)
   case q_7=>exact fun _ _ _ h=>h
   case w_7=>rfl
   case y_7=>(intro w b5;(try dsimp only at b5);first|(go_simp;done)|(go_simp;with_reducible rfl))
   simp only[yU];refine wpAnyH_take (i:=7) (oi:=?o_8) (v:=?v_8) ?h_8 (by kernel_rfl) (by kernel_rfl) (by kernel_rfl) ?q_8 (Or.inl ⟨?w_8,?y_8⟩) (by assumption) ?_
   case h_8=>(simp only[List.getElem?_toArray,List.getElem?_cons_succ,List.getElem?_cons_zero];rfl)
   case q_8=>exact fun _ _ _ h=>h
   case w_8=>rfl
   case y_8=>(intro w b5;(try dsimp only at b5);first|(go_simp;done)|(go_simp;with_reducible rfl))
   simp only[yU];refine wpAnyH_take (i:=8) (oi:=?o_9) (v:=?v_9) ?h_9 (by kernel_rfl) (by kernel_rfl) (by kernel_rfl) ?q_9 (Or.inl ⟨?w_9,?y_9⟩) (by assumption) ?_
   case h_9=>(simp only[List.getElem?_toArray,List.getElem?_cons_succ,List.getElem?_cons_zero];rfl)
   case q_9=>exact fun _ _ _ h=>h
   case w_9=>rfl
   case y_9=>(intro w b5;(try dsimp only at b5);first|(go_simp;done)|(go_simp;with_reducible rfl))
   simp only[yU];refine wpAnyH_take (i:=9) (oi:=?o_10) (v:=?v_10) ?h_10 (by kernel_rfl) (by kernel_rfl) (by kernel_rfl) ?q_10 (Or.inl ⟨?w_10,?y_10⟩) (by assumption) ?_
   case h_10=>(simp only[List.getElem?_toArray,List.getElem?_cons_succ,List.getElem?_cons_zero];rfl)
   case q_10=>exact fun _ _ _ h=>h
   case w_10=>rfl
   case y_10=>(intro w b5;(try dsimp only at b5);first|(go_simp;done)|(go_simp;with_reducible rfl))
   simp only[yU];refine wpAnyH_take (i:=10) (oi:=?o_11) (v:=?v_11) ?h_11 (by kernel_rfl) (by kernel_rfl) (by kernel_rfl) ?q_11 (Or.inl ⟨?w_11,?y_11⟩) (by assumption) ?_
   case h_11=>(simp only[List.getElem?_toArray,List.getElem?_cons_succ,List.getElem?_cons_zero];rfl)
   case q_11=>exact fun _ _ _ h=>h
   case w_11=>rfl
   case y_11=>(intro w b5;(try dsimp only at b5);first|(go_simp;done)|(go_simp;with_reducible rfl))
   simp only[yU];refine wpAnyH_take (i:=11) (oi:=?o_12) (v:=?v_12) ?h_12 (by kernel_rfl) (by kernel_rfl) (by kernel_rfl) ?q_12 (Or.inl ⟨?w_12,?y_12⟩) (by assumption) ?_
   case h_12=>(simp only[List.getElem?_toArray,List.getElem?_cons_succ,List.getElem?_cons_zero];rfl)
   case q_12=>exact fun _ _ _ h=>h
   case w_12=>rfl
   case y_12=>(intro w b5;(try dsimp only at b5);first|(go_simp;done)|(go_simp;with_reducible rfl))
   simp only[yU];refine wpAnyH_take (i:=12) (oi:=?o_13) (v:=?v_13) ?h_13 (by kernel_rfl) (by kernel_rfl) (by kernel_rfl) ?q_13 (Or.inl ⟨?w_13,?y_13⟩) (by assumption) ?_
   case h_13=>(simp only[List.getElem?_toArray,List.getElem?_cons_succ,List.getElem?_cons_zero];rfl)
   case q_13=>exact fun _ _ _ h=>h
   case w_13=>rfl
   case y_13=>(intro w b5;(try dsimp only at b5);first|(go_simp;done)|(go_simp;with_reducible rfl))
   simp only[yU];refine wpAnyH_take (i:=14) (oi:=?o_14) (v:=?v_14) ?h_14 (by kernel_rfl) (by kernel_rfl) (by kernel_rfl) ?q_14 (Or.inl ⟨?w_14,?y_14⟩) (by assumption) ?_
   case h_14=>(simp only[List.getElem?_toArray,List.getElem?_cons_succ,List.getElem?_cons_zero];rfl)
   case q_14=>exact fun _ _ _ h=>h
   case w_14=>rfl
   case y_14=>(intro w b5;(try dsimp only at b5);first|(go_simp;done)|(go_simp;with_reducible rfl))
   simp only[yU];refine wpAnyH_take (i:=15) (oi:=?o_15) (v:=?v_15) ?h_15 (by kernel_rfl) (by kernel_rfl) (by kernel_rfl) ?q_15 (Or.inl ⟨?w_15,?y_15⟩) (by assumption) ?_
   case h_15=>(simp only[List.getElem?_toArray,List.getElem?_cons_succ,List.getElem?_cons_zero];rfl)
   case q_15=>exact fun _ _ _ h=>h
   case w_15=>rfl
   case y_15=>(intro w b5;(try dsimp only at b5);first|(go_simp;done)|(go_simp;with_reducible rfl))
   simp only[yU];refine wpAnyH_ready (rs:=[13,16]) (by kernel_rfl) (by simp) ?_;refine AllReadyH.cons (o:=?o_16) ?h_16 (fun K hK=>?_) ?m_16
   case h_16=>(simp only[List.getElem?_toArray,List.getElem?_cons_succ,List.getElem?_cons_zero];rfl)
   case m_16=>
    refine AllReadyH.cons (o:=?o_17) ?h_17 (fun K hK=>?_) AllReadyH.nil
    case h_17=>(simp only[List.getElem?_toArray,List.getElem?_cons_succ,List.getElem?_cons_zero];rfl)
    go_simp;refine hK.out _ _ (af.out) fun aa=>?_;clear hK K
    try simp only[yU]
    refine wpAnyH_ready (rs:=[13]) (by kernel_rfl) (by simp) ?_;refine AllReadyH.cons (o:=?o_18) ?h_18 (fun K hK=>?_) AllReadyH.nil
    case h_18=>(simp only[List.getElem?_toArray,List.getElem?_cons_succ,List.getElem?_cons_zero];rfl)
    go_simp;refine hK.out _ _ (af.out) fun aa=>?_;clear hK K
    try simp only[yU]
    refine wpAnyH_ready (rs:=[17]) (by kernel_rfl) (by simp) ?_;refine AllReadyH.cons (o:=?o_19) ?h_19 (fun K hK=>?_) AllReadyH.nil
    case h_19=>(simp only[List.getElem?_toArray,List.getElem?_cons_succ,List.getElem?_cons_zero];rfl)
    refine Uy (t:=70) (e:=3) (bytes:=8) (base:=base) (c:=QO) (l:=ZOa (l.take k) d) (xs:=xs) (l2:=[x.rgt]) (S:=All) rfl (.tmp 39) (.tmp 42) rfl Uv Qd rfl rfl am.out aX.out (fun _ _ hc=>hc) bf (by omega) aR ?_;intro v2 w2 al ae F aq;obtain⟨A8,n8,c8,rfl,_⟩:=ae.sl Qd;obtain⟨aM,bE,bF⟩:=aE.out w2 F;refine hK.out _ _ (aM) fun aa=>?_;clear hK K
    try simp only[yU]
    refine wpAnyH_take (i:=18) (oi:=?o_20) (v:=?v_20) ?h_20 (by kernel_rfl) (by kernel_rfl) (by kernel_rfl) ?q_20 (Or.inl ⟨?w_20,?y_20⟩) (by assumption) ?_
    case h_20=>(simp only[List.getElem?_toArray,List.getElem?_cons_succ,List.getElem?_cons_zero];rfl)
    case q_20=>exact fun _ _ _ h=>h
    case w_20=>rfl
    case y_20=>(intro w b5;(try dsimp only at b5);first|(go_simp;done)|(go_simp;with_reducible rfl))
    simp only[yU];refine wpAnyH_ready (rs:=[19]) (by kernel_rfl) (by simp) ?_;refine AllReadyH.cons (o:=?o_21) ?h_21 (fun K hK=>?_) AllReadyH.nil
    case h_21=>(simp only[List.getElem?_toArray,List.getElem?_cons_succ,List.getElem?_cons_zero];rfl)
    go_simp;refine hK.out _ _ (aw.out w2 (.slice A8 n8 c8) F) fun aa=>?_;clear hK K
    try simp only[yU]
    refine yD ?_;go_wp2_with fail;go_roundg (n-(k+1))
    case measure=>omega
    case rel=>exact⟨k+1,Z.set d (.slice A8 n8 c8),by omega,by omega,by go_num,aY.out w2 (.slice A8 n8 c8) al ae F aq⟩
   go_simp;refine hK.out _ _ (aZ.out) fun aa=>?_;clear hK K
   try simp only[yU]
   refine wpAnyH_ready (rs:=[16]) (by kernel_rfl) (by simp) ?_;refine AllReadyH.cons (o:=?o_22) ?h_22 (fun K hK=>?_) AllReadyH.nil
   case h_22=>(simp only[List.getElem?_toArray,List.getElem?_cons_succ,List.getElem?_cons_zero];rfl)
   go_simp;refine hK.out _ _ (af.out) fun aa=>?_;clear hK K
   try simp only[yU]
   refine wpAnyH_ready (rs:=[17]) (by kernel_rfl) (by simp) ?_;refine AllReadyH.cons (o:=?o_23) ?h_23 (fun K hK=>?_) AllReadyH.nil
   case h_23=>(simp only[List.getElem?_toArray,List.getElem?_cons_succ,List.getElem?_cons_zero];rfl)
   refine Uy (t:=70) (e:=3) (bytes:=8) (base:=base) (c:=QO) (l:=ZOa (l.take k) d) (xs:=xs) (l2:=[x.rgt]) (S:=All) rfl (.tmp 39) (.tmp 42) rfl Uv Qd rfl rfl am.out aX.out (fun _ _ hc=>hc) bf (by omega) aR ?_;intro v2 w2 al ae F aq;obtain⟨A8,n8,c8,rfl,_⟩:=ae.sl Qd;obtain⟨aM,bE,bF⟩:=aE.out w2 F;refine hK.out _ _ (aM) fun aa=>?_;clear hK K
   try simp only[yU]
   refine wpAnyH_take (i:=18) (oi:=?o_24) (v:=?v_24) ?h_24 (by kernel_rfl) (by kernel_rfl) (by kernel_rfl) ?q_24 (Or.inl ⟨?w_24,?y_24⟩) (by assumption) ?_
   case h_24=>(simp only[List.getElem?_toArray,List.getElem?_cons_succ,List.getElem?_cons_zero];rfl)
   case q_24=>exact fun _ _ _ h=>h
   case w_24=>rfl
   case y_24=>(intro w b5;(try dsimp only at b5);first|(go_simp;done)|(go_simp;with_reducible rfl))
   simp only[yU];refine wpAnyH_ready (rs:=[19]) (by kernel_rfl) (by simp) ?_;refine AllReadyH.cons (o:=?o_25) ?h_25 (fun K hK=>?_) AllReadyH.nil
   case h_25=>(simp only[List.getElem?_toArray,List.getElem?_cons_succ,List.getElem?_cons_zero];rfl)
   go_simp;refine hK.out _ _ (aw.out w2 (.slice A8 n8 c8) F) fun aa=>?_;clear hK K
   try simp only[yU]
   refine yD ?_;go_wp2_with fail;go_roundg (n-(k+1))
   case measure=>omega
   case rel=>exact⟨k+1,Z.set d (.slice A8 n8 c8),by omega,by omega,by go_num,aY.out w2 (.slice A8 n8 c8) al ae F aq⟩
  ·obtain rfl:k=n:=by omega
   obtain⟨W2,rfl⟩:=yE wr;have bK:=hK.size;have V:yw w W2:=HB.out.trans (hK.below HB.out.size (fun q U e=>by omega));rw[show l.take k=l from M1 (by omega)]at hT;obtain⟨N,hN⟩:=yE W2.heap.size;have aN:=hT.sl (by omega) (S:=fun b=>b≠G∧b≠P∧b<N) ⟨fun e=>a4 e.symm,fun e=>ay e.symm,by omega⟩ (fun b bR bS=>⟨by omega,by omega,by omega⟩);rw[aV]at aN
   have aw:=yh (show StAt W2 P G N (some ⟨O,0,none⟩) left left right (Z2 left l) (List.replicate right (-1))from
    ⟨aN,⟨_,HP.out.kept hK ay⟩,Blk.kept bu.out hK a4,by simp,aL,by omega,by omega,by omega⟩)
   have bm:=yh V
   have a9:w.heap.size≤N:=by have:=HB.out.size;omega
   have bv:=yh (Vlb HG.out);have bt:=yh (Qsc HG.out);clear hT hK aN aV V;go_wp2_with fail
   go_loopg [47,11] left (fun gk i nv wr=>∃(k:Nat) (X:List Int) (no:List Nat) (D:Nat→Prop) (xs:List Value),k≤left∧left-k≤gk∧i=.int .i64 k∧Own QO 1 3 wr N nv (no.map Int.ofNat) xs∧StAt wr P G N (some ⟨O,0,none⟩) left left right (Z2 left l) X∧
    Asked (U1 l) right (fun x=>x<k) X no D∧no.length≤k∧yw w wr)
   case atStart=>exact⟨0,_,[],fun _=>False,[],M0 _,by omega,rfl,Own.nil _ _ _ _ _,aw.out,Asked.start _ _ _ (fun x hx=>by omega),J5 _,bm.out⟩
   case round=>
    obtain⟨i,X,no,D,xs,hi,bU,rfl,Y,ah,aH,bY,V⟩:=hrel;have av:=yh aH;have am:=yh Y;have bN:=ah.le;have aR:=V.size;by_cases hlt2:i<left
    ·obtain⟨W3,rfl⟩:=yE wr;have bo:=yh (QWb P G N (some ⟨O,0,none⟩) left left right (Z2 left l) X W3 ah hr);have a1:=yh ah;have aD:=yh V;clear Y ah aH V;go_wp2_with fail;refine bo.out.mono ?_;rintro e w5 ⟨rfl,a7,az,a6⟩;have bb:=az.pn;have a5:=az.gn;have aS:=Xgb P G W3.heap.size (some ⟨O,0,none⟩) left left right (Z2 left l) (by omega) aL (by omega) bt.out _ X (List.replicate right false) i w5 a7 hlt2 (J5 _) (fun r hr=>(av.out.edge r hr).imp id (fun⟨d,e,h1,_⟩=>⟨d,e,by omega⟩)) (by omega);rw[bv.out]at aS;have bn:=yh aS;have bw:=yh az;have bp:=yh a6;clear a7 az a6 aS;go_wp2_with fail;refine bn.out.mono ?_;rintro e w6 ⟨b,aQ,b1,rfl,aG,ax,aP,aJ⟩;have aA:=bw.out.found (by omega) ax aG
     have an:Kept (fun q=>q=P∨q=G) W3 w6:=((bp.out.mono (T:=fun q=>q=P∨q=G∨q=W3.heap.size) (fun q _ e=>.inl e)).trans (ax.mono (fun q _ e=>.inr e))).mono (fun q U e=>by
      rcases e with e|e|e
      ·exact .inl e
      ·exact .inr e
      ·omega)
     have ao:Own QO 1 3 w6 N _ (no.map Int.ofNat) xs:=am.out.keep Qd (fun q U bH=>an.block q bH (by rintro(e|e)<;>omega));have ar:=aD.out.trans (an.below (B:=w.heap.size) (by omega) (fun q U e=>by rcases e with e|e<;>omega));have aW:=yh (show(fun x=>x<i∨x=i)=(fun x=>x<i+1)from by funext x;exact propext (by omega));have bZ:=an.size;cases b
     ·obtain⟨rfl,h6⟩:=aJ rfl;have HN:=av.out.nobody (fun d r hr=>(Zaa HG.out d r hr).2) (Nat.lt_irrefl i) h6;rw[aW.out]at HN;have HN:=yh HN;obtain⟨I,J,c7,rfl,_⟩:=ao.sl Qd;have aK:=yh (ao.bel (Qi w6 (.cells #[.int .i64 (i:Int)] 3)));have hB:=ar.alloc ar.size (.cells #[.int .i64 (i:Int)] 3);have ag:=yh (aA.bel (Qi w6 (.cells #[.int .i64 (i:Int)] 3)));have bJ:=hB.size;have bk:=yh hB
      have bD:((no.map Int.ofNat).length+1)*8≤140737488355328:=by rw[List.length_map];omega
      have a8:N≤(w6.alloc (.cells #[.int .i64 (i:Int)] 3)).heap.size:=by simp;omega
      have bs:=yh (show ∀w':World,(w6.alloc (.cells #[.int .i64 (i:Int)] 3)).grownBy w' (Value.slice I J c7).ownBlock→StAt w' P G N (some ⟨O,0,none⟩) left left right (Z2 left l) aQ from fun w' aj=>by
       have aU:∀q,q<N→w'.heap[q]? = (w6.alloc (.cells #[.int .i64 (i:Int)] 3)).heap[q]?:=fun q U=>aj.block q (by omega) (fun e=>by have:=(aK.out.lt q e.symm).1;omega);obtain⟨z,hz⟩:=ag.out.st
       exact⟨ag.out.sl.keep Xc (by omega) (fun q U _=>⟨aU q U.2.2,U⟩),⟨z,(aU P bb).trans hz⟩,(aU G a5).trans ag.out.row,ag.out.lh,aL,bb,a5,Nat.le_trans a8 aj.size⟩)
      clear ao ar hB aG ax aP aJ h6 aA an;go_wp2_with (at_builtin;refine QC (t:=70) (e:=3) (bytes:=8) rfl (.tmp 56) (.tmp 58) rfl Uv Qd rfl aK.out rfl (QLa _ All (i:Int) 3 (.of (by omega) (by omega)) trivial) (fun _ _ hc=>hc) bD (by omega) a8 ?_;intro v' w' bL bh aj _;have br:=yh bh;have bl:=yh (bk.out.grown aj bJ (fun j hj=>Nat.le_trans a9 (aK.out.lt j hj).1));have bx:=yh (bs.out w' aj);clear bh aj);go_roundg (left-(i+1))
      case measure=>omega
      case rel=>exact⟨i+1,aQ,no++[i],_,bL,by omega,by omega,by go_num,by rw[List.map_append];exact br.out,bx.out,HN.out,by rw[J9,List.length_singleton];omega,bl.out⟩
     ·have HN:=av.out.ok (Nat.lt_irrefl i) (aP rfl);rw[aW.out]at HN;have HN:=yh HN;have bq:=yh ao;have ag:=yh aA;have bj:=yh ar;clear ao ar aG ax aP aJ aA an;go_wp2_with fail;go_roundg (left-(i+1))
      case measure=>omega
      case rel=>exact⟨i+1,aQ,no,D,xs,by omega,by omega,by go_num,bq.out,ag.out,HN.out,by omega,bj.out⟩
    ·obtain rfl:i=left:=by omega
     have a1:=yh ah;have aD:=yh V;clear Y ah aH V;go_wp2_with fail;go_ret2;exact⟨P,G,N,O,_,X,no,D,xs,rfl,a1.out,am.out,av.out,bB,bA,a9,aD.out⟩
section
variable {left right:Nat} {l:List Edg} {k k2:Nat}
end
theorem XE {f:Nat→Int} : ∀{n:Nat},(∀i,i<n→f i=0)→Qn f n=0
 | 0,_=>rfl
 | n+1,h=>Z8 (XE fun i A=>h i (by omega)) (h n (by omega))
theorem UUa:ElemOf prog 74 94 2 16:=.mk' underlying74 (z:=.agg #[.int .i64 0,.int .i64 0]) (by kernel_rfl) rfl (by omega)
theorem Ztb (w:World)(S:Nat→Prop)(a b:Int)(t:TypeId)(D:InI a)(E:InI b)(A:S w.heap.size):Sl Xn 2 (w.alloc (.cells #[.int .i64 a,.int .i64 b] t)) S (some ⟨w.heap.size,0,none⟩) 1 1 [⟨a,b⟩]:=
 Sl.lit1 w S t (⟨a,b⟩:Edg) [.int .i64 a,.int .i64 b] ⟨rfl,D,E⟩ A
end Go.Proofs.YtjdcokpmgionjaaGreat
