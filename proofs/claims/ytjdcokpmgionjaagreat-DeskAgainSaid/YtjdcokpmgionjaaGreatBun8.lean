/-
  Words, laws and contracts: SpanB, SpanC, SpanS, SpanE, SpanG, SpanH, SpanI, SpanJ, SpanL.
-/
import Derived.Test.YtjdcokpmgionjaaGreatBun0
import Derived.LoopN
import Derived.Test.YtjdcokpmgionjaaGreatSortSpan
import Derived.Deep.RegionLaw
import Derived.Deep.RegionWith
set_option linter.unusedSimpArgs false
set_option linter.unusedVariables false
set_option maxRecDepth 100000
set_option maxHeartbeats 20000000
namespace Go.Proofs.YtjdcokpmgionjaaGreat
open Go.RowKit Go.Shelf
instance spanK:CodK Ug 2:=⟨Ql,by omega⟩
theorem UW:ElemOf Tryz.prog 79 51 2 16:=.mk' Tryz.underlying79 (z:=.agg #[.int .i64 0,.int .i64 0]) (by kernel_rfl) rfl (by omega)
theorem XT (w:World)(S:Nat→Prop)(a b:Int)(t:TypeId)(D:InI a)(E:InI b)(A:S w.heap.size):Sl Ug 2 (w.alloc (.cells #[.int .i64 a,.int .i64 b] t)) S (some ⟨w.heap.size,0,none⟩) 1 1 [⟨a,b⟩]:=
 Sl.lit1 w S t (⟨a,b⟩:Span) [.int .i64 a,.int .i64 b] ⟨rfl,D,E⟩ A
def Q2 (a b:Span):Bool:=decide (a.frm < b.upto) && decide (b.frm < a.upto)
theorem V2b (a b c d:Int)(w:World):Calls Tryz.prog 196 #[.agg #[.int .i64 a,.int .i64 b],.agg #[.int .i64 c,.int .i64 d]] w fun e w'=>e=.returned (.bool (Q2 ⟨a,b⟩ ⟨c,d⟩))∧yw w w':=by
 by_cases h1:a < d
 ·by_cases h2:c < b
  ·have A:=yh (show Q2 ⟨a,b⟩ ⟨c,d⟩=true by simp[Q2,h1,h2])
   go_enter Tryz.func196,Tryz.ntmps196
   go_wp2_with fail
   go_ret
   exact⟨ZN (by rw[A.out]),Zh _ _ _⟩
  ·have A:=yh (show Q2 ⟨a,b⟩ ⟨c,d⟩=false by simp[Q2];omega)
   go_enter Tryz.func196,Tryz.ntmps196
   go_wp2_with fail
   go_ret
   exact⟨ZN (by rw[A.out]),Zh _ _ _⟩
 ·have A:=yh (show Q2 ⟨a,b⟩ ⟨c,d⟩=false by simp[Q2];omega)
  go_enter Tryz.func196,Tryz.ntmps196
  go_wp2_with fail
  go_ret
  exact⟨ZN (by rw[A.out]),Zh _ _ _⟩
theorem Q3c {s:Span}{A:Int}(h:Vg s A=0):1≤A∧A≤7∧0≤s.frm∧s.frm < s.upto∧s.upto≤A:=by
 unfold Vg at h
 by_cases e:Xq A=false∨s.frm < 0∨A < s.upto
 ·rw[if_pos e]at h;omega
 ·rw[if_neg e]at h
  by_cases e2:s.upto≤s.frm
  ·rw[if_pos e2]at h;omega
  ·have D:Qc A 1 7=true:=by
    cases q:Qc A 1 7 with
    | true=>rfl
    | false=>exact absurd (.inl q) e
   have:=Qj.1 D;omega
def gap (a b:Int):List Span:=if a < b then [⟨a,b⟩]else []
def U1b (acc:List Span×Int) (s:Span):List Span×Int:=(acc.1++gap acc.2 s.frm,s.upto)
def Xm (l:List Span):List Span×Int:=l.foldl U1b ([],0)
def V4a (l:List Span) (legs:Int):List Span:=(Xm l).1++gap (Xm l).2 legs
theorem UMa (l:List Span)(x:Span):Xm (l++[x])=U1b (Xm l) x:=by simp[Xm]
theorem Qkc (a b:Int):(gap a b).length≤1:=by unfold gap;split<;>simp
theorem U2b (l:List Span):(Xm l).1.length≤l.length:=by
 have E:∀(l:List Span) (A:List Span×Int),(l.foldl U1b A).1.length≤A.1.length+l.length:=by
  intro l
  induction l with
  | nil=>intro A;simp
  | cons x l ih=>
   intro A;rw[List.foldl_cons];have D:=ih (U1b A x);have F:=Qkc A.2 x.frm;simp only[U1b,List.length_append,List.length_cons]at D ⊢;omega
 have:=E l ([],0)
 simpa [Xm] using this
theorem XEb {l:List Span}(h:∀x∈l,InI x.upto):InI (Xm l).2:=by
 rcases List.eq_nil_or_concat l with rfl | ⟨A,x,rfl⟩
 ·exact .of (by decide) (by decide)
 ·rw[List.concat_eq_append,UMa];exact h x (by simp)
structure Gapw (w:World) (O D:Nat) (t:Int) (l:List Span) (W:World) (A:Option Addr) (n cap:Nat) (xs:List Value):Prop where
 o:W.heap[O]? = some (.cells #[.slice A n cap] 79 (0,0))
 d:W.heap[D]? = some (.cells #[.int .i64 t] 3 (0,0))
 own:Own Ug 2 51 W w.heap.size (.slice A n cap) l xs
 ne:(Value.slice A n cap).ownBlock≠some O
 neD:(Value.slice A n cap).ownBlock≠some D
 od:O≠D
 b:yw w W
 le:w.heap.size≤O
 leD:w.heap.size≤D
 len:l.length≤10000
def Zjc (w:World) (O D:Nat) (t:Int) (l:List Span) (W:World) (r:Option Nat) (W':World):Prop:=
 ∃A n cap xs,Gapw w O D t l W' A n cap xs∧∀k,k < W.heap.size→k≠O→some k≠r→W'.heap[k]? = W.heap[k]?
theorem ZTb (w:World)(O D:Nat)(t:Int)(l:List Span)(W:World)(A:Option Addr)(n cap:Nat)(xs:List Value)(m:Int)(h:Gapw w O D t l W A n cap xs)(ht:InI t)(hm:InI m)(hl:l.length≤9000) :
  Calls Tryz.prog 197 #[.int .i64 m,.pointer (some ⟨D,0,none⟩),.pointer (some ⟨O,0,none⟩)] W fun e W'=>e=.returned (.tuple #[])∧Zjc w O D t (l++gap t m) W (Value.slice A n cap).ownBlock W':=by
 have ho:=cell_of_one h.o;have aj:=free_of_one h.o;have ah:=cell_of_one h.d;have hO:=lt_of_block h.o;have hD:=lt_of_block h.d
 by_cases hm0:t < m
 ·have Q:=yh hl
  have I:=yh (show gap t m=[⟨t,m⟩]from if_pos hm0);clear hl
  go_enter Tryz.func197,Tryz.ntmps197
  have af:=h.own.below Ql ((Below.refl W.heap.size W).alloc (Nat.le_refl _) (.cells #[.int .i64 t,.int .i64 m] 51));have ad:=h.b.size
  go_wp2_with (at_builtin;refine QC (t:=79) (e:=51) (bytes:=16) rfl (.tmp 7) (.tmp 11) rfl UW Ql rfl af rfl (XT W All t m 51 ht hm trivial) (fun _ _ hc=>hc) (by have:=Q.out;omega) (by omega) (by simp;omega) ?_;intro v2 Z ag Y am V;obtain⟨F,n2,J,rfl,al⟩:=Y.sl Ql;have E:=am.block O (by simp;omega) (fun e=>h.ne e.symm);have U:=am.block D (by simp;omega) (fun e=>h.neD e.symm);rw[Below.heap_alloc _ _ _ hO,h.o]at E;rw[Below.heap_alloc _ _ _ hD,h.d]at U;have ak:=cell_of_one E;have ai:=free_of_one E)
  go_end0
  rw[I.out]
  have hz:W.heap.size < Z.heap.size:=by have:=am.size;simp at this;omega
  have aa:yw w Z:=(h.b.alloc ad _).grown am (by simp;omega) (fun j hj=>(h.own.lt j hj).1)
  have X:(Value.slice F n2 J).ownBlock≠some O:=by
   rcases V with e | e<;>rw[e]
   ·exact h.ne
   ·intro he;injection he with he;simp at he;omega
  have ae:(Value.slice F n2 J).ownBlock≠some D:=by
   rcases V with e | e<;>rw[e]
   ·exact h.neD
   ·intro he;injection he with he;simp at he;omega
  refine⟨rfl,F,n2,J,ag,⟨one_setCell E,?_,QY XU Y X _,X,ae,h.od,aa.setCell (p:=⟨O,0,none⟩) h.le _,h.le,h.leD,?_⟩,fun k hk ab ac=>?_⟩
  ·exact(Below.heap_setCell _ _ _ _ (fun e=>h.od e.symm)).trans U
  ·rw[List.length_append];have:=Q.out;simp;omega
  ·exact(Below.heap_setCell _ _ _ _ ab).trans ((am.block k (by simp;omega) ac).trans (Below.heap_alloc _ _ _ hk))
 ·have I:=yh (show gap t m=[]from if_neg hm0)
  go_enter Tryz.func197,Tryz.ntmps197
  go_wp2_with fail
  go_end0
  exact⟨rfl,A,n,cap,xs,by rw[I.out,List.append_nil];exact h,fun _ _ _ _=>rfl⟩
theorem QUb {w W F:World}{O D:Nat}{t:Int}{l:List Span}{A:Option Addr}{n cap:Nat}{xs:List Value}(h:Gapw w O D t l W A n cap xs)(E:yw W F):Gapw w O D t l F A n cap xs:=
 ⟨(E.block _ (lt_of_block h.o)).trans h.o,(E.block _ (lt_of_block h.d)).trans h.d,h.own.bel E,h.ne,h.neD,h.od,h.b.trans (E.mono h.b.size),h.le,h.leD,h.len⟩
theorem VZb (A:Option Addr)(n cap:Nat)(l:List Span)(E:Int)(w:World)(h:Sl Ug 2 w All A n cap l)(hn:l.length≤1000)(hi:InI E) :
  Calls Tryz.prog 113 #[.slice A n cap,.int .i64 E] w fun e w'=>∃v xs,e=.returned v∧Own Ug 2 51 w' w.heap.size v (V4a l E) xs∧yw w w':=by
 have ah:=h.bd;have af:=yh h.len;have eg:=enters_of Tryz.func197 (by kernel_rfl) rfl
 have h0:Gapw w w.heap.size (w.heap.size+1) 0 [] ((w.alloc (.cells #[.slice none 0 0] 79)).alloc (.cells #[.int .i64 0] 3)) none 0 0 []:=
  ⟨QA _ _ _,QB _ _ _,Own.nil _ _ _ _ _,by simp[Value.ownBlock],by simp[Value.ownBlock],by omega,Zh _ _ _,Nat.le_refl _,by omega,by simp⟩
 have HN:=yh hn;clear hn
 go_enter Tryz.func113,Tryz.ntmps113
 go_wp2_with fail
 go_loopg [13] n (fun gk i wr=>∃k:Nat,k≤n∧n - k≤gk∧i=.int .i64 k∧∃I X O Y,Gapw w w.heap.size (w.heap.size+1) (Xm (l.take k)).2 (Xm (l.take k)).1 wr I X O Y)
 case atStart=>exact⟨0,Nat.zero_le _,by omega,rfl,_,_,_,_,h0⟩
 case round=>
  obtain⟨k,hk,ak,rfl,I,X,O,Y,hG⟩:=hrel;obtain⟨t,V⟩:∃t,t=(Xm (l.take k)).2:=⟨_,rfl⟩;obtain⟨L,Q⟩:∃L,L=(Xm (l.take k)).1:=⟨_,rfl⟩
  have ac:InI t:=by
   rw[V]
   refine XEb fun x W=>?_
   obtain⟨i,hi⟩:=List.getElem?_of_mem (List.mem_of_mem_take W);obtain⟨_,_,_,_,_,U,_⟩:=h.rd i x hi;exact U.2.2
  have al:L.length≤1000:=by
   rw[Q];have h1:=U2b (l.take k);have h2:(l.take k).length≤l.length:=List.length_take_le' _ _;have:=HN.out;omega
  rw[←V,←Q]at hG;have HT:=yh V;have HL:=yh Q;clear V Q
  by_cases hlt:k < n
  ·obtain⟨b,ao,x,c0,c1,rfl,W,⟨U,b0,b1⟩,g0,g1⟩:=(h.below Ql (by omega) hG.b).at2 hlt
   simp only[List.cons.injEq,and_true]at U;obtain⟨rfl,rfl⟩:=U;have HS:=yh (show Xm (l.take (k+1))=(L++gap t x.frm,x.upto)by rw[Qn W,UMa,U1b,HT.out,HL.out]);clear W;have ab:=QUb hG (Qf wr (.cells #[.int .i64 x.frm,.int .i64 x.upto] 51));have hX:=SpanAt.new wr x.frm x.upto;have F:=ZTb w w.heap.size (w.heap.size+1) t L _ I X O Y x.frm ab ac b0 (by omega);have an:=hG.b.size;have ad:=hG.own.lt;have Z:=yh F;clear F;have HX:=yh hX;clear hX;have HO:=yh ad;clear ad;have ag:=yh hG.o;have HG:=yh hG;clear hG ab
   go_wp2_with fail
   refine Z.out.mono ?_;rintro e w2 ⟨rfl,A2,n2,aa,ae,D,hK⟩;have e1:=hK wr.heap.size (by simp) (by have:=lt_of_block ag.out;omega) (by intro e;have:=(HO.out _ e.symm).2;omega);clear hK;have x1:=ZE (e1.trans HX.out) (j:=1) rfl;clear e1;have ai:=cell_of_one D.d;have aj:=free_of_one D.d;have J:=yh D;clear D
   go_wp2_with fail
   go_roundg (n - (k+1))
   case measure=>omega
   case rel=>
    refine⟨k+1,by omega,by omega,by go_num,A2,n2,aa,ae,?_⟩;rw[HS.out];have g:=J.out;exact⟨(Below.heap_setCell _ _ _ _ g.od).trans g.o,one_setCell g.d,QY XU g.own g.neD _,g.ne,g.neD,g.od,g.b.setCell (p:=⟨w.heap.size+1,0,none⟩) g.leD _,g.le,g.leD,g.len⟩
  ·obtain rfl:k=n:=by omega
   have HF:=yh (List.take_of_length_le (Nat.le_of_eq af.out));have F:=ZTb w w.heap.size (w.heap.size+1) t L _ I X O Y E hG ac hi (by omega);have Z:=yh F;clear F;have HV:=yh (show V4a l E=L++gap t E by unfold V4a;rw[HT.out,HL.out,HF.out])
   go_wp2_with fail
   refine Z.out.mono ?_;rintro e w2 ⟨rfl,A2,n2,aa,ae,D,hK⟩;clear hK;have am:=cell_of_one D.o;have J:=yh D;clear D
   go_wp2_with fail
   go_ret
   exact⟨_,_,rfl,by rw[HV.out];exact J.out.own,J.out.b⟩
end Go.Proofs.YtjdcokpmgionjaaGreat
namespace Go.Proofs.YtjdcokpmgionjaaGreat
open Go.RowKit Go.Shelf Go.Lib
open Go.Sort hiding Below
def QFa (x:Span):List Value:=[.int .i64 x.frm,.int .i64 x.upto]
abbrev Q4a:={ x:Span // -1000≤x.frm∧x.frm≤1000 }
instance:Inhabited Q4a:=⟨⟨⟨0,0⟩,by decide,by decide⟩⟩
def Ve (x:Q4a):List Value:=QFa x.1
def XW (x y:Q4a):Int:=x.1.frm - y.1.frm
theorem UFc:Go.Sort.SWO (ltOf XW):=⟨fun x=>by simp[ltOf,XW],fun x y z A D=>by
 have A:XW x y < 0:=of_decide_eq_true A;have D:XW y z < 0:=of_decide_eq_true D;refine decide_eq_true ?_;unfold XW at *
 omega,fun x y z A D=>by
 have A:¬XW x y < 0:=of_decide_eq_false A;have D:¬XW y z < 0:=of_decide_eq_false D;refine decide_eq_false ?_;unfold XW at *;omega⟩
section
variable {α:Type} [Inhabited α] {enc:α→List Value} {k:Nat} {w:World} {blk n j:Nat} {d':Array α} {os:Array Obj}
theorem VAa (D:j < w.heap.size)(E:j≠blk):(sortWorldK enc k w blk 0 n d' os).heap[j]? = w.heap[j]?:=by
 have A:(w.heap.modify blk (Go.Sort.onCells (Go.Sort.putCells id 0 (flatK enc k d')))).size=w.heap.size:=by simp
 unfold sortWorldK Go.Sort.grow putRowK Go.Sort.putRow Go.Sort.mapBlock Go.Sort.ahead;simp only;rw[Array.getElem?_append_left (by rw[A];exact D),Array.getElem?_modify,if_neg (fun e=>E e.symm)]
theorem XXa {A:Array Value}{e:TypeId}(h:w.heap[blk]? = some (.cells A e (0,0))):(sortWorldK enc k w blk 0 n d' os).heap[blk]? = some (.cells (Go.Sort.putCells id 0 (flatK enc k d') A) e (0,0)):=by
 have D:(w.heap.modify blk (Go.Sort.onCells (Go.Sort.putCells id 0 (flatK enc k d')))).size=w.heap.size:=by simp
 unfold sortWorldK Go.Sort.grow putRowK Go.Sort.putRow Go.Sort.mapBlock Go.Sort.ahead;simp only;rw[Array.getElem?_append_left (by rw[D];exact(Array.getElem?_eq_some_iff.1 h).1),Array.getElem?_modify,if_pos rfl,h]
 rfl
theorem Vaa:w.heap.size≤(sortWorldK enc k w blk 0 n d' os).heap.size:=by
 unfold sortWorldK Go.Sort.grow putRowK Go.Sort.putRow Go.Sort.mapBlock Go.Sort.ahead
 simp
theorem U9a:Kept (fun j=>j=blk) w (sortWorldK enc k w blk 0 n d' os):=⟨rfl,rfl,rfl,Vaa,fun _ D A=>VAa D A⟩
end
theorem ZSb (d:Array Q4a)(i j:Nat)(A:i < d.size)(D:j < 2):(flatK Ve 2 d)[i*2+j]! = (Ve d[i]!)[j]!:=by
 rw[get_flatK _ _ _ _ (by omega),show(i*2+j) / 2=i by omega,show(i*2+j) % 2=j by omega]
end Go.Proofs.YtjdcokpmgionjaaGreat
namespace Go.Proofs.YtjdcokpmgionjaaGreat
open Go.RowKit Go.Shelf
theorem Qjc (l:List Span):∀i x,l[i]? = some x→∀j u,(QFa x)[j]? = some u→(l.flatMap QFa)[i*2+j]? = some u:=by
 induction l with
 | nil=>intro i x h;simp at h
 | cons y l ih=>
  intro i x h j u D;have E:j < 2:=(List.getElem?_eq_some_iff.1 D).1
  have A:∀x,(QFa x).length=2:=fun _=>rfl
  rw[List.flatMap_cons]
  cases i with
  | zero=>
   simp at h;subst h
   rw[List.getElem?_append_left (by rw[A];omega)];simpa using D
  | succ i=>
   rw[List.getElem?_append_right (by rw[A];omega),A,show(i+1)*2+j - 2=i*2+j by omega];exact ih i x (by simpa using h) j u D
def Z2 (s:Span):List Span→List Span
 | []=>[s]
 | x::l=>if s.frm < x.frm then s::x::l else x::Z2 s l
theorem UOa (s:Span)(l:List Span):(Z2 s l).Perm (l++[s]):=by
 induction l with
 | nil=>exact List.Perm.refl _
 | cons x l ih=>
  unfold Z2
  split
  ·exact(List.perm_append_singleton s (x::l)).symm
  ·exact ih.cons x
theorem VBa {l m:List Span}(A:l.Perm m)(D:l.Pairwise (fun x y=>x.frm≤y.frm))(E:m.Pairwise (fun x y=>x.frm < y.frm)):l=m:=by
 induction m generalizing l with
 | nil=>exact A.eq_nil
 | cons y m ih=>
  cases l with
  | nil=>exact absurd A.symm.eq_nil (by simp)
  | cons x l=>
   rw[List.pairwise_cons]at D E;have F:x∈y::m:=A.subset (List.mem_cons_self ..);have I:y∈x::l:=A.symm.subset (List.mem_cons_self ..)
   have J:x=y:=by
    rcases List.mem_cons.1 F with e | F
    ·exact e
    ·rcases List.mem_cons.1 I with e | I
     ·exact e.symm
     ·have O:=D.1 y I
      have Q:=E.1 x F;omega
   subst J;rw[ih (List.Perm.cons_inv A) D.2 E.2]
theorem UUa {x s:Span}(h:Q2 x s=false)(_:x.frm < x.upto)(_:s.frm < s.upto):x.upto≤s.frm∨s.upto≤x.frm:=by
 unfold Q2 at h
 simp at h
 omega
theorem XMb {s:Span}{l:List Span}(J:s.frm < s.upto)(E:∀x∈l,x.frm < x.upto)(D:l.Pairwise (fun x y=>x.upto≤y.frm))(I:l.any (fun x=>Q2 x s)=false):(Z2 s l).Pairwise (fun x y=>x.upto≤y.frm):=by
 induction l with
 | nil=>simp[Z2]
 | cons x l ih=>
  rw[List.pairwise_cons]at D;have F:=List.any_eq_false.1 I;have O:=E x (List.mem_cons_self ..);have U:=UUa (by simpa using F x (List.mem_cons_self ..)) O J;unfold Z2
  split
  ·next h=>
   rw[List.pairwise_cons,List.pairwise_cons];refine⟨fun y A=>?_,D⟩
   rcases List.mem_cons.1 A with rfl | A
   ·omega
   ·have Q:=D.1 y A
    omega
  ·next h=>
   rw[List.pairwise_cons];refine⟨fun y A=>?_,ih (fun y A=>E y (List.mem_cons_of_mem _ A)) D.2 (List.any_eq_false.2 fun y A=>F y (List.mem_cons_of_mem _ A))⟩
   rcases List.mem_append.1 ((UOa s l).subset A)with A | A
   ·exact D.1 y A
   ·simp only[List.mem_singleton]at A
    subst A;omega
theorem QJc {l:List Span}(E:∀x∈l,x.frm < x.upto)(A:l.Pairwise (fun x y=>x.upto≤y.frm)):l.Pairwise (fun x y=>x.frm < y.frm):=by
 induction l with
 | nil=>exact List.Pairwise.nil
 | cons x l ih=>
  rw[List.pairwise_cons]at A ⊢;refine⟨fun y D=>?_,ih (fun y D=>E y (List.mem_cons_of_mem _ D)) A.2⟩;have:=A.1 y D;have:=E x (List.mem_cons_self ..);omega
theorem Urb (x y:Span)(W:World):(binOp .neq 51 (.agg #[.int .i64 x.frm,.int .i64 x.upto]) (.agg #[.int .i64 y.frm,.int .i64 y.upto])).run Tryz.prog W=.ok (.bool (decide (x≠y))) W:=by
 obtain⟨a,b⟩:=x;obtain⟨c,d⟩:=y;simp only[Span.mk.injEq,ne_eq];go_simp
 repeat' split
 all_goals simp_all
theorem Vqa (A B:Option Addr)(n cap m V:Nat)(l l2:List Span)(w:World)(h:Sl Ug 2 w All A n cap l)(h2:Sl Ug 2 w All B m V l2) :
  Calls Tryz.prog 67 #[.slice A n cap,.slice B m V] w fun e w'=>e=.returned (.bool (decide (l=l2)))∧∃q,w'=w.drewN q:=by
 have aa:=h.bd;have X:=yh h.len;have Y:=yh h2.len
 by_cases hnm:n=m
 ·subst hnm
  go_enter Tryz.func67,Tryz.ntmps67
  go_wp2_with fail
  go_loopg [5] n (fun gk i wr=>∃k q:Nat,k≤n∧n - k≤gk∧i=.int .i64 k∧Aside (∀j,j < k→l[j]? = l2[j]?)∧wr=w.drewN q)
  case atStart=>exact⟨0,0,Nat.zero_le _,by omega,rfl,fun j F=>absurd F (by omega),rfl⟩
  case round=>
   obtain⟨k,q,hk,ab,rfl,Q,rfl⟩:=hrel
   by_cases hlt:k < n
   ·obtain⟨b,af,x,c0,c1,rfl,Z,D,g0,g1⟩:=h.at2 hlt
    obtain⟨D,hw⟩:=D;simp only[List.cons.injEq,and_true]at D;obtain⟨rfl,rfl⟩:=D;obtain⟨b',ag,y,d0,d1,rfl,hy,E,e0,e1⟩:=h2.at2 hlt;obtain⟨E,ae⟩:=E;simp only[List.cons.injEq,and_true]at E;obtain⟨rfl,rfl⟩:=E;have U:=yh Z;have O:=yh hy;clear Z hy
    have ad:=fun W=>Urb x y W
    by_cases hxy:x=y
    ·have he:(decide (x≠y))=false:=by subst hxy;simp
     have J:=yh hxy;clear hxy
     go_wp2_with fail
     go_quiet (fail)
     go_wp2_with fail
     go_roundg (n - (k+1))
     case measure=>omega
     case rel=>
      refine⟨k+1,_,by omega,by omega,by go_num,(show Aside _ from fun j F=>?_),rfl⟩
      by_cases e:j=k
      ·subst e;rw[U.out,O.out,J.out]
      ·exact Q.out j (by omega)
    ·have he:(decide (x≠y))=true:=by simpa using hxy
     have J:=yh hxy;clear hxy
     go_wp2_with fail
     go_quiet (fail)
     go_wp2_with fail
     go_ret
     refine⟨ZN ?_,_,World.drewN_drewN _ _ _⟩
     symm
     rw[decide_eq_false_iff_not];intro ah;subst ah;rw[U.out]at O;exact J.out (by have:=O.out;injection this)
   ·obtain rfl:k=n:=by omega
    have ah:l=l2:=by
     apply List.ext_getElem?
     intro j
     by_cases F:j < k
     ·exact Q.out j F
     ·rw[List.getElem?_eq_none (by rw[X.out];omega),List.getElem?_eq_none (by rw[Y.out];omega)]
    have I:=yh ah;clear ah
    go_wp2_with fail
    go_ret
    exact⟨ZN (by rw[decide_eq_true I.out]),_,rfl⟩
 ·have ac:((n:Int) != (m:Int))=true:=by simp;omega
  have ah:¬l=l2:=fun e=>hnm (by rw[←X.out,←Y.out,e])
  have I:=yh ah;clear ah hnm
  go_enter Tryz.func67,Tryz.ntmps67
  go_wp2_with fail
  go_ret
  exact⟨ZN (by rw[decide_eq_false I.out]),0,rfl⟩
theorem Sl.ofSpans {w:World}{S:Nat→Prop}{b:Nat}{A:Array Value}{t:TypeId}(l:List Span)(h:Blk w b A t)(O:l.length≤1000)(E:S b)(F:A.toList=l.flatMap QFa)(I:∀x∈l,InI x.frm∧InI x.upto) :
  Sl Ug 2 w S (some ⟨b,0,none⟩) l.length l.length l:=
 Sl.ofBlk h l (by omega) E fun i x D=>⟨QFa x,⟨rfl,I x (List.mem_of_getElem? D)⟩,rfl,fun j u J=>by
  have:=Qjc l i x D j u J;rw[←F]at this
  simpa using this⟩
def ZVc (i:Int) (x:Span):Bool:=decide (x.frm≤i) && decide (i < x.upto)
def cnt (i:Int) (l:List Span):Int:=((l.filter (ZVc i)).length:Int)
def X6 (x:Span):Prop:=0≤x.frm∧x.frm < x.upto∧x.upto≤7
def URa (i:Int) (x:Span):Bool:=Qc i x.frm (x.upto - 1)
theorem XVb {x y:Span}(_:X6 x)(_:X6 y){i:Int}(h:URa i x=true)(A:URa i y=true):Q2 x y=true:=by
 unfold URa at h A;rw[Qj]at h A;unfold Q2
 simp
 omega
theorem Vib {x y:Span}(A:X6 x)(D:X6 y)(h:∀i:Nat,i < 7→(URa i x && URa i y)=false):Q2 x y=false:=by
 cases q:Q2 x y with
 | false=>rfl
 | true=>
  unfold Q2 at q
  simp at q
  obtain⟨E,F,I⟩:=A;obtain⟨J,O,Q⟩:=D;obtain⟨i,U⟩:=Int.eq_ofNat_of_zero_le (show 0≤max x.frm y.frm by omega);have:=h i (by omega);rw[show URa (i:Int) x=true from QX (by omega) (by omega),show URa (i:Int) y=true from QX (by omega) (by omega)]at this;exact absurd this (by decide)
theorem Qtb (x y:Span)(w:World)(F:X6 x)(I:X6 y):Calls Tryz.prog 240 #[.agg #[.int .i64 x.frm,.int .i64 x.upto],.agg #[.int .i64 y.frm,.int .i64 y.upto]] w fun e w'=>e=.returned (.bool (Q2 x y))∧yw w w':=by
 obtain⟨r,E⟩:∃r,r=Q2 x y:=⟨_,rfl⟩;rw[←E]
 have ab:wrap64 (x.upto - 1)=x.upto - 1:=by unfold X6 at F;unfold wrap64;omega
 have ac:wrap64 (y.upto - 1)=y.upto - 1:=by unfold X6 at I;unfold wrap64;omega
 have X:=yh F;clear F;have Y:=yh I;clear I;have W:=yh E;clear E
 go_enter Tryz.func240,Tryz.ntmps240
 go_upto_region 0 with(fail)
 go_cut [2,3] (fun p q J=>∃g k,p=.pointer (some ⟨g,0,none⟩)∧q=.pointer (some ⟨k,0,none⟩)∧SpanAt J g x.frm x.upto∧SpanAt J k y.frm y.upto∧yw w J)
 case first=>as_aux_lemma=>
  go_wp2_with fail
  go_meet
  exact⟨_,_,rfl,rfl,QA _ _ _,QB _ _ _,Zh _ _ _⟩
 obtain⟨g,k,rfl,rfl,Z,hT,hb⟩:=hcut;have c0:=Z.c0;have c1:=Z.c1;have d0:=hT.c0;have d1:=hT.c1
 go_wp2_with fail
 go_loopg [5] 7 (fun gk i wr=>∃k:Nat,k≤7∧7 - k≤gk∧i=.int .i64 k∧Aside (∀j:Nat,j < k→(URa j x && URa j y)=false)∧wr=wc)
 case atStart=>exact⟨0,by omega,by omega,rfl,fun j A=>absurd A (by omega),rfl⟩
 case round=>
  obtain⟨i,hi,aa,rfl,D,rfl⟩:=hrel
  by_cases hlt:i < 7
  ·go_wp2_with fail
   refine(Qk (i:Int) x.frm (x.upto - 1) _).mono ?_;rintro e w9 ⟨rfl,rfl⟩;have U:=yh (show URa (i:Int) x=Qc (i:Int) x.frm (x.upto - 1)from rfl);have V:=yh (show URa (i:Int) y=Qc (i:Int) y.frm (y.upto - 1)from rfl)
   cases q_HB1:Qc (i:Int) x.frm (x.upto - 1)<;>have O:=yh q_HB1<;>clear q_HB1
   ·go_wp2_with fail
    go_roundg (7 - (i+1))
    case measure=>omega
    case rel=>exact⟨i+1,by omega,by omega,by go_num,(show Aside _ from fun j A=>by
     by_cases e:j=i
     ·subst e;rw[U.out,O.out];rfl
     ·exact D j (by omega)),rfl⟩
   ·go_wp2_with fail
    refine(Qk (i:Int) y.frm (y.upto - 1) _).mono ?_;rintro e w9 ⟨rfl,rfl⟩
    cases q_HB2:Qc (i:Int) y.frm (y.upto - 1)<;>have Q:=yh q_HB2<;>clear q_HB2
    ·go_wp2_with fail
     go_roundg (7 - (i+1))
     case measure=>omega
     case rel=>exact⟨i+1,by omega,by omega,by go_num,(show Aside _ from fun j A=>by
      by_cases e:j=i
      ·subst e;rw[V.out,Q.out,Bool.and_false]
      ·exact D j (by omega)),rfl⟩
    ·obtain rfl:r=true:=by rw[W.out];exact XVb X.out Y.out (U.out.trans O.out) (V.out.trans Q.out)
     go_wp2_with fail
     go_ret
     exact⟨rfl,hb⟩
  ·obtain rfl:i=7:=by omega
   obtain rfl:r=false:=by rw[W.out];exact Vib X.out Y.out fun j A=>D j A
   go_wp2_with fail
   go_ret
   exact⟨rfl,hb⟩
def X2 (s:Span) (l:List Span):Bool:=l.any (fun x=>decide (s.frm < x.frm))
def ZT (s:Span) (l:List Span):List Span:=if X2 s l then Z2 s l else l
theorem YIa {s:Span}{m:List Span}(h:X2 s m=false)(r:List Span):Z2 s (m++r)=m++Z2 s r:=by
 induction m with
 | nil=>rfl
 | cons y m ih=>
  unfold X2 at h;rw[List.any_cons,Bool.or_eq_false_iff]at h;have A:¬s.frm < y.frm:=of_decide_eq_false h.1
  show Z2 s (y::(m++r))=y::(m++Z2 s r)
  rw[Z2,if_neg A,ih h.2]
theorem Qpc {s x:Span}{m:List Span}(h:X2 s m=true):Z2 s (m++[x])=Z2 s m++[x]:=by
 induction m with
 | nil=>simp[X2]at h
 | cons y m ih=>
  show Z2 s (y::(m++[x]))=_
  rw[Z2,Z2]
  by_cases hy:s.frm < y.frm
  ·rw[if_pos hy,if_pos hy];rfl
  ·rw[if_neg hy,if_neg hy]
   unfold X2 at h;rw[List.any_cons,decide_eq_false hy,Bool.false_or]at h;rw[ih h];rfl
theorem Vv {s x:Span}{l:List Span}{k:Nat}(h:l[k]? = some x):X2 s (l.take (k+1))=(X2 s (l.take k) || decide (s.frm < x.frm)):=QF h
theorem Ypb {s x:Span}{l:List Span}{k:Nat}(h:l[k]? = some x)(A:X2 s (l.take k)=true):ZT s (l.take (k+1))=ZT s (l.take k)++[x]:=by
 unfold ZT;rw[Vv h,A,Bool.true_or,if_pos rfl,if_pos rfl,Qn h,Qpc A]
theorem Yob {s x:Span}{l:List Span}{k:Nat}(h:l[k]? = some x)(A:X2 s (l.take k)=false)(D:s.frm < x.frm):ZT s (l.take (k+1))=ZT s (l.take k)++[s]++[x]:=by
 unfold ZT;rw[Vv h,A,decide_eq_true D,Bool.false_or,if_pos rfl,if_neg (by simp),Qn h,YIa A];rw[Z2,if_pos D];simp
theorem Ynb {s x:Span}{l:List Span}{k:Nat}(h:l[k]? = some x)(A:X2 s (l.take k)=false)(D:¬s.frm < x.frm):ZT s (l.take (k+1))=ZT s (l.take k)++[x]:=by
 unfold ZT;rw[Vv h,A,decide_eq_false D,Bool.or_false,if_neg (by simp),if_neg (by simp),Qn h]
theorem Ymb (s:Span)(l:List Span):(ZT s l).length≤l.length+1:=by
 unfold ZT
 split
 ·have:=(UOa s l).length_eq;rw[this];simp
 ·omega
theorem Qoc {s:Span}{l:List Span}(h:X2 s l=false):Z2 s l=l++[s]:=by
 have:=YIa h []
 rwa [List.append_nil]at this
def adE (l:List Span) (s:Span):Int:=if l.any (fun x=>Q2 x s)then 6 else 0
theorem X2a (A:Option Addr)(n cap:Nat)(l:List Span)(s:Span)(w:World)(h:Sl Ug 2 w All A n cap l)(hl:l.length≤1000)(ay:∀x∈l,X6 x)(hs:X6 s)(az:InI s.frm)(aA:InI s.upto) :
  Calls Tryz.prog 210 #[.slice A n cap,.agg #[.int .i64 s.frm,.int .i64 s.upto]] w fun e w'=>∃v xs,e=.returned (.tuple #[v,.int .i64 (adE l s)])∧
   Own Ug 2 51 w' w.heap.size v (okL (adE l s) (Z2 s l)) xs∧yw w w':=by
 have aI:=h.bd;have av:=yh h.len;obtain⟨u,hu⟩:∃u,u=adE l s:=⟨_,rfl⟩;obtain⟨R,hR⟩:∃R,R=Z2 s l:=⟨_,rfl⟩;rw[←hu,←hR];have HU:=yh hu;clear hu;have HR:=yh hR;clear hR
 have aK:n≤1000:=by rw[←av.out];exact hl
 have aD:=yh ay;clear ay;have HS:=yh hs;clear hs;clear hl
 go_enter Tryz.func210,Tryz.ntmps210
 go_upto_region 0 with(fail)
 go_cut [3] (fun p wx=>∃g,p=.pointer (some ⟨g,0,none⟩)∧SpanAt wx g s.frm s.upto∧yw w wx)
 case first=>as_aux_lemma=>
  go_wp2_with fail
  go_meet
  exact⟨_,rfl,Za _ _,Qf _ _⟩
 obtain⟨g,rfl,hS,ao⟩:=hcut;replace h:=h.bel ao;obtain⟨E,aE⟩:∃E,E=wc:=⟨_,rfl⟩;have ai:=yh hS;have HH:=yh h;have J:=yh ao;clear hS h ao;subst aE
 go_wp2_with fail
 go_loopg [6,7,8] n (fun gk o p i wr=>∃k:Nat,k≤n∧n - k≤gk∧i=.int .i64 k∧p=.bool (X2 s (l.take k))∧Aside ((l.take k).any (fun x=>Q2 x s)=false)∧∃xs,Own Ug 2 51 wr E.heap.size o (ZT s (l.take k)) xs∧yw E wr)
 case atStart=>exact⟨0,Nat.zero_le _,by omega,rfl,rfl,rfl,[],Own.nil _ _ _ _ _,Below.refl _ _⟩
 case round=>
  obtain⟨k,hk,aJ,rfl,rfl,HE,xs,F,D⟩:=hrel;obtain⟨A2,n2,aH,rfl,_⟩:=F.sl Ql;obtain⟨L,hL⟩:∃L,L=ZT s (l.take k):=⟨_,rfl⟩;obtain⟨p,hp⟩:∃p,p=X2 s (l.take k):=⟨_,rfl⟩;rw[←hL]at F;rw[←hp]
  have ax:L.length≤1001:=by
   rw[hL];have h1:=Ymb s (l.take k);have h2:=List.length_take_le k l;omega
  have Z:=yh ax;have HL:=yh hL;clear hL;have HP:=yh hp;clear hp;clear ax
  by_cases hlt:k < n
  ·obtain⟨b,al,x,c0,c1,rfl,hx,⟨hc,x0,x1⟩,g0,g1⟩:=HH.out.at2 hlt
   simp only[List.cons.injEq,and_true]at hc;obtain⟨rfl,rfl⟩:=hc;have lb:=Ub g0
   have aw:∀X,yw E X→yI X b (al+k*2) x.frm∧yI X b (al+k*2+1) x.upto∧yI X g 0 s.frm∧yI X g 1 s.upto:=fun X hX=>
    ⟨(hX.cell (p:=⟨b,al+k*2,none⟩) lb).trans g0,(hX.cell (p:=⟨b,al+k*2+1,none⟩) lb).trans g1,(ai.out.below hX).c0,(ai.out.below hX).c1⟩
   have ar:=fun W=>Qtb x s W (aD.out x (List.mem_of_getElem? hx)) HS.out
   obtain⟨q,hq⟩:∃q,q=Q2 x s:=⟨_,rfl⟩;rw[←hq]at ar;have aC:=yh ar;clear ar;have O:=yh hx;clear hx;have HQ:=yh hq;clear hq;have am:=yh aw;clear aw;clear g0 g1;obtain⟨d0,d1,d2,d3⟩:=am.out _ D
   go_upto_region 6 with(fail)
   go_cut [20] (fun t wx=>t=.bool q∧yw wr wx)
   case first=>as_aux_lemma=>
    go_region_with (go_at_call 240;refine(aC.out _).mono ?_;rintro e wn ⟨rfl,aG⟩)
    all_goals
     go_wp2_with fail
     go_meet
     exact⟨rfl,(Below.refl _ wr).drew.trans aG⟩
   obtain⟨rfl,ap⟩:=hcut;replace F:=F.bel ap;replace D:=D.trans (ap.mono D.size);clear ap d0 d1 d2 d3;obtain⟨d0,d1,d2,d3⟩:=am.out _ D
   cases q
   ·have an:=yh (show(l.take (k+1)).any (fun x=>Q2 x s)=false by rw[QF O.out,HE,←HQ.out];rfl)
    cases p
    ·by_cases hc:s.frm < x.frm
     ·have hd:decide (s.frm < x.frm)=true:=decide_eq_true hc
      have I:=yh (show ZT s (l.take (k+1))=L++[s]++[x]by rw[HL.out];exact Yob O.out HP.out.symm hc);have aa:=yh (show X2 s (l.take (k+1))=true by rw[Vv O.out,←HP.out,decide_eq_true hc];rfl);clear hc
      go_wp2_with fail
      go_quiet (fail)
      have U:=below_drewN D nq;have ab:=(F.bel (below_drewN (Below.refl wc.heap.size wc) nq)).below Ql (Qf (wc.drewN nq) (.cells #[.int .i64 s.frm,.int .i64 s.upto] 51));have aL:=U.size
      have ag:E.heap.size≤((wc.drewN nq).alloc (.cells #[.int .i64 s.frm,.int .i64 s.upto] 51)).heap.size:=by simp;have:=D.size;omega
      go_wp2_with (first
       | (at_builtin;refine QC (t:=79) (e:=51) (bytes:=16) rfl (.tmp 37) (.tmp 42) rfl UW Ql rfl Q rfl (XT _ All x.frm x.upto 51 x0 x1 trivial) (fun _ _ hc=>hc) (by have:=Z.out;first | omega | (simp;omega)) (by omega) V ?_;intro v' w' ah ae ad _)
       | (at_builtin;refine QC (t:=79) (e:=51) (bytes:=16) rfl (.tmp 33) (.tmp 35) rfl UW Ql rfl ab rfl (XT _ All s.frm s.upto 51 az aA trivial) (fun _ _ hc=>hc) (by have:=Z.out;omega) (by omega) ag ?_;intro v1 w1 aB af aq _;have Y:=QP (U.alloc aL _) ab aq ag;have Q:=af.below Ql (Qf w1 (.cells #[.int .i64 x.frm,.int .i64 x.upto] 51));have V:E.heap.size≤(w1.alloc (.cells #[.int .i64 x.frm,.int .i64 x.upto] 51)).heap.size:=Nat.le_trans Y.size (by simp);have aF:=Y.alloc Y.size (.cells #[.int .i64 x.frm,.int .i64 x.upto] 51);obtain⟨f0,f1,f2,f3⟩:=am.out _ Y;obtain⟨A4,n4,c4,rfl,_⟩:=af.sl Ql))
      go_roundg (n - (k+1))
      case measure=>omega
      case rel=>exact⟨k+1,by omega,by omega,by go_num,by rw[aa.out],an.out,ah,by rw[I.out];exact ae,QP aF Q ad V⟩
     ·have hd:decide (s.frm < x.frm)=false:=decide_eq_false hc
      have I:=yh (show ZT s (l.take (k+1))=L++[x]by rw[HL.out];exact Ynb O.out HP.out.symm hc);have aa:=yh (show X2 s (l.take (k+1))=false by rw[Vv O.out,←HP.out,decide_eq_false hc];rfl);clear hc
      go_wp2_with fail
      go_quiet (fail)
      have U:=below_drewN D nq;have Q:=(F.bel (below_drewN (Below.refl wc.heap.size wc) nq)).below Ql (Qf (wc.drewN nq) (.cells #[.int .i64 x.frm,.int .i64 x.upto] 51));have aL:=U.size
      have V:E.heap.size≤((wc.drewN nq).alloc (.cells #[.int .i64 x.frm,.int .i64 x.upto] 51)).heap.size:=by simp;have:=D.size;omega
      go_wp2_with (at_builtin;refine QC (t:=79) (e:=51) (bytes:=16) rfl (.tmp 37) (.tmp 42) rfl UW Ql rfl Q rfl (XT _ All x.frm x.upto 51 x0 x1 trivial) (fun _ _ hc=>hc) (by have:=Z.out;first | omega | (simp;omega)) (by omega) V ?_;intro v' w' ah ae ad _)
      go_roundg (n - (k+1))
      case measure=>omega
      case rel=>exact⟨k+1,by omega,by omega,by go_num,by rw[aa.out],an.out,ah,by rw[I.out];exact ae,QP (U.alloc aL _) Q ad V⟩
    ·have I:=yh (show ZT s (l.take (k+1))=L++[x]by rw[HL.out];exact Ypb O.out HP.out.symm)
     have aa:=yh (show X2 s (l.take (k+1))=true by rw[Vv O.out,←HP.out];rfl)
     go_wp2_with fail
     go_quiet (fail)
     have U:=below_drewN D nq;have Q:=(F.bel (below_drewN (Below.refl wc.heap.size wc) nq)).below Ql (Qf (wc.drewN nq) (.cells #[.int .i64 x.frm,.int .i64 x.upto] 51));have aL:=U.size
     have V:E.heap.size≤((wc.drewN nq).alloc (.cells #[.int .i64 x.frm,.int .i64 x.upto] 51)).heap.size:=by simp;have:=D.size;omega
     go_wp2_with (at_builtin;refine QC (t:=79) (e:=51) (bytes:=16) rfl (.tmp 37) (.tmp 42) rfl UW Ql rfl Q rfl (XT _ All x.frm x.upto 51 x0 x1 trivial) (fun _ _ hc=>hc) (by have:=Z.out;first | omega | (simp;omega)) (by omega) V ?_;intro v' w' ah ae ad _)
     go_roundg (n - (k+1))
     case measure=>omega
     case rel=>exact⟨k+1,by omega,by omega,by go_num,by rw[aa.out],an.out,ah,by rw[I.out];exact ae,QP (U.alloc aL _) Q ad V⟩
   ·obtain rfl:u=6:=by rw[HU.out];exact if_pos (Q7a O.out HQ.out.symm)
    go_wp2_with fail
    go_ret2
    exact⟨_,_,rfl,Own.nil _ _ _ _ _,J.out.trans (D.mono J.out.size)⟩
  ·obtain rfl:k=n:=by omega
   have hT:l.take k=l:=List.take_of_length_le (Nat.le_of_eq av.out);rw[hT]at HE
   obtain rfl:u=0:=by rw[HU.out];exact if_neg (by rw[HE];simp)
   have aj:L=ZT s l:=by rw[HL.out,hT]
   have ac:p=X2 s l:=by rw[HP.out,hT]
   obtain⟨_,_,d2,d3⟩:True∧True∧yI wr g 0 s.frm∧yI wr g 1 s.upto:=⟨trivial,trivial,(ai.out.below D).c0,(ai.out.below D).c1⟩;have ak:=J.out.trans (D.mono J.out.size)
   cases p
   ·have I:=yh (show L++[s]=R by rw[HR.out,Qoc ac.symm,aj];unfold ZT;rw[←ac];rfl)
    have ab:=F.below Ql (Qf wr (.cells #[.int .i64 s.frm,.int .i64 s.upto] 51));have aL:=D.size
    have ag:E.heap.size≤(wr.alloc (.cells #[.int .i64 s.frm,.int .i64 s.upto] 51)).heap.size:=by simp;omega
    have au:=yh ak;clear hT aj ac ak
    go_wp2_with (at_builtin;refine QC (t:=79) (e:=51) (bytes:=16) rfl (.tmp 46) (.tmp 48) rfl UW Ql rfl ab rfl (XT _ All s.frm s.upto 51 az aA trivial) (fun _ _ hc=>hc) (by have:=Z.out;omega) (by omega) ag ?_;intro v1 w1 aB af aq _;have Y:=QP (D.alloc aL _) ab aq ag;obtain⟨A4,n4,c4,rfl,_⟩:=af.sl Ql)
    go_ret2
    exact⟨_,aB,rfl,by rw[QG,←I.out];exact af.mono Ql J.out.size,J.out.trans (Y.mono J.out.size)⟩
   ·have I:=yh (show L=R by rw[HR.out,aj];unfold ZT;rw[←ac];rfl)
    have au:=yh ak;have HO:=yh F;clear hT aj ac ak F
    go_wp2_with fail
    go_ret2
    exact⟨_,_,rfl,by rw[QG,←I.out];exact HO.out.mono Ql J.out.size,au.out⟩
end Go.Proofs.YtjdcokpmgionjaaGreat
