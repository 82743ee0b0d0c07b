/-
  Laws and contracts.
-/
import Derived.Test.YtjdcokpmgionjaaGreatBun3
import Derived.Test.YtjdcokpmgionjaaGreatBun12
set_option linter.unusedSimpArgs false
set_option linter.unusedVariables false
set_option maxRecDepth 100000
set_option maxHeartbeats 20000000
namespace Go.Proofs.YtjdcokpmgionjaaGreat
open Proofs.Tryz Go.RowKit Go.Shelf
structure Ans where
 errno:Int
 owed:Int
 deriving DecidableEq,Inhabited
structure Don where
 ask:Ask
 ans:Ans
 deriving DecidableEq,Inhabited
abbrev Qt (x:Ans):Array Value:=#[.int .i64 x.errno,.int .i64 x.owed]
def Vk (x:Don):Array Value:=#[.int .i64 x.ask.number,.int .i64 x.ask.kind,.int .i64 x.ask.id,.int .i64 x.ask.guests,.bool x.ask.level,.int .i64 x.ask.cabin,.int .i64 x.ask.category,.int .i64 x.ask.frm,.int .i64 x.ask.upto,.int .i64 x.ask.til,.int .i64 x.ask.amount,.int .i64 x.ans.errno,.int .i64 x.ans.owed]
def V2a (x:Don):Prop:=YB x.ask∧InI x.ans.errno∧InI x.ans.owed
def ZX:Cod Don:=fun _ _ x cs=>cs=(Vk x).toList∧V2a x
theorem Zy:XM ZX:=fun _ _ _ _ _ _ h=>h
theorem Qp:Good ZX:=.of_flat Zy fun h u A=>by obtain⟨rfl,_⟩:=h;simp[Vk]at A;rcases A with rfl|rfl|rfl|rfl|rfl|rfl|rfl|rfl|rfl|rfl|rfl|rfl|rfl<;>rfl
instance donK:CodK ZX 13:=⟨Qp,by omega⟩
theorem Q1a:ElemOf prog 37 106 13 104:=.mk' underlying37 (z:=.agg #[.int .i64 0,.int .i64 0,.int .i64 0,.int .i64 0,.bool false,.int .i64 0,.int .i64 0,.int .i64 0,.int .i64 0,.int .i64 0,.int .i64 0,.int .i64 0,.int .i64 0]) (by kernel_rfl) rfl (by omega)
theorem Q0a {w:World}{a o:Nat}{x:Don}(h:∀j u,(Vk x).toList[j]? = some u→w.cell? ⟨a,o+j,none⟩=some u):yI w a o x.ask.number∧yI w a (o+1) x.ask.kind∧yI w a (o+2) x.ask.id∧
  yI w a (o+3) x.ask.guests∧w.cell? ⟨a,o+4,none⟩=some (.bool x.ask.level)∧yI w a (o+5) x.ask.cabin∧yI w a (o+6) x.ask.category∧yI w a (o+7) x.ask.frm∧
  yI w a (o+8) x.ask.upto∧yI w a (o+9) x.ask.til∧yI w a (o+10) x.ask.amount∧yI w a (o+11) x.ans.errno∧yI w a (o+12) x.ans.owed:=
 ⟨h 0 _ rfl,h 1 _ rfl,h 2 _ rfl,h 3 _ rfl,h 4 _ rfl,h 5 _ rfl,h 6 _ rfl,h 7 _ rfl,h 8 _ rfl,h 9 _ rfl,h 10 _ rfl,h 11 _ rfl,h 12 _ rfl⟩
theorem Sl.don {w:World}{S:Nat→Prop}{A:Option Addr}{n cap:Nat}{l:List Don}(h:Sl ZX 13 w S A n cap l){k:Nat}(I:k<n):∃b O x,A=some ⟨b,O,none⟩∧l[k]? = some x∧V2a x∧∀j u,(Vk x).toList[j]? = some u→w.cell? ⟨b,O+k*13+j,none⟩=some u:=by
 have J:=h.len;obtain⟨b,O,cs,D,-,⟨rfl,F⟩,-,E⟩:=h.rd k (l[k]'(by omega)) (J1 (by omega));exact⟨b,O,_,D,J1 (by omega),F,E⟩
theorem Qla (A:Option Addr)(n cap:Nat)(l:List Don)(g:Nat)(lb:Array Value)(p:Don→Bool)(w:World)(h:Sl ZX 13 w All A n cap l)
  (eg:∀V w,(callFunc g V).run prog w=.ok (.enter g V) w)
  (X:∀(x:Don) (w1:World),x∈l→yw w w1→Calls prog g (#[.agg (Vk x)]++lb) w1 fun e w'=>e=.returned (.bool (p x))∧yw w1 w') :
  Calls prog 134 #[.slice A n cap,.func (.func g) #[] lb] w fun e w'=>e=.returned (.int .i64 (UD p l))∧yw w w':=by
 have Hp:=yh X;clear X;have ad:=h.bd;have Y:=yh h;have HN:=yh h.len;clear h;go_enter func134,ntmps134;go_wp2_with fail
 go_loopg [8] n (fun gk i wr=>∃k:Nat,k≤n∧n-k≤gk∧i=.int .i64 k∧Aside ((l.take k).any p=false)∧yw w wr)
 case atStart=>exact⟨0,M0 _,by omega,rfl,rfl,J4 _ _⟩
 case round=>
  obtain⟨k,hk,ae,rfl,E,hb⟩:=hrel;by_cases hlt:k<n
  ·obtain⟨b,af,x,rfl,J,hi,W⟩:=(Y.bel hb).don hlt;obtain⟨c0,c1,c2,c3,c4,c5,c6,c7,c8,c9,aa,ab,ac⟩:=Q0a W;have U:=yh J;have Z:=yh (J6 J);have F:=Hp _ wr Z hb;obtain⟨q,I⟩:=yE (p x);rw[←I]at F;have O:=yh F;clear F;have Q:=yh I;clear I;clear J hi W;cases q
   ·skip;go_wp2_with fail;go_at_fn g;refine yM O fun w1 D=>?_;replace D:=hb.trans (D.mono hb.size);go_wp2_with fail;go_roundg (n-(k+1))
    case measure=>omega
    case rel=>exact⟨k+1,by omega,by omega,by go_num,by show _=_;rw[Qu U.out,E,←Q.out];rfl,D⟩
   ·skip;go_wp2_with fail;go_at_fn g;refine yM O fun w1 D=>?_;replace D:=hb.trans (D.mono hb.size);go_wp2_with fail;go_ret;exact⟨ZN (VA E U Q.symm).symm,D⟩
  ·obtain rfl:k=n:=by omega
   have HT:=yh (M1 (Nat.le_of_eq HN));go_wp2_with fail;go_ret;exact⟨ZN (by rw[ZK (by rw[←HT.out];exact E)]),hb⟩
theorem Zra (A:Option Addr)(n cap:Nat)(l:List Don)(g:Nat)(lb:Array Value)(p:Don→Bool)(w:World)(h:Sl ZX 13 w All A n cap l)
  (I:∀U w,(callFunc g U).run prog w=.ok (.enter g U) w)
  (D:∀(x:Don) (w1:World),x∈l→yw w w1→Calls prog g (#[.agg (Vk x)]++lb) w1 fun e w'=>e=.returned (.bool (p x))∧yw w1 w') :
  Calls prog 154 #[.slice A n cap,.func (.func g) #[] lb] w fun e w'=>e=.returned (.bool (l.any p))∧yw w w':=by
 have E:=Qla A n cap l g lb p w h I D;clear D;go_enter func154,ntmps154;go_wp2_with fail;refine yM E fun w1 J=>?_;have F:=yh (VH (p:=p) (l:=l));have O:=Yp (p:=p) (l:=l) (by have:=h.bd;have:=h.len;omega);go_wp2_with fail;go_ret;exact⟨Ux F,J⟩
theorem V0a (A:Option Addr)(n cap:Nat)(l:List Don)(w:World)(h:Sl ZX 13 w All A n cap l)(J:n*104≤140737488355328) :
  Calls prog 74 #[.slice A n cap] w fun e w'=>∃v xs,e=.returned v∧Own ZX 13 106 w' w.heap.size v l xs∧yw w w':=by
 have O:=fun(W:World) (a:Option Addr)=>Lib.run_eql_slice_nil (P:=prog) W 37 106 a n cap 0 0 underlying37;rcases A with _|a
 ·have F:l=[]:=by
   rcases l with _|⟨x,l⟩
   ·rfl
   ·obtain⟨b,Q,cs,X,_⟩:=h.rd 0 x rfl;cases X
  subst F;go_enter func74,ntmps74;go_wp2;go_ret;exact⟨_,_,rfl,Own.nil _ _ _ _ _,J4 _ _⟩
 ·go_enter func74,ntmps74;go_wp2_with (at_builtin;refine QC (t:=37) (e:=106) (bytes:=104) rfl (.tmp 5) (.tmp 6) rfl Q1a Qp rfl (Own.made w ZX 13 106 w.heap.size #[] 0 (J5 _) (by simp[maxLen]) rfl) rfl (h.below Qp (by omega) ((J4 _ _).alloc (J5 _) _)) (fun _ _ D=>D) (by simp;omega) (by omega) (by simp) ?_;intro v' w' U I E _);go_ret;exact⟨_,_,rfl,I,QA (Below.alloc (J4 _ _) (J5 _) _) (Own.made w ZX 13 106 w.heap.size #[] 0 (J5 _) (by simp[maxLen]) rfl) E (by simp)⟩
theorem Qxc (v:Value)(r A:List Value)(o:Nat)(W:o<A.length):(A.set o v).take (o+1)++r++(A.set o v).drop (o+1+r.length)=A.take o++(v::r)++A.drop (o+(r.length+1)):=by
 apply List.ext_getElem?;intro i;simp only[List.getElem?_append,J9,J8,List.length_set,List.getElem?_take,List.getElem?_set,List.getElem?_drop,List.length_cons];rcases Nat.lt_trichotomy i o with h|h|h
 ·have F:i<min (o+1) A.length:=by omega
  have I:i<min o A.length:=by omega
  have E:i<min (o+1) A.length+r.length:=by omega
  have D:i<min o A.length+(r.length+1):=by omega
  have O:i<o+1:=by omega
  have J:¬o=i:=by omega
  simp only[F,I,E,D,O,J,h,if_true,if_false]
 ·subst h
  have F:i<min (i+1) A.length:=by omega
  have I:¬i<min i A.length:=by omega
  have E:i<min (i+1) A.length+r.length:=by omega
  have D:i<min i A.length+(r.length+1):=by omega
  have O:i<i+1:=by omega
  have J:i-min i A.length=0:=by omega
  simp only[F,I,E,D,O,J,W,if_true,if_false,List.getElem?_cons_zero]
 ·have F:¬i<min (o+1) A.length:=by omega
  have I:¬i<min o A.length:=by omega
  have J:¬o=i:=by omega
  have Q:min (o+1) A.length=o+1:=by omega
  have U:min o A.length=o:=by omega
  simp only[F,I,J,if_false];rw[Q,U];by_cases E:i<o+1+r.length
  ·have D:i<o+(r.length+1):=by omega
   simp only[E,D,if_true];rw[show i-o=(i-(o+1))+1 by omega,List.getElem?_cons_succ]
  ·have D:¬i<o+(r.length+1):=by omega
   simp only[E,D,if_false]
   have V:¬o=o+1+r.length+(i-(o+1+r.length)):=by omega
   simp only[V,if_false];rw[show o+1+r.length+(i-(o+1+r.length))=o+(r.length+1)+(i-(o+(r.length+1)))by omega]
theorem Blk.setCells {t:TypeId}{g:Nat} : ∀(D:List Value) (o:Nat) (w:World) (A:List Value),Blk w g A.toArray t→o+D.length≤A.length→Blk (w.setCells g o D) g (A.take o++D++A.drop (o+D.length)).toArray t
 | [],o,w,A,h,_=>by
  have e:A.take o++[]++A.drop (o+([]:List Value).length)=A:=by rw[List.append_nil];exact List.take_append_drop o A
  rw[e];exact h
 | v::r,o,w,A,h,hl=>by
  have F:o+(r.length+1)≤A.length:=hl
  have E:Blk (w.setCell ⟨g,o,none⟩ v) g (A.set o v).toArray t:=by
   have:=Blk.set (j:=o) h v
   simpa using this
  have:=Blk.setCells r (o+1) _ _ E (by rw[List.length_set];omega);rw[Qxc v r A o (by omega)]at this;exact this
theorem UR (g:Nat):∀(A:List Value) (o:Nat) (w:World),Kept (fun b=>b=g) w (w.setCells g o A)
 | [],_,w=>Kept.refl _ w
 | v::r,o,w=>((yk g w).setCell (p:=⟨g,o,none⟩) (.inl rfl) v).trans (UR g r (o+1) _)
theorem Xmb {n:Nat}{a w:World}(_:Below n a w)(cs:Array Value)(t:TypeId):Blk (w.alloc (.cells cs t)) w.heap.size cs t:=Blk.new w cs t
section
variable {α:Type} {c:Cod α} {size:Nat} {e:TypeId} {w w':World} {base g n cap:Nat} {l:List α} {xs:List Value}
theorem Own.len (h:Own c size e w base (.slice (some ⟨g,0,none⟩) n cap) l xs):n=l.length:=by
 rcases h.row.2 with⟨A,_⟩|⟨F,D,E,A,_⟩
 ·cases A
 ·injection A
theorem Zcc {i L k s:Nat}(A:i<L)(D:k<s):i*s+k<L*s:=by
 have:(i+1)*s≤L*s:=Nat.mul_le_mul_right _ A;rw[Nat.add_mul]at this;omega
theorem Q2b {i k s j:Nat}(A:k<i)(D:j<s):k*s+j<i*s:=by
 have:(k+1)*s≤i*s:=Nat.mul_le_mul_right _ A;rw[Nat.add_mul]at this;omega
theorem Own.range (h:Own c size e w base (.slice (some ⟨g,0,none⟩) n cap) l xs){i:Nat}{x:α}(I:l[i]? = some x) :
  ∃cs,c w (QL base (.slice (some ⟨g,0,none⟩) n cap)) x cs∧cs.length=size∧w.rangeAt g (i*size) cs∧w.there g (i*size) size:=by
 obtain⟨cs,D,E,A,F⟩:=h.cells I;refine⟨cs,D,E,A,fun j J=>⟨?_,F _⟩⟩;rw[A j _ (J1 (by omega))];rfl
theorem Own.setEl (h:Own c size e w base (.slice (some ⟨g,0,none⟩) n cap) l xs)(hg:Good c){i:Nat}{x':α}{cs:List Value}(hi:i<l.length)(A:cs.length=size)
  (hc:c w (QL base (.slice (some ⟨g,0,none⟩) n cap)) x' cs) :
  Own c size e (w.setCells g (i*size) cs) base (.slice (some ⟨g,0,none⟩) n cap) (l.set i x') (xs.take (i*size)++cs++xs.drop (i*size+size)):=by
 have hn:=h.len;subst hn;have hk:=UR g cs (i*size) w
 have ab:∀(x:α) (I:List Value),c w (QL base (.slice (some ⟨g,0,none⟩) l.length cap)) x I→c (w.setCells g (i*size) cs) (QL base (.slice (some ⟨g,0,none⟩) l.length cap)) x I:=fun x I h0=>
  hg.keep h0 fun b U W=>⟨hk.block b W (fun e=>by subst e;exact U.2 rfl),U⟩
 rcases h.row.2 with⟨X,_⟩|⟨g',ai,Y,X,U,af,ac,ae,V,ag⟩
 ·cases X
 injection X with e1 e2 e3;injection e1 with e1;injection e1 with e1;subst e1 e3;have ah:xs.length=l.length*size:=h.row.1
 have aj:i*size+size≤l.length*size:=by
  have:(i+1)*size≤l.length*size:=Nat.mul_le_mul_right _ hi
  rwa [Nat.add_mul,Nat.one_mul]at this
 have al:l.length*size≤cap*size:=Nat.mul_le_mul_right _ ac;have hB:Blk w g Y.toList.toArray e:=af;have aa:=Blk.setCells cs (i*size) w Y.toList hB (by rw[A,Array.length_toList,V];omega);rw[A]at aa
 refine⟨⟨by simp only[J9,J8,List.length_drop,List.length_set,ah,A];omega,.inr ⟨g,cap,_,by rw[List.length_set],U,aa,by rw[List.length_set];exact ac,ae,by
  simp only[List.size_toArray,J9,J8,List.length_drop,Array.length_toList,V,A];omega,?_⟩⟩,fun k y F=>?_⟩
 ·subst ag;apply List.ext_getElem?;intro j;simp only[List.length_set,List.getElem?_take,List.getElem?_append,J9,J8,Array.length_toList,V,List.getElem?_drop,A]
  have m1:min (i*size) (cap*size)=i*size:=by omega
  have D:min (i*size) (min (l.length*size) (cap*size))=i*size:=by omega
  rw[m1,D];rcases Nat.lt_or_ge j (i*size)with Q|Q
  ·have E:j<i*size+size:=by omega
   have J:j<l.length*size:=by omega
   simp only[Q,E,J,if_true]
  ·have Z:¬j<i*size:=by omega
   rcases Nat.lt_or_ge j (i*size+size)with E|E
   ·have J:j<l.length*size:=by omega
    simp only[Z,E,J,if_true,if_false]
   ·have ad:¬j<i*size+size:=by omega
    have e:i*size+size+(j-(i*size+size))=j:=by omega
    simp only[Z,ad,if_false,e]
 ·by_cases hki:k=i
  ·subst hki;rw[List.getElem?_set_self hi]at F;injection F with F;subst F;refine⟨cs,ab _ _ hc,A,fun j u O=>?_⟩
   have hj:j<size:=by have:=(J0.1 O).1;omega
   have D:min (k*size) xs.length=k*size:=by omega
   rw[List.getElem?_append_left (by simp only[J9,J8,A,D];omega),List.getElem?_append_right (by simp only[J8,D];omega)];simp only[J8,D];rw[show k*size+j-k*size=j by omega];exact O
  ·rw[List.getElem?_set_ne (fun e=>hki e.symm)]at F;obtain⟨I,Q,E,J⟩:=h.el k y F;refine⟨I,ab _ _ Q,E,fun j u O=>?_⟩
   have hj:j<size:=by have:=(J0.1 O).1;omega
   have h4:=J j u O
   have D:min (i*size) xs.length=i*size:=by omega
   rcases Nat.lt_or_ge k i with W|ak
   ·have:=Q2b W hj;rw[List.getElem?_append_left (by simp only[J9,J8,A,D];omega),List.getElem?_append_left (by simp only[J8,D];omega),List.getElem?_take,M3 this];exact h4
   ·have:(i+1)*size≤k*size:=Nat.mul_le_mul_right _ (by omega);rw[Nat.add_mul,Nat.one_mul]at this;rw[List.getElem?_append_right (by simp only[J9,J8,A,D];omega),List.getElem?_drop];simp only[J9,J8,A,D];rw[show i*size+size+(k*size+j-(i*size+size))=k*size+j by omega];exact h4
end
theorem QTb {α:Type}{a w:World}(c:Cod α)(size:Nat)(e:TypeId)(h:yw a w):∀g,g=w.heap.size→Own c size e (w.alloc (.cells #[] e)) a.heap.size (.slice (some ⟨g,0,none⟩) 0 0) [] []:=fun g A=>by subst A;exact Own.empty c size h.size (Zk w _)
theorem ZG {n:Nat}{a w:World}(_:Below n a w)(cs:Array Value)(t:TypeId):∀g,g=w.heap.size→Blk (w.alloc (.cells cs t)) g cs t:=fun g A=>by subst A;exact Blk.new w cs t
theorem Xz {a w:World}(h:yw a w):∀g,g=w.heap.size→a.heap.size≤g:=fun g A=>by subst A;exact h.size
theorem Zuc {n q:Nat}{w:World}{cs:List Value}{t:TypeId}(h:Blk w q cs.toArray t)(D:cs.length=n)(E:∀u∈cs,u.oneCell'=true):Sl (ZY n) n w All (some ⟨q,0,none⟩) 1 1 [cs]:=
 ⟨rfl,J5 _,by simp[maxLen],fun i y A=>by
  have F:i=0:=by have:=(J0.1 A).1;simp at this;omega
  subst F;simp at A;subst A
  exact⟨q,0,_,rfl,trivial,⟨rfl,D,E⟩,D,fun j u I=>h.cell (by simpa using I)⟩⟩
theorem Zya (b:Bkg)(A:Option Addr)(n cap:Nat):∀u∈(Qk b (.slice A n cap)).toList,u.oneCell'=true:=fun u D=>by
 simp at D;rcases D with rfl|rfl|rfl|rfl|rfl|rfl|rfl|rfl|rfl|rfl|rfl<;>rfl
theorem VD {P:Program}{U:Array Oper}{A:Oper}{a:Act}{w:World}{K:Act→World→Prop}{Q:Exit→Act→World→Prop}{E:Prop}(F:A.guard=none)(ty:TypeId)(x:Operand)(J:A.op=.load ty x)
  (b o:Nat) (W:a.eval x=.pointer (some ⟨b,o,none⟩)) (cs:List Value) (d:TypeDesc) (D:w.rangeAt b o cs) (O:P.underlying ty=some d) (V:d.isRow=true) (I:(P.info? ty).map (·.size)=some cs.length)
  (h:K (a.put A.dst (.agg cs.toArray)) w):if Region.wanted A (yielded U a.tmps)=true then Oper.wp P A a w K Q else E:=by
 rw[M3 (by simp[Region.wanted,F])];exact wp_load_mid ty x J b o W cs d D O V I h
theorem Y3 {P:Program}{V:Array Oper}{D:Oper}{a:Act}{w:World}{K:Act→World→Prop}{Q:Exit→Act→World→Prop}{E:Prop}(F:D.guard=none)(ty:TypeId)(x y:Operand)(J:D.op=.store ty x y)
  (b o:Nat) (A:List Value) (X:a.eval x=.pointer (some ⟨b,o,none⟩)) (U:a.eval y=.agg A.toArray) (O:w.there b o A.length) (I:(P.info? ty).map (·.size)=some A.length) (W:∀u∈A,u.oneCell'=true)
  (h:K (a.put D.dst undef) (w.setCells b o A)):if Region.wanted D (yielded V a.tmps)=true then Oper.wp P D a w K Q else E:=by
 rw[M3 (by simp[Region.wanted,F])];exact wp_store_mid ty x y J b o A.toArray X U (by simpa using O) (by simpa using I) (all_oneCell_toArray W) (by simpa using h)
theorem VLa (K:World→Prop)(x:Sai)(p:SaiV)(b:Bkg)(Z:Option Addr)(n3 c3:Nat)(L:List (List Value))(w:World)(hS:∀X,K X→SaiR X x p)(hP:∀X,K X→Pts ZP X L x.bks)(hf:∀X,K X→Sl Qm 3 X All Z n3 c3 b.fol)(hw:K w)(aq:Sl (ZY 11) 11 w All p.C p.nb p.cb L)
  (hI:BkIn b) (hr:Xj x.bks) (hn:ZA x.bks b.id=false) (bO:x.bks.length≤16) :
  Calls prog 93 #[.agg (Qa x p),.agg (Qk b (.slice Z n3 c3))] w fun e w'=>∃q p',e=.returned (.agg (Qa (Q4 x b) p'))∧w.heap.size≤q∧q<w'.heap.size∧(∀X,K X→X.heap[q]? = w'.heap[q]?→SaiR X (Q4 x b) p')∧yw w w':=by
 obtain⟨A,n,cap,B,m,ae,D,nd,cd,E,ne,ce,C,Y,cb⟩:=p;simp only at aq;obtain⟨id,Q,U,J,lev,ca,F,I,upto,V,cc⟩:=b;simp only at hf hn;have aD:L.length=Y:=aq.len
 have a8:x.bks.length=Y:=by rw[←aD];exact(hP w hw).len.symm
 have b4:Y≤16:=by omega
 have bz:=yh (fun(i:Nat) hi bU bV=>Zdc (b:=⟨id,Q,U,J,lev,ca,F,I,upto,V,cc⟩) (i:=i) hr hn hi bU bV);have a2:=hP w hw;have HS:=yh hS;clear hS;have HF:=yh hf;clear hf;have HI:=yh hI;clear hI;have bD:=yh aq;clear aq;have bC:=yh a2;clear a2;have bI:=yh hP;clear hP;have ab:=yh aD;clear aD;have an:=yh a8;clear a8;clear hr hn bO;go_enter func93,ntmps93;go_upto_region 0 with(fail);go_cut [2,3,4] (fun p p2 p3 wx=>∃g h z,yp p g∧yp p2 h∧yp p3 z∧w.heap.size≤g∧w.heap.size≤h∧w.heap.size≤z∧g≠h∧g≠z∧h≠z∧Blk wx g (Qa x ⟨A,n,cap,B,m,ae,D,nd,cd,E,ne,ce,C,Y,cb⟩) 32∧Blk wx h (Qk ⟨id,Q,U,J,lev,ca,F,I,upto,V,cc⟩ (.slice Z n3 c3)) 63∧Blk wx z M9 32∧yw w wx)
 case first=>as_aux_lemma=>
  go_wp2_with fail;go_meet;exact⟨_,_,_,rfl,rfl,rfl,J5 _,by omega,by omega,by omega,by omega,by omega,Vc _ _ _ _,Vd _ _ _ _,Ve _ _ _ _,X0 _ _ _ _⟩
 obtain⟨g,h,z,rfl,rfl,rfl,hg,hh,hz,b1,bT,b3,hG,hH,hZ,hb⟩:=hcut;obtain⟨W2,rfl⟩:=yE wc;have bl:=hb.size;have ai:=yh (show ∀X,yw W2 X→(fun w'=>yJ w' g 11 C Y cb∧(yI w' h 0 id∧yI w' h 1 Q∧yI w' h 2 U∧yI w' h 3 J∧w'.cell? ⟨h,4,none⟩=some (.bool lev)∧yI w' h 5 ca∧yI w' h 6 F∧yI w' h 7 I∧yI w' h 8 upto∧yI w' h 9 V∧yJ w' h 10 Z n3 c3)) X from fun X O=>⟨(hG.bel O).cell rfl,(hH.bel O).cell rfl,(hH.bel O).cell rfl,(hH.bel O).cell rfl,(hH.bel O).cell rfl,(hH.bel O).cell rfl,(hH.bel O).cell rfl,(hH.bel O).cell rfl,(hH.bel O).cell rfl,(hH.bel O).cell rfl,(hH.bel O).cell rfl,(hH.bel O).cell rfl⟩)
 have ba:(([]:List (List Value)).length+Y)*104≤140737488355328:=by simp;omega
 have bb:(L.length+1)*104≤140737488355328:=by rw[ab.out];omega
 have bE:=yh (fun X (O:yw W2 X)=>bD.bel (hb.trans (O.mono bl)));have HB:=yh hb;clear hb;have HG:=yh hG;clear hG;have HZ:=yh hZ;clear hZ;have HH:=yh hH;clear hH;go_upto_region 1 with(fail);go_cut [5] (fun p wx=>∃q cp xs W,W=Y+1∧p=.slice (some ⟨q,0,none⟩) W cp∧W2.heap.size≤q∧Own (ZY 11) 11 63 wx W2.heap.size (.slice (some ⟨q,0,none⟩) W cp) (L++[(Qk ⟨id,Q,U,J,lev,ca,F,I,upto,V,cc⟩ (.slice Z n3 c3)).toList]) xs∧yw W2 wx)
 case first=>
  have b9:yw W2 W2.drew:=(J4 _ W2).drew;refine yZ (S:=(fun w'=>yJ w' g 11 C Y cb∧(yI w' h 0 id∧yI w' h 1 Q∧yI w' h 2 U∧yI w' h 3 J∧w'.cell? ⟨h,4,none⟩=some (.bool lev)∧yI w' h 5 ca∧yI w' h 6 F∧yI w' h 7 I∧yI w' h 8 upto∧yI w' h 9 V∧yJ w' h 10 Z n3 c3))) (ai _ b9) fun aa=>?_;refine yT [1,2,4] ?_;iterate 3 (refine yS ?_;simp only[yU])
  focus
   refine yr2 0 5 (fun K k0=>?_) (fun K k5=>?_)
   repeat first
    |
     revert k0
     intro hK;go_simp;refine hK.out _ _ (ai _ (b9.alloc b9.size (.cells #[] 63))) fun aa=>?_;clear hK K
     try simp only[yU]
     (have ak:=QTb (ZY 11) 11 63 b9;(try replace hL:=fun g hg=>(hL g hg).bel (Qi _ (.cells #[] 63)));replace b9:=b9.alloc b9.size (.cells #[] 63))
     first
      | refine yt2 3 5 (fun K k3=>?_) (fun K k5=>?_)
      | refine yt1 3 (fun K k3=>?_)
    |
     revert k3
     intro hK
     (refine Uy (v:=.slice (some ⟨_,0,none⟩) 0 0) (t:=30) (e:=63) (bytes:=104) (base:=W2.heap.size) (c:=ZY 11) (l:=[]) (xs:=[]) (l2:=L) (S:=All) rfl (.tmp 7) (.tmp 9) rfl Xk (QW 11) rfl rfl (ak _ (by simp)) (bE _ b9) (fun _ _ hc=>hc) ba (by omega) b9.size ?_;intro v' w' b0 ac aI bP;(try replace hL:=fun g hg=>(hL g hg).grown aI (by subst hg;simp[Value.ownBlock]));replace b9:=QA b9 (ak _ (by simp)) aI b9.size;clear ak aI bP)
     refine hK.out _ _ (ai _ b9) fun aa=>?_;clear hK K
     try simp only[yU]
     first
      | refine yt1 5 (fun K k5=>?_)
      | rotate_left
    |
     revert k5
     intro hK;go_simp;refine hK.out _ _ (ai _ (b9.alloc b9.size (.cells (Qk ⟨id,Q,U,J,lev,ca,F,I,upto,V,cc⟩ (.slice Z n3 c3)) 63))) fun aa=>?_;clear hK K
     try simp only[yU]
     (have hL:=ZG b9 (Qk ⟨id,Q,U,J,lev,ca,F,I,upto,V,cc⟩ (.slice Z n3 c3)) 63;(try replace ak:=fun g hg=>(ak g hg).bel (Qi _ (.cells (Qk ⟨id,Q,U,J,lev,ca,F,I,upto,V,cc⟩ (.slice Z n3 c3)) 63)));(try replace ac:=ac.bel (Qi _ (.cells (Qk ⟨id,Q,U,J,lev,ca,F,I,upto,V,cc⟩ (.slice Z n3 c3)) 63)));replace b9:=b9.alloc b9.size (.cells (Qk ⟨id,Q,U,J,lev,ca,F,I,upto,V,cc⟩ (.slice Z n3 c3)) 63))
     first
      | refine yt1 0 (fun K k0=>?_)
      | refine yt1 3 (fun K k3=>?_)
      | rotate_left
   all_goals
    refine yR 6 fun K hK=>?_
    (refine Uy (t:=30) (e:=63) (bytes:=104) (base:=W2.heap.size) (c:=ZY 11) (l:=L) (xs:=b0) (l2:=[(Qk ⟨id,Q,U,J,lev,ca,F,I,upto,V,cc⟩ (.slice Z n3 c3)).toList]) (S:=All) rfl (.tmp 10) (.tmp 12) rfl Xk (QW 11) rfl rfl ac (Zuc (hL _ (by simp)) rfl (Zya _ _ _ _)) (fun _ _ hc=>hc) bb (by omega) b9.size ?_;intro v2 w2 b7 ar bf bQ;replace b9:=QA b9 ac bf b9.size;clear ac bf bQ hL)
    refine hK.out _ _ (ai _ b9) fun aa=>?_;clear hK K
    try simp only[yU]
    refine yT [7] ?_;iterate 1 (refine yS ?_;simp only[yU])
    refine yD ?_;obtain⟨q,cp,rfl,hq,_⟩:=ar.form (by simp)
    have bg:(L++[(Qk ⟨id,Q,U,J,lev,ca,F,I,upto,V,cc⟩ (.slice Z n3 c3)).toList]).length=Y+1:=by rw[J9,ab.out];rfl
    rw[bg]at ar ⊢;have bG:=yh ar;clear ar;clear bg;go_wp2_with fail;go_meet;exact⟨_,_,_,_,rfl,rfl,hq,bG,b9⟩
 obtain⟨q,cp,xs,W,bh,rfl,hq,hO,a6⟩:=hcut;obtain⟨W3,rfl⟩:=yE wc
 have bj:q≠g:=fun e=>by have:=HG.lt;omega
 have bk:q≠z:=fun e=>by have:=HZ.lt;omega
 obtain⟨bc,aw⟩:=yE ((Qk ⟨id,Q,U,J,lev,ca,F,I,upto,V,cc⟩ (.slice Z n3 c3)).toList);rw[←aw]at hO;have bu:=yh (show bc.length=11∧(∀u∈bc,u.oneCell'=true)∧bc[0]? = some (.int .i64 id)from by rw[aw];exact⟨rfl,Zya _ _ _ _,rfl⟩);have bv:=yh aw;clear aw;have am:=yh a6;clear a6;have HO:=yh hO;clear hO
 have bZ:IntKind.i64.wrap ((W:Int)-1)=(Y:Int):=by rw[IntKind.wrap_i64];omega
 have bF:=yh bh;clear bh;clear ba bb;go_wp2_with fail
 go_loopg [6] Y (fun gk i wr=>∃(k:Nat) (xs:List Value),k≤Y∧k≤gk∧i=.int .i64 k∧Own (ZY 11) 11 63 wr W2.heap.size (.slice (some ⟨q,0,none⟩) W cp) (L.take k++bc::L.drop k) xs∧Aside (∀(j:Nat) (c:Bkg),k≤j→x.bks[j]? = some c→id<c.id)∧Kept (fun b=>b=q) W3 wr)
 case atStart=>exact⟨Y,xs,J5 _,J5 _,by first|rfl|go_num,by rw[M1 (by rw[ab.out];exact J5 _),List.drop_eq_nil_of_le (by rw[ab.out];exact J5 _)];exact HO,fun j c hj hc=>absurd (J0.1 hc).1 (by rw[an.out];omega),Kept.refl _ _⟩
 case round=>
  obtain⟨k,b6,hk,b2,rfl,ac,HA,hK⟩:=hrel;obtain⟨tv,bp⟩:=yE (decide (0<k) && decide (id<(x.bks.getD (k-1) default).id));have cf:=yh bp;clear bp;have aT:=yh (show W=Y+1 from bF);have ao:=yh ac;clear ac;have aP:=yh hK;clear hK;clear bZ;go_upto_region 3 with(fail);go_cut [32] (fun p wx=>p=.bool tv∧yw wr wx)
  case first=>as_aux_lemma=>
   by_cases q0:k=0
   ·subst q0
    obtain rfl:tv=false:=by rw[cf.out];rfl
    go_quiet (fail);go_wp2_with fail;go_meet;exact⟨rfl,below_drewN (J4 _ _) _⟩
   ·obtain⟨j,hj⟩:∃j,j+1=k:=⟨k-1,by omega⟩
    have aJ:j<x.bks.length:=by rw[an.out];omega
    have ax:j<L.length:=by rw[ab.out];omega
    have aG:=J1 aJ;have ad:=J1 ax;obtain⟨A9,n9,c9,cg,-,-⟩:=bC.el j _ _ ad aG
    have e1:(L.take k++bc::L.drop k)[k]? = some bc:=by
     rw[List.getElem?_append_right (by rw[J8];omega),J8,show k-min k L.length=0 by rw[ab.out];omega];rfl
    have e2:(L.take k++bc::L.drop k)[j]? = some L[j]:=by
     rw[List.getElem?_append_left (by rw[J8];omega),List.getElem?_take,M3 (by omega)];exact ad
    obtain⟨aV,⟨rfl,_,_⟩,_,af,_⟩:=ao.range e1;obtain⟨aW,⟨rfl,_,_⟩,_,ah,_⟩:=ao.range e2;have y1:yI wr q (k*11) id:=af 0 _ bu.2.2;have y2:wr.cell? ⟨q,j*11,none⟩=some (.int .i64 x.bks[j].id):=ah 0 _ (by rw[cg];rfl);obtain⟨cj,aH⟩:=yE (x.bks[j].id);rw[←aH]at y2;have hm:=aT.out
    obtain rfl:tv=decide (id<cj):=by
     rw[cf.out,J2 (show 0<k by omega),Bool.true_and,J7,show k-1=j by omega,aG,aH];rfl
    have d1:decide (0<k)=true:=J2 (by omega)
    have d2:(0:Int)≤(k:Int):=by omega
    have d3:(k:Int)<(W:Int):=by omega
    have d4:(0:Int)≤(j:Int):=by omega
    have d5:(j:Int)<(W:Int):=by omega
    have d6:IntKind.i64.wrap ((k:Int)-1)=(j:Int):=by rw[IntKind.wrap_i64];omega
    clear q0 hj aG ad cg e1 e2 af ah aH hm;go_quiet (fail);go_wp2_with fail;go_meet;exact⟨rfl,below_drewN (J4 _ _) _⟩
  obtain⟨rfl,aF⟩:=hcut;have al:=ao.bel aF;have ag:=aP.trans (Kept.of_below aF (fun k hk h2=>absurd h2 (by omega)));clear aF ao aP;cases tv
  ·have bw:=yh (bz k (by rw[an.out];exact hk) HA (fun c h0 hc=>by
    have h:=cf.out;rw[J2 h0,Bool.true_and,J7,hc]at h;have:=of_decide_eq_false h.symm;simp only[Option.getD_some]at this
    exact Int.not_lt.1 this))
   have aZ:=(HG.bel am).kept ag (fun e=>bj e.symm);have a4:=(HZ.bel am).kept ag (fun e=>bk e.symm);obtain⟨w9,rfl⟩:=yE wc;have a9:yw w w9:=(HB.trans (am.mono HB.size)).trans (ag.below (B:=w.heap.size) (HB.trans (am.mono HB.size)).size (fun k hk e=>by omega));have bX:=(al.lt q rfl).2;obtain⟨A8,n8,c8,bq,ay⟩:=al.sl (QW 11);simp only[Value.slice.injEq]at bq;obtain⟨rfl,rfl,rfl⟩:=bq;replace ay:=ay.all (QW 11) (by omega);have az:=yh aZ;clear aZ;have bN:=yh a4;clear a4;have ap:=yh ay;clear ay;have aO:=yh a9;clear a9;clear al ag;go_upto_region 6 with(fail);go_cut [2] (fun p wx=>yp p g∧Blk wx g (Qa (Q4 x ⟨id,Q,U,J,lev,ca,F,I,upto,V,cc⟩) ⟨A,n,cap,B,m,ae,D,nd,cd,E,ne,ce,(some ⟨q,0,none⟩),W,cp⟩) 32∧Kept (fun k=>k=g) w9 wx)
   case first=>as_aux_lemma=>
    have b5:yJ w9 g 11 C Y cb:=az.cell rfl;have mf:w9.frozen? ⟨g,11,none⟩=false:=az.free 11;go_wp2_with fail;go_meet;exact⟨rfl,az.set (j:=11) _,(yk g _).setCell (p:=⟨g,11,none⟩) (.inl rfl) _⟩
   obtain⟨rfl,aY,aA⟩:=hcut;obtain⟨bs,rfl⟩:=yE wc;have a3:=bN.kept aA (fun e=>bT e.symm);have bx:=yh aY;have aU:=yh a3;have bA:=yh aA;clear aA;clear aY a3;go_wp2_with (first|(refine yV (.tmp 2) bx underlying32 ?_)|(refine yX 32 (.tmp 4) (.tmp 53) z (Qa (Q4 x ⟨id,Q,U,J,lev,ca,F,I,upto,V,cc⟩) ⟨A,n,cap,B,m,ae,D,nd,cd,E,ne,ce,(some ⟨q,0,none⟩),W,cp⟩) aU ?_));refine yq (.agg (Qa (Q4 x ⟨id,Q,U,J,lev,ca,F,I,upto,V,cc⟩) ⟨A,n,cap,B,m,ae,D,nd,cd,E,ne,ce,(some ⟨q,0,none⟩),W,cp⟩)) (k:=4) (aU.row _) underlying32 ?_;have aC:Kept (fun k=>k=g∨k=z) w9 (bs.setRow z (Qa (Q4 x ⟨id,Q,U,J,lev,ca,F,I,upto,V,cc⟩) ⟨A,n,cap,B,m,ae,D,nd,cd,E,ne,ce,(some ⟨q,0,none⟩),W,cp⟩)):=(bA.mono fun k _ hk=>.inl hk).setRow (.inl (.inr rfl)) _;have bR:yw w (bs.setRow z (Qa (Q4 x ⟨id,Q,U,J,lev,ca,F,I,upto,V,cc⟩) ⟨A,n,cap,B,m,ae,D,nd,cd,E,ne,ce,(some ⟨q,0,none⟩),W,cp⟩)):=aO.trans (aC.below (B:=w.heap.size) aO.size (fun k hk e=>by rcases e with e|e<;>omega));refine⟨q,⟨A,n,cap,B,m,ae,D,nd,cd,E,ne,ce,(some ⟨q,0,none⟩),W,cp⟩,rfl,Nat.le_trans bl hq,Nat.lt_of_lt_of_le bX aC.size,fun X O bW=>⟨(HS X O).cats,(HS X O).cabs,(HS X O).fares,?_⟩,bR⟩
   have bY:Sl (ZY 11) 11 X All (some ⟨q,0,none⟩) W cp (L.take k++bc::L.drop k):=by
    refine⟨ap.len,ap.le,ap.max,fun i y hy=>?_⟩;obtain⟨b',o',cs,aX,_,hc,hl,bS⟩:=ap.rd i y hy;simp only[Option.some.injEq,Addr.mk.injEq,and_true]at aX;obtain⟨rfl,rfl⟩:=aX;refine⟨q,0,cs,rfl,trivial,hc,hl,fun j u hu=>?_⟩;have h0:=bS j u hu;exact(World.cell?_of_block (bW.trans (aC.block q (ZT h0) (fun e=>e.elim bj bk)))).trans h0
   have bi:=bI X O
   show Sl ZP 11 _ All (some ⟨q,0,none⟩) W cp (XS x.bks ⟨id,Q,U,J,lev,ca,F,I,upto,V,cc⟩)
   rw[←bw.out];exact bY.unraw ((bi.take k).append ((Pts.one (c:=ZP) (cs:=bc) (x:=⟨id,Q,U,J,lev,ca,F,I,upto,V,cc⟩) ⟨Z,n3,c3,bv,HF X O,HI⟩).append (bi.drop k)))
  ·have h9:=cf.out
   have h0:0<k:=by
    by_cases h:0<k
    ·exact h
    ·rw[J3 h]at h9;cases h9
   obtain⟨j,rfl⟩:∃j,k=j+1:=⟨k-1,by omega⟩;rw[J2 h0,Bool.true_and,show j+1-1=j by omega]at h9;have aM:=of_decide_eq_true h9.symm
   have aJ:j<x.bks.length:=by rw[an.out];omega
   have ax:j<L.length:=by rw[ab.out];omega
   have ad:=J1 ax;obtain⟨aj,a5⟩:=yE (L[j]);rw[←a5]at ad
   have bt:Aside (∀(i:Nat) (c:Bkg),j≤i→x.bks[i]? = some c→id<c.id):=fun i c hi hc=>by
    rcases Nat.lt_or_ge j i with h|h
    ·exact HA i c h hc
    ·obtain rfl:i=j:=by omega
     rw[J7,hc]at aM;exact aM
   have e1:(L.take (j+1)++bc::L.drop (j+1))[j+1]? = some bc:=by
    rw[List.getElem?_append_right (by rw[J8];omega),J8,show j+1-min (j+1) L.length=0 by omega];rfl
   have e2:(L.take (j+1)++bc::L.drop (j+1))[j]? = some aj:=by
    rw[List.getElem?_append_left (by rw[J8];omega),List.getElem?_take,M3 (by omega)];exact ad
   obtain⟨w9,rfl⟩:=yE wc;have a7:yw w9 w9.drew:=(J4 _ _).drew;have av:=al.bel a7;obtain⟨aV,⟨bd,l1,o1⟩,-,af,aN⟩:=av.range e1;obtain⟨aW,⟨be,l2,o2⟩,-,ah,bn⟩:=av.range e2;rw[bd]at af;rw[be]at ah;clear bd be aV aW
   have aL:(L.take (j+1)++bc::L.drop (j+1)).length=Y+1:=by
    rw[J9,List.length_cons,J8,List.length_drop];have:=ab.out;omega
   have aE:=av.setEl (QW 11) (i:=j+1) (x':=aj) (cs:=aj) (by rw[aL];omega) l2 ⟨rfl,l2,o2⟩;have au:=aE.setEl (QW 11) (i:=j) (x':=bc) (cs:=bc) (by rw[List.length_set,aL];omega) l1 ⟨rfl,l1,o1⟩;rw[Xub (by omega) ad]at au;have aB:Kept (fun b=>b=q) W3 ((w9.drew.setCells q ((j+1)*11) aj).setCells q (j*11) bc):=((ag.trans (Kept.of_below a7 (fun k hk h2=>absurd h2 (by omega)))).trans (UR q aj _ _)).trans (UR q bc _ _);have hm:=aT.out
   have d2:(0:Int)≤((j+1:Nat):Int):=by omega
   have d3:((j+1:Nat):Int)<(W:Int):=by omega
   have d4:(0:Int)≤(j:Int):=by omega
   have d5:(j:Int)<(W:Int):=by omega
   obtain⟨k,aK⟩:=yE (j+1);rw[←aK]at aE au aB af aN d2 d3 ⊢
   have d6:IntKind.i64.wrap ((k:Int)-1)=(j:Int):=by rw[IntKind.wrap_i64];omega
   have a0:(Tryz.prog.info? 63).map (·.size)=some aj.length:=by rw[l2];kernel_rfl
   have a1:(Tryz.prog.info? 63).map (·.size)=some bc.length:=by rw[l1];kernel_rfl
   have bo:w9.drew.there q (j*11) bc.length:=by rw[l1];exact bn
   have bm:w9.drew.there q (k*11) aj.length:=by rw[l2];exact aN
   have bL:=yh bm;have bM:=yh (World.there_setCells bo q (k*11) aj);have bJ:=yh af;have bK:=yh ah;have aR:=yh a0;have aS:=yh a1;have bH:=yh au;clear au;have bB:=yh aB;clear aB;have aQ:=yh aK;clear aK;clear al ag HA h9 h0 aM aJ ax ad a5 e1 e2 av af ah aN bm bn bo l1 l2 aL aE hm a0 a1 cf;go_upto_region 5 with(fail);refine yZ (S:=(fun _=>True)) (trivial) fun aa=>?_;refine yT [0,1,2,3,4,5,6,7,8,10,11,12] ?_;iterate 12 (refine yS ?_;simp only[yU])
   focus
    refine yr2 9 13 (fun K k9=>?_) (fun K br=>?_)
    repeat first
     |
      revert k9
      intro hK
      (refine VD rfl 63 (.tmp 43) rfl q (j*11) rfl aj _ bK underlying63 (by kernel_rfl) aR.out ?_)
      refine hK.out _ _ (trivial) fun aa=>?_;clear hK K
      try simp only[yU]
      first
       | refine yt1 13 (fun K br=>?_)
       | rotate_left
     |
      revert br
      intro hK
      (refine VD rfl 63 (.tmp 47) rfl q (k*11) rfl bc _ bJ underlying63 (by kernel_rfl) aS.out ?_)
      refine hK.out _ _ (trivial) fun aa=>?_;clear hK K
      try simp only[yU]
      first
       | refine yt1 9 (fun K k9=>?_)
       | rotate_left
    all_goals
     refine yT [14] ?_;iterate 1 (refine yS ?_;simp only[yU])
     refine yR 15 fun K hK=>?_
     (refine Y3 rfl 63 (.tmp 49) (.tmp 44) rfl q (k*11) aj rfl rfl bL aR o2 ?_)
     refine hK.out _ _ (trivial) fun aa=>?_;clear hK K
     try simp only[yU]
     refine yT [16] ?_;iterate 1 (refine yS ?_;simp only[yU])
     refine yR 17 fun K hK=>?_
     (refine Y3 rfl 63 (.tmp 50) (.tmp 48) rfl q (j*11) bc rfl rfl bM aS o1 ?_)
     refine hK.out _ _ (trivial) fun aa=>?_;clear hK K
     try simp only[yU]
     refine yD ?_;go_wp2_with fail;go_roundg j
     case measure=>have:=aQ.out;omega
     case rel=>exact⟨j,_,by have:=aQ.out;omega,J5 _,by first|rfl|go_num,bH,bt,bB⟩
end Go.Proofs.YtjdcokpmgionjaaGreat
