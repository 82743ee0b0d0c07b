/-
  Laws and contracts.
-/
import Derived.Test.YtjdcokpmgionjaaGreatBun2
import Derived.Deep.MidRow
set_option linter.unusedSimpArgs false
set_option linter.unusedVariables false
set_option maxRecDepth 100000
set_option maxHeartbeats 20000000
namespace Go.Proofs.YtjdcokpmgionjaaGreat
open Proofs.Tryz Go.RowKit Go.Shelf
theorem YSb (v:Value)(r A:List Value)(o:Nat)(W:o < A.length):(A.set o v).take (o+1)++r++(A.set o v).drop (o+1+r.length)=A.take o++(v::r)++A.drop (o+(r.length+1)):=by
 apply List.ext_getElem?;intro i;simp only[List.getElem?_append,J9,J8,List.length_set,List.getElem?_take,List.getElem?_set,List.getElem?_drop,List.length_cons];rcases Nat.lt_trichotomy i o with h | h | h
 ·have F:i < min (o+1) A.length:=by omega
  have I:i < min o A.length:=by omega
  have E:i < min (o+1) A.length+r.length:=by omega
  have D:i < min o A.length+(r.length+1):=by omega
  have O:i < o+1:=by omega
  have J:¬o=i:=by omega
  simp only[F,I,E,D,O,J,h,if_true,if_false]
 ·subst h
  have F:i < min (i+1) A.length:=by omega
  have I:¬i < min i A.length:=by omega
  have E:i < min (i+1) A.length+r.length:=by omega
  have D:i < min i A.length+(r.length+1):=by omega
  have O:i < i+1:=by omega
  have J:i - min i A.length=0:=by omega
  simp only[F,I,E,D,O,J,W,if_true,if_false,List.getElem?_cons_zero]
 ·have F:¬i < min (o+1) A.length:=by omega
  have I:¬i < min o A.length:=by omega
  have J:¬o=i:=by omega
  have Q:min (o+1) A.length=o+1:=by omega
  have U:min o A.length=o:=by omega
  simp only[F,I,J,if_false];rw[Q,U];by_cases E:i < o+1+r.length
  ·have D:i < o+(r.length+1):=by omega
   simp only[E,D,if_true];rw[show i - o=(i - (o+1))+1 by omega,List.getElem?_cons_succ]
  ·have D:¬i < o+(r.length+1):=by omega
   simp only[E,D,if_false]
   have V:¬o=o+1+r.length+(i - (o+1+r.length)):=by omega
   simp only[V,if_false];rw[show o+1+r.length+(i - (o+1+r.length))=o+(r.length+1)+(i - (o+(r.length+1)))by omega]
theorem Blk.setCells {t:TypeId}{g:Nat} : ∀(D:List Value) (o:Nat) (w:World) (A:List Value),Blk w g A.toArray t→o+D.length≤A.length→Blk (w.setCells g o D) g (A.take o++D++A.drop (o+D.length)).toArray t
 | [],o,w,A,h,_=>by
  have e:A.take o++[]++A.drop (o+([]:List Value).length)=A:=by rw[List.append_nil];exact List.take_append_drop o A
  rw[e];exact h
 | v::r,o,w,A,h,hl=>by
  have F:o+(r.length+1)≤A.length:=hl
  have E:Blk (w.setCell ⟨g,o,none⟩ v) g (A.set o v).toArray t:=by
   have:=Blk.set (j:=o) h v
   simpa using this
  have:=Blk.setCells r (o+1) _ _ E (by rw[List.length_set];omega);rw[YSb v r A o (by omega)]at this;exact this
theorem UD (g:Nat):∀(A:List Value) (o:Nat) (w:World),Kept (fun b=>b=g) w (w.setCells g o A)
 | [],_,w=>Kept.refl _ w
 | v::r,o,w=>((Kept.refl (fun b=>b=g) w).setCell (p:=⟨g,o,none⟩) (.inl rfl) v).trans (UD g r (o+1) _)
theorem VFb {n:Nat}{a w:World}(_:Below n a w)(cs:Array Value)(t:TypeId):Blk (w.alloc (.cells cs t)) w.heap.size cs t:=Blk.new w cs t
section
variable {α:Type} {c:Cod α} {size:Nat} {e:TypeId} {w w':World} {base g n cap:Nat} {l:List α} {xs:List Value}
theorem Own.len (h:Own c size e w base (.slice (some ⟨g,0,none⟩) n cap) l xs):n=l.length:=by
 rcases h.row.2 with⟨A,_⟩ | ⟨F,D,E,A,_⟩
 ·cases A
 ·injection A
theorem Qzc {i L k s:Nat}(A:i < L)(D:k < s):i*s+k < L*s:=by
 have:(i+1)*s≤L*s:=Nat.mul_le_mul_right _ A;rw[Nat.add_mul]at this;omega
theorem Qwb {i k s j:Nat}(A:k < i)(D:j < s):k*s+j < i*s:=by
 have:(k+1)*s≤i*s:=Nat.mul_le_mul_right _ A;rw[Nat.add_mul]at this;omega
theorem Own.range (h:Own c size e w base (.slice (some ⟨g,0,none⟩) n cap) l xs){i:Nat}{x:α}(I:l[i]? = some x) :
  ∃cs,c w (QJ base (.slice (some ⟨g,0,none⟩) n cap)) x cs∧cs.length=size∧w.rangeAt g (i*size) cs∧w.there g (i*size) size:=by
 obtain⟨cs,D,E,A,F⟩:=h.cells I;refine⟨cs,D,E,A,fun j J=>⟨?_,F _⟩⟩;rw[A j _ (J1 (by omega))];rfl
theorem Own.setEl (h:Own c size e w base (.slice (some ⟨g,0,none⟩) n cap) l xs)(hg:Good c){i:Nat}{x':α}{cs:List Value}(hi:i < l.length)(A:cs.length=size)
  (hc:c w (QJ base (.slice (some ⟨g,0,none⟩) n cap)) x' cs) :
  Own c size e (w.setCells g (i*size) cs) base (.slice (some ⟨g,0,none⟩) n cap) (l.set i x') (xs.take (i*size)++cs++xs.drop (i*size+size)):=by
 have hn:=h.len;subst hn;have hk:=UD g cs (i*size) w
 have ab:∀(x:α) (I:List Value),c w (QJ base (.slice (some ⟨g,0,none⟩) l.length cap)) x I→c (w.setCells g (i*size) cs) (QJ base (.slice (some ⟨g,0,none⟩) l.length cap)) x I:=fun x I h0=>
  hg.keep h0 fun b U W=>⟨hk.block b W (fun e=>by subst e;exact U.2 rfl),U⟩
 rcases h.row.2 with⟨X,_⟩ | ⟨g',ai,Y,X,U,af,ac,ae,V,ag⟩
 ·cases X
 injection X with e1 e2 e3;injection e1 with e1;injection e1 with e1;subst e1 e3;have ah:xs.length=l.length*size:=h.row.1
 have aj:i*size+size≤l.length*size:=by
  have:(i+1)*size≤l.length*size:=Nat.mul_le_mul_right _ hi
  rwa [Nat.add_mul,Nat.one_mul]at this
 have al:l.length*size≤cap*size:=Nat.mul_le_mul_right _ ac;have hB:Blk w g Y.toList.toArray e:=af;have aa:=Blk.setCells cs (i*size) w Y.toList hB (by rw[A,Array.length_toList,V];omega);rw[A]at aa
 refine⟨⟨by simp only[J9,J8,List.length_drop,List.length_set,ah,A];omega,.inr ⟨g,cap,_,by rw[List.length_set],U,aa,by rw[List.length_set];exact ac,ae,by
  simp only[List.size_toArray,J9,J8,List.length_drop,Array.length_toList,V,A];omega,?_⟩⟩,fun k y F=>?_⟩
 ·subst ag;apply List.ext_getElem?;intro j;simp only[List.length_set,List.getElem?_take,List.getElem?_append,J9,J8,Array.length_toList,V,List.getElem?_drop,A]
  have m1:min (i*size) (cap*size)=i*size:=by omega
  have D:min (i*size) (min (l.length*size) (cap*size))=i*size:=by omega
  rw[m1,D];rcases Nat.lt_or_ge j (i*size)with Q | Q
  ·have E:j < i*size+size:=by omega
   have J:j < l.length*size:=by omega
   simp only[Q,E,J,if_true]
  ·have Z:¬j < i*size:=by omega
   rcases Nat.lt_or_ge j (i*size+size)with E | E
   ·have J:j < l.length*size:=by omega
    simp only[Z,E,J,if_true,if_false]
   ·have ad:¬j < i*size+size:=by omega
    have e:i*size+size+(j - (i*size+size))=j:=by omega
    simp only[Z,ad,if_false,e]
 ·by_cases hki:k=i
  ·subst hki;rw[List.getElem?_set_self hi]at F;injection F with F;subst F;refine⟨cs,ab _ _ hc,A,fun j u O=>?_⟩
   have hj:j < size:=by have:=(J0.1 O).1;omega
   have D:min (k*size) xs.length=k*size:=by omega
   rw[List.getElem?_append_left (by simp only[J9,J8,A,D];omega),List.getElem?_append_right (by simp only[J8,D];omega)];simp only[J8,D];rw[show k*size+j - k*size=j by omega];exact O
  ·rw[List.getElem?_set_ne (fun e=>hki e.symm)]at F;obtain⟨I,Q,E,J⟩:=h.el k y F;refine⟨I,ab _ _ Q,E,fun j u O=>?_⟩
   have hj:j < size:=by have:=(J0.1 O).1;omega
   have h4:=J j u O
   have D:min (i*size) xs.length=i*size:=by omega
   rcases Nat.lt_or_ge k i with W | ak
   ·have:=Qwb W hj;rw[List.getElem?_append_left (by simp only[J9,J8,A,D];omega),List.getElem?_append_left (by simp only[J8,D];omega),List.getElem?_take,M3 this];exact h4
   ·have:(i+1)*size≤k*size:=Nat.mul_le_mul_right _ (by omega);rw[Nat.add_mul,Nat.one_mul]at this;rw[List.getElem?_append_right (by simp only[J9,J8,A,D];omega),List.getElem?_drop];simp only[J9,J8,A,D];rw[show i*size+size+(k*size+j - (i*size+size))=k*size+j by omega];exact h4
end
end Go.Proofs.YtjdcokpmgionjaaGreat
