/-
  Laws and contracts.
-/
import Derived.Test.YtjdcokpmgionjaaGreatBun5
set_option linter.unusedSimpArgs false
set_option linter.unusedVariables false
set_option maxRecDepth 100000
set_option maxHeartbeats 20000000
namespace Go.Proofs.YtjdcokpmgionjaaGreat
theorem Uta {α:Type}[DecidableEq α]:∀(A l2:List α),A.Nodup→(∀x∈A,x∈l2)→A.length≤l2.length
 | [],_,_,_=>M0 _
 | x::A,l2,hn,hs=>by
  have D:=hs x (by simp);rw[List.nodup_cons]at hn;have F:=Uta A (l2.erase x) hn.2 (fun y E=>(List.mem_erase_of_ne (fun e=>hn.1 (by rw[←e];exact E))).2 (hs y (by simp[E])));rw[List.length_erase_of_mem D]at F;have:=List.length_pos_of_mem D;rw[List.length_cons];omega
theorem Vs (m:List Int)(i j:Nat)(v d:Int)(A:i<m.length):(m.set i v).getD j d=if i=j then v else m.getD j d:=by
 simp only[J7,List.getElem?_set];by_cases h:i=j
 ·subst h;simp[A]
 ·simp[h]
theorem X5 (m:List Bool)(i j:Nat)(v d:Bool)(A:i<m.length):(m.set i v).getD j d=if i=j then v else m.getD j d:=by
 simp only[J7,List.getElem?_set];by_cases h:i=j
 ·subst h;simp[A]
 ·simp[h]
theorem X3:∀(m:List Int) (i:Nat) (v x:Int),i<m.length→(m.set i v).count x+(if m.getD i 0=x then 1 else 0)=m.count x+(if v=x then 1 else 0)
 | [],i,v,x,h=>absurd h (by simp)
 | y::m,0,v,x,_=>by
  simp only[List.set_cons_zero,List.count_cons,List.getD_cons_zero,beq_iff_eq];omega
 | y::m,i+1,v,x,h=>by
  have:=X3 m i v x (by simpa using h);simp only[List.set_cons_succ,List.count_cons,List.getD_cons_succ];omega
def Xx (m:List Bool):Nat:=m.count false
theorem ZVa:∀(m:List Bool) (i:Nat),m.getD i true=false→Xx (m.set i true)+1=Xx m
 | [],i,h=>by simp at h
 | y::m,0,h=>by
  simp only[List.getD_cons_zero]at h;subst h;simp[Xx]
 | y::m,i+1,h=>by
  have:=ZVa m i (by simpa using h);unfold Xx at *;simp only[List.set_cons_succ,List.count_cons];omega
def Shut (N:Nat→List Nat) (has:List Int) (D:Nat→Prop):Prop:=∀d,D d→∀r∈N d,∃d':Nat,has.getD r (-1)=d'∧D d'
structure Found (N:Nat→List Nat) (has:List Int) (met:List Bool) (has':List Int) (met':List Bool) (l:Nat):Prop where
 len:has'.length=has.length
 lenM:met'.length=met.length
 cnt:∀x:Nat,has'.count (x:Int)=has.count (x:Int)+(if x=l then 1 else 0)
 free:has'.count (-1)+1=has.count (-1)
 edge:∀r,r<has.length→has'.getD r (-1)=has.getD r (-1)∨∃d:Nat,has'.getD r (-1)=d∧r∈N d
 kept:∀r,met.getD r true=true→has'.getD r (-1)=has.getD r (-1)
 shut:∀D,Shut N has D→¬D l∧∀(r d:Nat),has.getD r (-1)=d→D d→has'.getD r (-1)=d
structure Failed (N:Nat→List Nat) (has:List Int) (ns:List Nat) (met met':List Bool):Prop where
 lenM:met'.length=met.length
 mono:∀r,met.getD r true=true→met'.getD r true=true
 kids:∀r∈ns,met'.getD r true=true
 shut:∀r,met'.getD r true=true→met.getD r true=false→∃d:Nat,has.getD r (-1)=d∧∀r'∈N d,met'.getD r' true=true
theorem Failed.nil (N:Nat→List Nat)(F:List Int)(D:List Bool):Failed N F [] D D:=⟨rfl,fun _ h=>h,by simp,fun r E A=>by rw[E]at A;exact absurd A (by simp)⟩
theorem Failed.skip {N:Nat→List Nat}{E:List Int}{I:List Nat}{F D:List Bool}(h:Failed N E I F D){r:Nat}(J:D.getD r true=true):Failed N E (I++[r]) F D:=
 ⟨h.lenM,h.mono,fun x A=>by
  rcases List.mem_append.1 A with A|A
  ·exact h.kids x A
  ·simp only[List.mem_singleton]at A;subst A;exact J,h.shut⟩
theorem Failed.free {N:Nat→List Nat}{A:List Int}{Z:List Nat}{V F:List Bool}{l:Nat}(h:Failed N A Z V F){r:Nat}(J:F.getD r true=false)(Y:F.length=A.length)(U:r∈N l)(I:A.getD r (-1)=-1) :
  Found N A V (A.set r (l:Int)) (F.set r true) l:=by
 have E:r<A.length:=by
  rw[←Y];by_cases O:r<F.length
  ·exact O
  ·rw[VG (by omega)]at J;exact absurd J (by simp)
 have Q:A.getD r 0=-1:=by rw[Un E]at I ⊢;exact I
 refine⟨List.length_set ..,by rw[List.length_set];exact h.lenM,fun x=>?_,?_,fun q _=>?_,fun q hq=>?_,fun D W=>⟨fun X=>?_,fun q d hq _=>?_⟩⟩
 ·have:=X3 A r (l:Int) (x:Int) E;rw[Q,M2 (show ¬(-1:Int)=(x:Int)by omega)]at this;by_cases hx:x=l
  ·subst hx;rw[M3 rfl]at this ⊢;omega
  ·rw[M2 (show ¬(l:Int)=(x:Int)by omega)]at this;rw[M2 hx];omega
 ·have:=X3 A r (l:Int) (-1) E;rw[Q,M3 rfl,M2 (show ¬(l:Int)=-1 by omega)]at this;omega
 ·rw[Vs _ _ _ _ _ E];by_cases hq:r=q
  ·subst hq;rw[M3 rfl];exact .inr ⟨l,rfl,U⟩
  ·rw[M2 hq];exact .inl rfl
 ·rw[Vs _ _ _ _ _ E,M2 (fun e=>by subst e;rw[h.mono _ hq]at J;exact absurd J (by simp))]
 ·obtain⟨d',O,_⟩:=W l X r U;rw[I]at O;omega
 ·rw[Vs _ _ _ _ _ E,M2 (fun e=>by subst e;rw[I]at hq;omega)];exact hq
theorem Failed.swap {N:Nat→List Nat}{O E:List Int}{ns:List Nat}{aa U m2:List Bool}{l d:Nat}(h:Failed N O ns aa U){r:Nat}(W:U.getD r true=false)(hl:U.length=O.length)(he:r∈N l)(X:O.getD r (-1)=(d:Int))
  (A:Found N O (U.set r true) E m2 d):Found N O aa (E.set r (l:Int)) m2 l:=by
 have ac:r<O.length:=by
  rw[←hl];by_cases h1:r<U.length
  ·exact h1
  ·rw[VG (by omega)]at W;exact absurd W (by simp)
 have Q:r<E.length:=by rw[A.len];exact ac
 have hk:E.getD r (-1)=(d:Int):=by rw[A.kept r (by rw[X5 _ _ _ _ _ (by omega)];simp),X]
 have Y:E.getD r 0=(d:Int):=by rw[Un Q]at hk ⊢;exact hk
 refine⟨by rw[List.length_set,A.len],by rw[A.lenM,List.length_set];exact h.lenM,fun x=>?_,?_,fun q F=>?_,fun q F=>?_,fun D V=>⟨fun ab=>?_,fun q e F Z=>?_⟩⟩
 ·have h3:=X3 E r (l:Int) (x:Int) Q;have J:=A.cnt x;rw[Y]at h3;by_cases hx:x=l<;>by_cases hy:x=d
  ·rw[M3 (by omega),M3 (by omega)]at h3;rw[M3 hy]at J;rw[M3 hx];omega
  ·rw[M2 (by omega),M3 (by omega)]at h3;rw[M2 hy]at J;rw[M3 hx];omega
  ·rw[M3 (by omega),M2 (by omega)]at h3;rw[M3 hy]at J;rw[M2 hx];omega
  ·rw[M2 (by omega),M2 (by omega)]at h3;rw[M2 hy]at J;rw[M2 hx];omega
 ·have h3:=X3 E r (l:Int) (-1) Q;rw[Y,M2 (by omega),M2 (by omega)]at h3;have:=A.free;omega
 ·rw[Vs _ _ _ _ _ Q];by_cases I:r=q
  ·subst I;rw[M3 rfl];exact .inr ⟨l,rfl,he⟩
  ·rw[M2 I];exact A.edge q F
 ·have I:r≠q:=fun e=>by subst e;rw[h.mono _ F]at W;exact absurd W (by simp)
  rw[Vs _ _ _ _ _ Q,M2 I];exact A.kept q (by rw[X5 _ _ _ _ _ (by omega),M2 I];exact h.mono q F)
 ·obtain⟨d',h3,J⟩:=V l ab r he;rw[X]at h3
  obtain rfl:d=d':=by omega
  exact(A.shut D V).1 J
 ·have I:r≠q:=fun e'=>by
   subst e';rw[X]at F
   obtain rfl:d=e:=by omega
   exact(A.shut D V).1 Z
  rw[Vs _ _ _ _ _ Q,M2 I];exact(A.shut D V).2 q e F Z
theorem Failed.more {N:Nat→List Nat}{I:List Int}{W:List Nat}{V D J:List Bool}{d:Nat}(h:Failed N I W V D){r:Nat}(U:D.getD r true=false)(Z:I.getD r (-1)=(d:Int))
  (E:Failed N I (N d) (D.set r true) J):Failed N I (W++[r]) V J:=by
 have Q:r<D.length:=by
  by_cases h1:r<D.length
  ·exact h1
  ·rw[VG (by omega)]at U;exact absurd U (by simp)
 have O:∀q,D.getD q true=true→J.getD q true=true:=fun q F=>E.mono q (by rw[X5 _ _ _ _ _ Q];split;rfl;exact F);have ab:J.getD r true=true:=E.mono r (by rw[X5 _ _ _ _ _ Q];simp);refine⟨by rw[E.lenM,List.length_set];exact h.lenM,fun q F=>O q (h.mono q F),fun x A=>?_,fun q F aa=>?_⟩
 ·rcases List.mem_append.1 A with A|A
  ·exact O x (h.kids x A)
  ·simp only[List.mem_singleton]at A;subst A;exact ab
 ·by_cases h3:D.getD q true=true
  ·obtain⟨e,X,Y⟩:=h.shut q h3 aa;exact⟨e,X,fun x A=>O x (Y x A)⟩
  ·by_cases hqr:r=q
   ·subst hqr;exact⟨d,Z,E.kids⟩
   ·exact E.shut q F (by rw[X5 _ _ _ _ _ Q,M2 hqr];simpa using h3)
structure Asked (N:Nat→List Nat) (right:Nat) (A:Nat→Prop) (has:List Int) (no:List Nat) (D:Nat→Prop):Prop where
 len:has.length=right
 edge:∀r,r<right→has.getD r (-1)=-1∨∃d:Nat,has.getD r (-1)=d∧A d∧r∈N d
 cnt:∀x:Nat,A x→x∉no→has.count (x:Int)=1
 cnt0:∀x:Nat,(¬A x∨x∈no)→has.count (x:Int)=0
 nod:no.Nodup
 noA:∀x∈no,A x
 noD:∀x∈no,D x
 DA:∀x,D x→A x
 shut:Shut N has D
theorem Q4a {m:List Int}{r:Nat}{x:Int}(h:m.getD r (-1)=x)(A:x≠-1):r<m.length∧x∈m:=by
 by_cases hr:r<m.length
 ·rw[Un hr]at h;exact⟨hr,h ▸ List.getElem_mem hr⟩
 ·rw[VG (by omega)]at h;exact absurd h.symm A
theorem Asked.start (N:Nat→List Nat)(right:Nat)(A:Nat→Prop)(F:∀x,¬A x):Asked N right A (List.replicate right (-1)) [] (fun _=>False) where
 len:=by simp
 edge:=fun r D=>.inl (by rw[J7,List.getElem?_replicate,M3 D];rfl)
 cnt:=fun x E=>absurd E (F x)
 cnt0:=fun x _=>List.count_eq_zero.2 (by simp[List.mem_replicate])
 nod:=by simp
 noA:=by simp
 noD:=by simp
 DA:=fun _ h=>h.elim
 shut:=fun _ h=>h.elim
theorem Asked.ok {N:Nat→List Nat}{right:Nat}{A:Nat→Prop}{X:List Int}{no:List Nat}{D:Nat→Prop}(h:Asked N right A X no D){aa ab:List Bool}{J:List Int}{l:Nat}(Y:¬A l)(f:Found N X aa J ab l) :
  Asked N right (fun x=>A x∨x=l) J no D where
 len:=by rw[f.len,h.len]
 edge:=fun r O=>by
  have Z:∀d:Nat,J.getD r (-1)=(d:Int)→A d∨d=l:=fun d E=>by
   have hm:=(Q4a E (by omega)).2;have V:0<J.count (d:Int):=List.count_pos_iff.2 hm;rw[f.cnt d]at V;by_cases he:d=l
   ·exact .inr he
   ·rw[M2 he]at V;refine .inl (Classical.byContradiction fun F=>?_);rw[h.cnt0 d (.inl F)]at V;omega
  rcases f.edge r (by rw[h.len];exact O)with e|⟨d,e,E⟩
  ·rcases h.edge r O with Q|⟨d,Q,U,I⟩
   ·exact .inl (e.trans Q)
   ·exact .inr ⟨d,e.trans Q,.inl U,I⟩
  ·exact .inr ⟨d,e,Z d e,E⟩
 cnt:=fun x hx F=>by
  rw[f.cnt x];by_cases he:x=l
  ·subst he;rw[M3 rfl,h.cnt0 x (.inl Y)]
  ·rw[M2 he,h.cnt x (hx.resolve_right he) F]
 cnt0:=fun x hx=>by
  rw[f.cnt x]
  have he:x≠l:=fun e=>by
   subst e;rcases hx with hx|hx
   ·exact hx (.inr rfl)
   ·exact Y (h.noA x hx)
  rw[M2 he,h.cnt0 x (hx.imp (fun F ha=>F (.inl ha)) id)]
 nod:=h.nod
 noA:=fun x hx=>.inl (h.noA x hx)
 noD:=h.noD
 DA:=fun x hx=>.inl (h.DA x hx)
 shut:=fun d E r O=>by
  obtain⟨W,U,I⟩:=h.shut d E r O;exact⟨W,(f.shut D h.shut).2 r W U I,I⟩
theorem Asked.nobody {N:Nat→List Nat}{right:Nat}{A:Nat→Prop}{F:List Int}{no:List Nat}{D:Nat→Prop}(h:Asked N right A F no D)(Y:∀d r,r∈N d→r<right){O:List Bool}{l:Nat}(Z:¬A l)(f:Failed N F (N l) (List.replicate right false) O) :
  Asked N right (fun x=>A x∨x=l) F (no++[l]) (fun x=>D x∨x=l∨∃r,O.getD r true=true∧r<right∧F.getD r (-1)=x) where
 len:=h.len
 edge:=fun r hr=>(h.edge r hr).imp id (fun⟨d,e,E,Q⟩=>⟨d,e,.inl E,Q⟩)
 cnt:=fun x hx X=>by
  simp only[List.mem_append,List.mem_singleton,not_or]at X;exact h.cnt x (hx.resolve_right X.2) X.1
 cnt0:=fun x hx=>by
  rcases hx with hx|hx
  ·exact h.cnt0 x (.inl fun ha=>hx (.inl ha))
  ·rcases List.mem_append.1 hx with hx|hx
   ·exact h.cnt0 x (.inr hx)
   ·simp only[List.mem_singleton]at hx;subst hx;exact h.cnt0 x (.inl Z)
 nod:=by
  rw[List.nodup_append];refine⟨h.nod,by simp,fun x hx y hy=>?_⟩;simp only[List.mem_singleton]at hy;rintro rfl;subst hy;exact Z (h.noA _ hx)
 noA:=fun x hx=>by
  rcases List.mem_append.1 hx with hx|hx
  ·exact .inl (h.noA x hx)
  ·simp only[List.mem_singleton]at hx;exact .inr hx
 noD:=fun x hx=>by
  rcases List.mem_append.1 hx with hx|hx
  ·exact .inl (h.noD x hx)
  ·simp only[List.mem_singleton]at hx;exact .inr (.inl hx)
 DA:=fun x hx=>by
  rcases hx with hx|hx|⟨r,_,hr,I⟩
  ·exact .inl (h.DA x hx)
  ·exact .inr hx
  ·rcases h.edge r hr with e|⟨d,e,E,_⟩
   ·rw[e]at I;omega
   ·rw[e]at I;obtain rfl:d=x:=by omega
    exact .inl E
 shut:=fun d W r hr=>by
  have aa:∀q,O.getD q true=true→q<right→∃e:Nat,F.getD q (-1)=e∧∀r'∈N e,O.getD r' true=true:=fun q U V=>f.shut q U (by rw[J7,List.getElem?_replicate,M3 V];rfl)
  have out:∀q,O.getD q true=true→q<right→∃J:Nat,F.getD q (-1)=J∧(D J∨J=l∨∃r,O.getD r true=true∧r<right∧F.getD r (-1)=J):=fun q U V=>by
   obtain⟨e,I,_⟩:=aa q U V;exact⟨e,I,.inr (.inr ⟨q,U,V,I⟩)⟩
  rcases W with W|rfl|⟨r0,E,Q,h3⟩
  ·obtain⟨J,E,Q⟩:=h.shut d W r hr;exact⟨J,E,.inl Q⟩
  ·exact out r (f.kids r hr) (Y d r hr)
  ·obtain⟨e,I,hk⟩:=aa r0 E Q;rw[I]at h3
   obtain rfl:e=d:=by omega
   exact out r (hk r hr) (Y e r hr)
structure IsM (N:Nat→List Nat) (M:List (Nat×Nat)):Prop where
 edge:∀p∈M,p.2∈N p.1
 lefts:(M.map (·.1)).Nodup
 rights:(M.map (·.2)).Nodup
theorem VB {α β:Type}{f:α→β} : ∀{l:List α},(l.map f).Nodup→∀x∈l,∀y∈l,f x=f y→x=y
 | [],_,x,hx,_,_,_=>absurd hx (by simp)
 | z::l,h,x,hx,y,hy,he=>by
  rw[List.map_cons,List.nodup_cons]at h
  rcases List.mem_cons.1 hx with A|A<;>rcases List.mem_cons.1 hy with D|D
  ·rw[A,D]
  ·exact absurd (List.mem_map.2 ⟨y,D,by rw[←he,A]⟩) h.1
  ·exact absurd (List.mem_map.2 ⟨x,A,by rw[he,D]⟩) h.1
  ·exact VB h.2 x A y D he
theorem Vg {α β:Type}{f:α→β} : ∀{l:List α},l.Nodup→(∀x∈l,∀y∈l,f x=f y→x=y)→(l.map f).Nodup
 | [],_,_=>by simp
 | z::l,h,hf=>by
  rw[List.nodup_cons]at h;rw[List.map_cons,List.nodup_cons];refine⟨fun E=>?_,Vg h.2 fun x F y A=>hf x (by simp[F]) y (by simp[A])⟩;obtain⟨y,A,D⟩:=List.mem_map.1 E;have:=hf y (by simp[A]) z (by simp) D;subst this;exact h.1 A
theorem Ys {α β:Type}{f:α→β} : ∀{l:List α},(l.map f).Nodup→l.Nodup
 | [],_=>by simp
 | z::l,h=>by
  rw[List.map_cons,List.nodup_cons]at h;rw[List.nodup_cons];exact⟨fun A=>h.1 (List.mem_map.2 ⟨z,A,rfl⟩),Ys h.2⟩
theorem Xha {m:List Int}{x:Int}(h:m.count x≤1){i j:Nat}(E:m[i]? = some x)(F:m[j]? = some x):i=j:=by
 refine Classical.byContradiction fun Q=>?_
 have J:∀(m:List Int) (i j:Nat),i<j→m[i]? = some x→m[j]? = some x→2≤m.count x:=by
  intro m
  induction m with
  | nil=>intro i j _ h;simp at h
  | cons y m ih=>
   intro i j O A D;rcases i with _|i
   ·simp at A;subst A;rcases j with _|j
    ·omega
    ·simp at D;have:=List.count_pos_iff.2 (J6 D);rw[List.count_cons,M3 (by simp)];omega
   ·rcases j with _|j
    ·omega
    ·simp at A D;have:=ih i j (by omega) A D;rw[List.count_cons];omega
 rcases Nat.lt_or_ge i j with I|I
 ·have:=J m i j I E F;omega
 ·have:=J m j i (by omega) F E;omega
theorem Asked.most {N:Nat→List Nat}{left right:Nat}{aa:List Int}{no:List Nat}{D:Nat→Prop}(h:Asked N right (fun x=>x<left) aa no D)(hN:∀d r,r∈N d→d<left∧r<right){M:List (Nat×Nat)}(Z:IsM N M):M.length+no.length≤left:=by
 classical
 let F:Nat×Nat→Nat:=fun p=>if D p.1 then (aa.getD p.2 (-1)).toNat else p.1
 have Y:∀p∈M,D p.1→∃I:Nat,aa.getD p.2 (-1)=I∧D I∧I∉no:=fun p hp A=>by
  obtain⟨I,E,V⟩:=h.shut p.1 A p.2 (Z.edge p hp);refine⟨I,E,V,fun X=>?_⟩;have O:=h.cnt0 I (.inr X);have h4:=List.count_pos_iff.2 (Q4a E (by omega)).2;omega
 have ab:∀p∈M,F p<left∧F p∉no:=fun p hp=>by
  by_cases A:D p.1
  ·obtain⟨I,E,V,O⟩:=Y p hp A
   have:F p=I:=by show(if _ then _ else _)=_;rw[M3 A,E];rfl
   rw[this];exact⟨h.DA I V,O⟩
  ·have:F p=p.1:=M2 A;rw[this];exact⟨(hN _ _ (Z.edge p hp)).1,fun X=>A (h.noD _ X)⟩
 have ae:M.Nodup:=Ys Z.lefts
 have ad:(M.map F).Nodup:=Vg ae fun p hp q hq he=>by
  by_cases A:D p.1<;>by_cases hd2:D q.1
  ·obtain⟨J,E,V,_⟩:=Y p hp A;obtain⟨d2,O,h4,_⟩:=Y q hq hd2
   have Q:F p=J:=by show(if _ then _ else _)=_;rw[M3 A,E];rfl
   have U:F q=d2:=by show(if _ then _ else _)=_;rw[M3 hd2,O];rfl
   obtain rfl:J=d2:=by rw[←Q,←U];exact he
   have g1:=(Q4a E (by omega)).1;have g2:=(Q4a O (by omega)).1;rw[Un g1]at E;rw[Un g2]at O
   have hc:aa.count (J:Int)≤1:=by
    by_cases X:J∈no
    ·rw[h.cnt0 J (.inr X)];omega
    ·rw[h.cnt J (h.DA J V) X];omega
   have hr:p.2=q.2:=Xha hc (J0.2 ⟨g1,E⟩) (J0.2 ⟨g2,O⟩);exact VB Z.rights p hp q hq hr
  ·obtain⟨J,E,V,_⟩:=Y p hp A
   have Q:F p=J:=by show(if _ then _ else _)=_;rw[M3 A,E];rfl
   have U:F q=q.1:=M2 hd2;exact absurd (by rw[←U,←he,Q];exact V) hd2
  ·obtain⟨d2,O,h4,_⟩:=Y q hq hd2;have Q:F p=p.1:=M2 A
   have U:F q=d2:=by show(if _ then _ else _)=_;rw[M3 hd2,O];rfl
   exact absurd (by rw[←Q,he,U];exact h4) A
  ·have Q:F p=p.1:=M2 A;have U:F q=q.1:=M2 hd2;exact VB Z.lefts p hp q hq (by rw[←Q,←U];exact he)
 have ac:=Uta (M.map F++no) (List.range left) (by
  rw[List.nodup_append];refine⟨ad,h.nod,fun x W y hy=>?_⟩;obtain⟨p,hp,rfl⟩:=List.mem_map.1 W;rintro rfl
  exact(ab p hp).2 hy) (fun x W=>List.mem_range.2 (by
  rcases List.mem_append.1 W with W|W
  ·obtain⟨p,hp,rfl⟩:=List.mem_map.1 W;exact(ab p hp).1
  ·exact h.noA x W))
 rw[J9,List.length_map,List.length_range]at ac;exact ac
def mOf (has:List Int):List (Nat×Nat):=(List.range has.length).filterMap (fun r=>if has.getD r (-1)<0 then none else some ((has.getD r (-1)).toNat,r))
theorem Uua {A:List Int}{p:Nat×Nat} : p∈mOf A↔p.2<A.length∧A.getD p.2 (-1)=(p.1:Int):=by
 unfold mOf;rw[List.mem_filterMap]
 constructor
 ·rintro⟨r,F,h⟩;by_cases h0:A.getD r (-1)<0
  ·rw[M3 h0]at h;cases h
  ·rw[M2 h0]at h;injection h with h;subst h;exact⟨List.mem_range.1 F,by simp only;omega⟩
 ·rintro⟨D,E⟩;refine⟨p.2,List.mem_range.2 D,?_⟩;rw[M2 (by omega),E];rfl
theorem XR (f:Nat→Option (Nat×Nat))(A:∀r p,f r=some p→p.2=r):∀l:List Nat,l.Nodup→((l.filterMap f).map (·.2)).Nodup
 | [],_=>by simp
 | r::l,h=>by
  rw[List.nodup_cons]at h;have D:=XR f A l h.2;rw[List.filterMap_cons]
  cases hr:f r with
  | none=>exact D
  | some p=>
   rw[List.map_cons,List.nodup_cons];refine⟨fun Q=>?_,D⟩;obtain⟨W,U,J⟩:=List.mem_map.1 Q;obtain⟨E,V,O⟩:=List.mem_filterMap.1 U;have F:=A r p hr;have I:=A E W O
   have:E=r:=by rw[←F,←I];exact J
   subst this;exact h.1 V
theorem U3b (A:List Int):(mOf A).Nodup:=by
 refine Ys (f:=(·.2)) (XR _ (fun r p h=>?_) _ List.nodup_range);by_cases h0:A.getD r (-1)<0
 ·rw[M3 h0]at h;cases h
 ·rw[M2 h0]at h;injection h with h;subst h;rfl
theorem Asked.isM {N:Nat→List Nat}{A:Nat→Prop}{right:Nat}{Z:List Int}{no:List Nat}{D:Nat→Prop}(h:Asked N right A Z no D):IsM N (mOf Z) where
 edge:=fun p F=>by
  obtain⟨E,Y⟩:=Uua.1 F;rcases h.edge p.2 (by rw[←h.len];exact E)with e|⟨d,e,_,U⟩
  ·rw[e]at Y;omega
  ·rw[e]at Y;obtain rfl:d=p.1:=by omega
   exact U
 lefts:=Vg (U3b Z) fun p F q W V=>by
  obtain⟨E,Y⟩:=Uua.1 F;obtain⟨I,J⟩:=Uua.1 W
  have Q:Z.count (p.1:Int)≤1:=by
   by_cases hn:p.1∈no
   ·rw[h.cnt0 _ (.inr hn)];omega
   ·by_cases ha:A p.1
    ·rw[h.cnt _ ha hn];omega
    ·rw[h.cnt0 _ (.inl ha)];omega
  have O:p.1=q.1:=V;rw[Un E]at Y;rw[Un I,←O]at J;have X:p.2=q.2:=Xha Q (J0.2 ⟨E,Y⟩) (J0.2 ⟨I,J⟩);exact Prod.ext O X
 rights:=by
  refine XR _ (fun r p h=>?_) _ List.nodup_range;by_cases h0:Z.getD r (-1)<0
  ·rw[M3 h0]at h;cases h
  ·rw[M2 h0]at h;injection h with h;subst h;rfl
theorem Asked.best {N:Nat→List Nat}{left right:Nat}{A:List Int}{no:List Nat}{D:Nat→Prop}(h:Asked N right (fun x=>x<left) A no D)(F:∀d r,r∈N d→d<left∧r<right):(mOf A).length+no.length=left:=by
 have Q:=h.most F h.isM
 have E:=Uta (List.range left) ((mOf A).map (·.1)++no) List.nodup_range (fun x J=>by
  have O:=List.mem_range.1 J;by_cases hn:x∈no
  ·exact List.mem_append_right _ hn
  ·have U:=h.cnt x O hn;obtain⟨r,V,I⟩:=List.getElem_of_mem (List.count_pos_iff.1 (show 0<A.count (x:Int)by omega))
   exact List.mem_append_left _ (List.mem_map.2 ⟨(x,r),Uua.2 ⟨V,by rw[Un V];exact I⟩,rfl⟩))
 rw[List.length_range,J9,List.length_map]at E;omega
end Go.Proofs.YtjdcokpmgionjaaGreat
namespace Go.Proofs.YtjdcokpmgionjaaGreat
open Proofs.Tryz Go.RowKit Go.Shelf
theorem ZLc {α:Type}{l:List α}{k:Nat}{x d:α}(h:l[k]? = some x):l.getD k d=x:=by rw[J7,h];rfl
theorem QNa:∀(a b:List Bool),b.length=a.length→(∀r,a.getD r true=true→b.getD r true=true)→Xx b≤Xx a
 | [],[],_,_=>J5 _
 | [],_::_,h,_=>by simp at h
 | _::_,[],h,_=>by simp at h
 | x::a,y::b,h,hm=>by
  have E:=QNa a b (by simpa using h) (fun r D=>by simpa using hm (r+1) (by simpa using D));have A:=hm 0;simp only[List.getD_cons_zero]at A;unfold Xx at *;rw[List.count_cons,List.count_cons];cases x<;>cases y<;>simp_all<;>omega
def RowB (w:World) (g:Nat) (m:List Bool):Prop:=Blk w g (m.map Value.bool).toArray 4
theorem RowB.cell {w:World}{g:Nat}{m:List Bool}(h:RowB w g m){i:Nat}(A:i<m.length):w.cell? ⟨g,i,none⟩=some (.bool (m.getD i true)):=by
 refine Blk.cell h ?_;rw[List.getElem?_toArray,List.getElem?_map,J1 A,J7,J1 A];rfl
theorem RowB.set {w:World}{g:Nat}{m:List Bool}(h:RowB w g m)(i:Nat)(v:Bool):RowB (w.setCell ⟨g,i,none⟩ (.bool v)) g (m.set i v):=by
 have:=Blk.set (j:=i) h (.bool v);unfold RowB;rw[List.map_set]
 simpa using this
theorem RowB.other {w:World}{g:Nat}{m:List Bool}(h:RowB w g m){p:Addr}(A:p.block≠g)(u:Value):RowB (w.setCell p u) g m:=Blk.other h A u
theorem RowI.cell' {w:World}{g:Nat}{m:List Int}{t:TypeId}(h:RowI w g m t){i:Nat}(A:i<m.length):w.cell? ⟨g,i,none⟩=some (.int .i64 (m.getD i (-1))):=by
 rw[h.cell A,Un A,Un A]
def Ula (rows:List (List Int)) (d:Nat):List Nat:=(rows.getD d []).map Int.toNat
structure MtAt (w:World) (P G M:Nat) (A:Option Addr) (n cap:Nat) (R:Nat) (rows:List (List Int)) (has:List Int) (met:List Bool):Prop where
 sl:Sl (slC QO 1) 1 w (fun b=>b≠G∧b≠M) A n cap rows
 st:Blk w P #[.slice A n cap,.slice (some ⟨G,0,none⟩) R R,.slice (some ⟨M,0,none⟩) R R] 289
 row:RowI w G has 3
 mt:RowB w M met
 lh:has.length=R
 lm:met.length=R
theorem Xc:Good (slC QO 1):=ZU Qd (by omega)
theorem MtAt.setM {w:World}{P G M:Nat}{A:Option Addr}{n cap R:Nat}{F:List (List Int)}{O:List Int}{E:List Bool}(h:MtAt w P G M A n cap R F O E)(I:G≠M)(J:P≠M)(i:Nat)(v:Bool) :
  MtAt (w.setCell ⟨M,i,none⟩ (.bool v)) P G M A n cap R F O (E.set i v):=
 ⟨h.sl.keep Xc (by omega) fun b D _=>⟨Below.heap_setCell _ _ _ _ D.2,D⟩,h.st.other (fun e=>J e.symm) _,h.row.other (fun e=>I e.symm) _,h.mt.set _ _,h.lh,by rw[List.length_set];exact h.lm⟩
theorem MtAt.setG {w:World}{P G M:Nat}{A:Option Addr}{n cap R:Nat}{F:List (List Int)}{O:List Int}{E:List Bool}(h:MtAt w P G M A n cap R F O E)(I:G≠M)(J:P≠G)(i:Nat)(v:Int) :
  MtAt (w.setCell ⟨G,i,none⟩ (.int .i64 v)) P G M A n cap R F (O.set i v) E:=
 ⟨h.sl.keep Xc (by omega) fun b D _=>⟨Below.heap_setCell _ _ _ _ D.1,D⟩,h.st.other (fun e=>J e.symm) _,h.row.set _ _,h.mt.other I _,by rw[List.length_set];exact h.lh,h.lm⟩
theorem Xgb (P G M:Nat)(A:Option Addr)(n cap R:Nat)(D:List (List Int))(ad:G≠M)(ap:P≠G)(aG:P≠M)(ax:∀c∈D,∀r∈c,0≤r∧r<R) :
  ∀(z:Nat) (F:List Int) (I:List Bool) (l:Nat) (w:World),MtAt w P G M A n cap R D F I→l<n→Xx I≤z→(∀r,r<R→F.getD r (-1)=-1∨∃d:Nat,F.getD r (-1)=d∧d<n)→n≤1000→
  Calls prog 246 #[.pointer (some ⟨P,0,none⟩),.int .i64 (l:Int)] w fun e w'=>∃(b:Bool) (ah:List Int) (aj:List Bool),e=.returned (.bool b)∧MtAt w' P G M A n cap R D ah aj∧Kept (fun k=>k=G∨k=M) w w'∧
   (b=true→Found (Ula D) F I ah aj l)∧(b=false→ah=F∧Failed (Ula D) F (Ula D l) I aj):=by
 intro z
 induction z using Nat.strongRecOn with
 | _ z ih=>
  intro F I l w hA hl hz av hn;obtain⟨b,aL,row,c0,rfl,hx,⟨A2,W,aN,au,aa⟩,g0⟩:=hA.sl.at1 hl;simp only[List.cons.injEq,and_true]at au;obtain rfl:=au;have p0:=hA.st.cell (j:=0) rfl
  have aw:Ula D l=row.map Int.toNat:=by unfold Ula;rw[ZLc hx]
  have aE:=yh (ax row (J6 hx));have ay:=yh hA;have an:=yh aw;have aF:=yh aa;have aQ:=aa.bd;have aD:=yh aa.len;have IH:=yh ih;clear ih;have HZ:=yh hz;clear hz;have ak:=yh av;clear av;have aM:=yh ax;clear hA hx aw aa;go_enter func246,ntmps246;go_wp2_with fail
  go_loopg [15] W (fun gk iv wr=>∃(k:Nat) (E:List Bool),k≤W∧W-k≤gk∧iv=.int .i64 k∧Failed (Ula D) F ((Ula D l).take k) I E∧MtAt wr P G M (some ⟨b,aL,none⟩) n cap R D F E∧Kept (fun k=>k=G∨k=M) w wr)
  case atStart=>exact⟨0,I,M0 _,by omega,rfl,by rw[List.take_zero];exact Failed.nil _ _ _,ay,Kept.refl _ _⟩
  case round=>
   obtain⟨k,E,hk,aR,rfl,hF,ao,hK⟩:=hrel;have O:=yh hF;have aX:=yh ao;have HK:=yh hK;clear hF ao hK;by_cases hlt:k<W
   ·obtain⟨b2,aT,y,d0,rfl,hy,⟨hd,_⟩,e0⟩:=(aF.keep (w':=wr) (S':=All) Qd (by omega) (fun q hq aI=>⟨HK.block q aI (by rintro(h|h);exact hq.1 h;exact hq.2 h),trivial⟩)).at1 hlt;simp only[List.cons.injEq,and_true]at hd;obtain rfl:=hd;obtain⟨y0,y1⟩:=aE y (J6 hy);obtain⟨r,rfl⟩:=Int.eq_ofNat_of_zero_le y0
    have Y:r<R:=by omega
    have ai:(Ula D l)[k]? = some r:=by rw[an.out,List.getElem?_map,hy];rfl
    have HT:=yh (Qo ai);have al:=yh (J6 ai);have q1:yJ wr P 1 (some ⟨G,0,none⟩) R R:=aX.st.cell rfl;have q2:yJ wr P 2 (some ⟨M,0,none⟩) R R:=aX.st.cell rfl;have Z:=aX.mt.cell (i:=r) (by rw[aX.out.lm];exact Y);have f0:=aX.mt.free r;obtain⟨v,hv⟩:=yE (E.getD r true);rw[←hv]at Z;have X:=yh hv;clear hy ai hv y0;cases v
    ·-- he is new
     have aS:r<E.length:=by rw[aX.out.lm];exact Y
     have U:=yh (aX.setM ad aG r true);have ae:=yh (HK.setCell (p:=⟨M,r,none⟩) (.inl (.inr rfl)) (.bool true));obtain⟨W2,aq⟩:=yE (wr.setCell ⟨M,r,none⟩ (.bool true));go_upto_region 6 with(fail);rw[←aq]at U ae ⊢;clear aq q1 q2 Z f0 e0;have q1:yJ W2 P 1 (some ⟨G,0,none⟩) R R:=U.out.st.cell rfl;have Z:=U.out.row.cell' (i:=r) (by rw[U.out.lh];exact Y);have f0:=U.out.row.free r;rcases ak r Y with V|⟨d,V,aH⟩
     ·rw[V]at Z;have Q:=yh (O.free X.symm (by rw[aX.out.lm,aX.out.lh]) al V);have az:=yh (U.out.setG ad ap r (l:Int));have aB:=yh (ae.out.setCell (p:=⟨G,r,none⟩) (.inl (.inl rfl)) (.int .i64 (l:Int)));clear V;go_wp2_with fail;go_ret;exact⟨true,_,_,rfl,az,aB,fun _=>Q.out,fun h=>absurd h (by simp)⟩
     ·rw[V]at Z;have aK:=ZVa E r X.symm;have aJ:Xx E≤Xx I:=QNa I E O.lenM O.mono;have ar:=IH (Xx (E.set r true)) (by have:=HZ.out;omega) F (E.set r true) d W2 U.out aH (J5 _) ak hn;have HH:=yh V;have aA:=yh ar;clear ar;clear V aK aJ;go_wp2_with fail;refine aA.mono ?_;rintro e w5 ⟨bb,aP,m2,rfl,J,af,ag,ac⟩;have am:=yh (ae.out.trans (af.mono fun k _ h=>h));cases bb
      ·obtain⟨rfl,h6⟩:=ac rfl;have Q:=yh (O.more X.symm HH h6);have ab:=yh J;clear J af ag ac h6;go_wp2_with fail;go_roundg (W-(k+1))
       case measure=>omega
       case rel=>exact⟨k+1,m2,by omega,by omega,by go_num,by rw[HT.out];exact Q,ab,am⟩
      ·have Q:=yh (O.swap X.symm (by rw[aX.out.lm,aX.out.lh]) al HH (ag rfl));have aU:yJ w5 P 1 (some ⟨G,0,none⟩) R R:=J.st.cell rfl;have aV:=J.row.cell' (i:=r) (by rw[J.lh];exact Y);have aO:=J.row.free r;have ab:=yh (J.setG ad ap r (l:Int));have aC:=yh (am.setCell (p:=⟨G,r,none⟩) (.inl (.inl rfl)) (.int .i64 (l:Int)));clear J af ag ac;go_wp2_with fail;go_ret;exact⟨true,_,_,rfl,ab,aC,fun _=>Q.out,fun h=>absurd h (by simp)⟩
    ·have Q:=yh (O.skip X.symm);go_wp2_with fail;go_roundg (W-(k+1))
     case measure=>omega
     case rel=>exact⟨k+1,E,by omega,by omega,by go_num,by rw[HT.out];exact Q,aX,HK⟩
   ·obtain rfl:k=W:=by omega
    have HT:=yh (show(Ula D l).take k=Ula D l from M1 (by rw[an.out,List.length_map,aD.out];omega));go_wp2_with fail;go_ret;refine⟨false,F,E,rfl,aX,HK,fun h=>absurd h (by simp),fun _=>⟨rfl,?_⟩⟩;have:=O.out
    rwa [HT.out]at this
structure Edg where
 lft:Int
 rgt:Int
 deriving DecidableEq,Inhabited
def Xn:Cod Edg:=fun _ _ x cs=>cs=[.int .i64 x.lft,.int .i64 x.rgt]∧InI x.lft∧InI x.rgt
theorem Y9:XM Xn:=fun _ _ _ _ _ _ h=>h
theorem QJ:Good Xn:=.of_flat Y9 fun h u A=>by obtain⟨rfl,_⟩:=h;simp at A;rcases A with rfl|rfl<;>rfl
instance edgK:CodK Xn 2:=⟨QJ,by omega⟩
def U1 (l:List Edg) (d:Nat):List Nat:=(l.filter (fun x=>decide (x.lft=(d:Int)))).map (fun x=>x.rgt.toNat)
theorem Vcb (l:List Edg)(x:Edg)(d:Nat):U1 (l++[x]) d=if x.lft=(d:Int)then U1 l d++[x.rgt.toNat]else U1 l d:=by
 unfold U1;rw[List.filter_append,List.map_append];by_cases h:x.lft=(d:Int)
 ·rw[M3 h];simp[h]
 ·rw[M2 h];simp[h]
theorem XQb {l:List Edg}{x:Edg}{d r:Nat}(E:x∈l)(A:x.lft=(d:Int))(D:x.rgt=(r:Int)):r∈U1 l d:=by
 unfold U1;exact List.mem_map.2 ⟨x,List.mem_filter.2 ⟨E,J2 A⟩,by rw[D];rfl⟩
def CelI (w:World) (g:Nat) (m:List Int):Prop:=∀i,i<m.length→yI w g i ((m.getD i (-1)))∧w.frozen? ⟨g,i,none⟩=false
theorem CelI.set {w:World}{g:Nat}{m:List Int}(h:CelI w g m){i:Nat}(D:i<m.length)(v:Int):CelI (w.setCell ⟨g,i,none⟩ (.int .i64 v)) g (m.set i v):=fun j A=>by
 rw[List.length_set]at A;rw[Vs _ _ _ _ _ D];refine⟨?_,by rw[World.frozen?_setCell];exact(h j A).2⟩;by_cases he:i=j
 ·subst he;rw[M3 rfl];exact World.cell?_setCell_same' w _ _ (by rw[(h i D).1];rfl)
 ·rw[M2 he];exact(World.cell?_setCell_other w ⟨g,i,none⟩ ⟨g,j,none⟩ _ (fun e=>he (by injection e))).trans (h j A).1
theorem CelI.kept {w w':World}{g:Nat}{m:List Int}(h:CelI w g m)(A:w'.heap[g]? = w.heap[g]?):CelI w' g m:=fun j D=>
 ⟨(World.cell?_of_block (a:=⟨g,j,none⟩) A).trans (h j D).1,(World.frozen?_of_block (a:=⟨g,j,none⟩) A).trans (h j D).2⟩
structure GrAt (w:World) (G M:Nat) (A:Option Addr) (n cap:Nat) (R:Nat) (l:List Edg) (has:List Int) (met:List Bool):Prop where
 sl:Sl Xn 2 w (fun b=>b≠G∧b≠M) A n cap l
 row:CelI w G has
 mt:RowB w M met
 lh:has.length=R
 lm:met.length=R
theorem GrAt.setM {w:World}{G M:Nat}{A:Option Addr}{n cap R:Nat}{l:List Edg}{I:List Int}{E:List Bool}(h:GrAt w G M A n cap R l I E)(F:G≠M)(i:Nat)(v:Bool) :
  GrAt (w.setCell ⟨M,i,none⟩ (.bool v)) G M A n cap R l I (E.set i v):=
 ⟨h.sl.keep QJ (by omega) fun b D _=>⟨Below.heap_setCell _ _ _ _ D.2,D⟩,h.row.kept (Below.heap_setCell _ _ _ _ F),h.mt.set _ _,h.lh,by rw[List.length_set];exact h.lm⟩
theorem GrAt.setG {w:World}{G M:Nat}{A:Option Addr}{n cap R:Nat}{l:List Edg}{J:List Int}{E:List Bool}(h:GrAt w G M A n cap R l J E)(F:G≠M){i:Nat}(I:i<R)(v:Int) :
  GrAt (w.setCell ⟨G,i,none⟩ (.int .i64 v)) G M A n cap R l (J.set i v) E:=
 ⟨h.sl.keep QJ (by omega) fun b D _=>⟨Below.heap_setCell _ _ _ _ D.1,D⟩,h.row.set (by rw[h.lh];exact I) v,h.mt.other F _,by rw[List.length_set];exact h.lh,h.lm⟩
theorem Xnb (G M cG:Nat)(A:Option Addr)(n cap R left:Nat)(l:List Edg)(ae:G≠M)(ar:∀x∈l,0≤x.lft∧x.lft<left∧0≤x.rgt∧x.rgt<R) :
  ∀(z:Nat) (F:List Int) (I:List Bool) (d:Nat) (w:World),GrAt w G M A n cap R l F I→Xx I≤z→(∀r,r<R→F.getD r (-1)=-1∨∃d:Nat,F.getD r (-1)=d)→
  Calls prog 211 #[.slice A n cap,.slice (some ⟨G,0,none⟩) R cG,.slice (some ⟨M,0,none⟩) R R,.int .i64 (d:Int)] w fun e w'=>∃(b:Bool) (ai:List Int) (aj:List Bool),e=.returned (.bool b)∧GrAt w' G M A n cap R l ai aj∧Kept (fun k=>k=G∨k=M) w w'∧
   (b=true→Found (U1 l) F I ai aj d)∧(b=false→ai=F∧Failed (U1 l) F (U1 l d) I aj):=by
 intro z
 induction z using Nat.strongRecOn with
 | _ z ih=>
  intro F I d w Y hz au;have aF:=Y.sl.bd;have av:=yh Y;have aC:=yh Y.sl;have ay:=yh Y.sl.len;have IH:=yh ih;clear ih;have HZ:=yh hz;clear hz;have ak:=yh au;clear au;have ax:=yh ar;clear ar;clear Y;go_enter func211,ntmps211;go_wp2_with fail
  go_loopg [9] n (fun gk iv wr=>∃(k:Nat) (D:List Bool),k≤n∧n-k≤gk∧iv=.int .i64 k∧Failed (U1 l) F (U1 (l.take k) d) I D∧GrAt wr G M A n cap R l F D∧Kept (fun k=>k=G∨k=M) w wr)
  case atStart=>exact⟨0,I,M0 _,by omega,rfl,by rw[List.take_zero];exact Failed.nil _ _ _,av,Kept.refl _ _⟩
  case round=>
   obtain⟨k,D,hk,aG,rfl,hF,ao,hK⟩:=hrel;have J:=yh hF;have aL:=yh ao;have HK:=yh hK;clear hF ao hK;by_cases hlt:k<n
   ·obtain⟨b2,aI,x,c0,c1,rfl,hx,⟨hd,_,_⟩,e0,e1⟩:=aL.sl.at2 hlt;simp only[List.cons.injEq,and_true]at hd;obtain⟨rfl,rfl⟩:=hd;obtain⟨xl,xr⟩:=x;obtain⟨x0,x1,y0,y1⟩:=ax _ (J6 hx);simp only at x0 x1 y0 y1 e0 e1;obtain⟨c,rfl⟩:=Int.eq_ofNat_of_zero_le x0;obtain⟨r,rfl⟩:=Int.eq_ofNat_of_zero_le y0
    have V:r<R:=by omega
    have an:=yh (show U1 (l.take (k+1)) d=if (c:Int)=(d:Int)then U1 (l.take k) d++[r]else U1 (l.take k) d by rw[Qo hx,Vcb];rfl);have az:=yh (J6 hx);clear hx x0 x1 y0;by_cases hcd:(c:Int)=(d:Int)
    ·obtain rfl:c=d:=by omega
     have Q:=yh (an.trans (M3 rfl));have al:=yh (XQb (d:=c) (r:=r) az rfl rfl);have r0:=aL.mt.cell (i:=r) (by rw[aL.out.lm];exact V);have f0:=aL.mt.free r;obtain⟨v,hv⟩:=yE (D.getD r true);rw[←hv]at r0;have X:=yh hv;clear hv hcd;cases v
     ·-- he is new
      have Z:=yh (aL.setM ae r true);have af:=yh (HK.setCell (p:=⟨M,r,none⟩) (.inl (.inr rfl)) (.bool true));obtain⟨W2,ap⟩:=yE (wr.setCell ⟨M,r,none⟩ (.bool true));go_upto_region 7 with(fail);rw[←ap]at Z af ⊢;clear ap r0 f0 e0 e1;obtain⟨r0,f0⟩:=Z.out.row r (by rw[Z.out.lh];exact V);rcases ak r V with O|⟨q,O⟩
      ·rw[O]at r0;have E:=yh (J.free X.symm (by rw[aL.out.lm,aL.out.lh]) al O);have aa:=yh (Z.out.setG ae V (c:Int));have ab:=yh (af.out.setCell (p:=⟨G,r,none⟩) (.inl (.inl rfl)) (.int .i64 (c:Int)));clear O;go_wp2_with fail;go_ret
       first|exact⟨true,_,_,rfl,aa,ab,fun _=>E.out,fun h=>absurd h (by simp)⟩|exact .inr ⟨rfl,_,_,aa,ab,E⟩|exact .inl ⟨rfl,_,_,aa,ab,E⟩
      ·rw[O]at r0;have aB:=ZVa D r X.symm;have aA:Xx D≤Xx I:=QNa I D J.lenM J.mono;have aq:=IH (Xx (D.set r true)) (by have:=HZ.out;omega) F (D.set r true) q W2 Z.out (J5 _) ak;have HH:=yh O;have aw:=yh aq;clear aq;clear O aB aA;go_wp2_with fail;refine aw.mono ?_;rintro e w5 ⟨bb,aE,m2,rfl,U,ag,ah,ad⟩;have am:=yh (af.out.trans (ag.mono fun k _ h=>h));cases bb
       ·obtain⟨rfl,h6⟩:=ad rfl;have E:=yh (J.more X.symm HH h6);have W:=yh U;clear U ag ah ad h6;go_wp2_with fail;go_roundg (n-(k+1))
        case measure=>omega
        case rel=>exact⟨k+1,m2,by omega,by omega,by go_num,by rw[Q.out];exact E,W,am⟩
       ·have E:=yh (J.swap X.symm (by rw[aL.out.lm,aL.out.lh]) al HH (ah rfl));obtain⟨aJ,aD⟩:=U.row r (by rw[U.lh];exact V);have W:=yh (U.setG ae V (c:Int));have ac:=yh (am.setCell (p:=⟨G,r,none⟩) (.inl (.inl rfl)) (.int .i64 (c:Int)));clear U ag ah ad;go_wp2_with fail;go_ret
        first|exact⟨true,_,_,rfl,W,ac,fun _=>E.out,fun h=>absurd h (by simp)⟩|exact .inr ⟨rfl,_,_,W,ac,E⟩|exact .inl ⟨rfl,_,_,W,ac,E⟩
     ·have E:=yh (J.skip X.symm);go_wp2_with fail;go_roundg (n-(k+1))
      case measure=>omega
      case rel=>exact⟨k+1,D,by omega,by omega,by go_num,by rw[Q.out];exact E,aL,HK⟩
    ·have Q:=yh (an.trans (M2 hcd))
     have aH:((c:Int) !=(d:Int))=true:=by simpa using hcd
     clear hcd;go_wp2_with fail;go_roundg (n-(k+1))
     case measure=>omega
     case rel=>exact⟨k+1,D,by omega,by omega,by go_num,by rw[Q.out];exact J,aL,HK⟩
   ·obtain rfl:k=n:=by omega
    have Q:=yh (show l.take k=l from M1 (by rw[ay.out];omega));go_wp2_with fail;go_ret;refine⟨false,F,D,rfl,aL,HK,fun h=>absurd h (by simp),fun _=>⟨rfl,?_⟩⟩;have:=J.out
    rwa [Q.out]at this
theorem ZPc (W:World):(Instr.makeSlice 205 (.int .i64 0) (.int .i64 0)).run prog W=.ok (.slice (some ⟨W.heap.size,0,none⟩) 0 0) (W.alloc (.cells (Array.replicate 0 (Value.bool false)) 4)):=by kernel_rfl
theorem Uzc (W:World):(Instr.makeSlice 205 (.int .i64 1) (.int .i64 1)).run prog W=.ok (.slice (some ⟨W.heap.size,0,none⟩) 1 1) (W.alloc (.cells (Array.replicate 1 (Value.bool false)) 4)):=by kernel_rfl
theorem UAc (W:World):(Instr.makeSlice 205 (.int .i64 2) (.int .i64 2)).run prog W=.ok (.slice (some ⟨W.heap.size,0,none⟩) 2 2) (W.alloc (.cells (Array.replicate 2 (Value.bool false)) 4)):=by kernel_rfl
theorem UBc (W:World):(Instr.makeSlice 205 (.int .i64 3) (.int .i64 3)).run prog W=.ok (.slice (some ⟨W.heap.size,0,none⟩) 3 3) (W.alloc (.cells (Array.replicate 3 (Value.bool false)) 4)):=by kernel_rfl
theorem UCc (W:World):(Instr.makeSlice 205 (.int .i64 4) (.int .i64 4)).run prog W=.ok (.slice (some ⟨W.heap.size,0,none⟩) 4 4) (W.alloc (.cells (Array.replicate 4 (Value.bool false)) 4)):=by kernel_rfl
theorem UDc (W:World):(Instr.makeSlice 205 (.int .i64 5) (.int .i64 5)).run prog W=.ok (.slice (some ⟨W.heap.size,0,none⟩) 5 5) (W.alloc (.cells (Array.replicate 5 (Value.bool false)) 4)):=by kernel_rfl
theorem UEc (W:World):(Instr.makeSlice 205 (.int .i64 6) (.int .i64 6)).run prog W=.ok (.slice (some ⟨W.heap.size,0,none⟩) 6 6) (W.alloc (.cells (Array.replicate 6 (Value.bool false)) 4)):=by kernel_rfl
theorem UFc (W:World):(Instr.makeSlice 205 (.int .i64 7) (.int .i64 7)).run prog W=.ok (.slice (some ⟨W.heap.size,0,none⟩) 7 7) (W.alloc (.cells (Array.replicate 7 (Value.bool false)) 4)):=by kernel_rfl
theorem UGc (W:World):(Instr.makeSlice 205 (.int .i64 8) (.int .i64 8)).run prog W=.ok (.slice (some ⟨W.heap.size,0,none⟩) 8 8) (W.alloc (.cells (Array.replicate 8 (Value.bool false)) 4)):=by kernel_rfl
theorem UHc (W:World):(Instr.makeSlice 205 (.int .i64 9) (.int .i64 9)).run prog W=.ok (.slice (some ⟨W.heap.size,0,none⟩) 9 9) (W.alloc (.cells (Array.replicate 9 (Value.bool false)) 4)):=by kernel_rfl
theorem ZQc (W:World):(Instr.makeSlice 205 (.int .i64 10) (.int .i64 10)).run prog W=.ok (.slice (some ⟨W.heap.size,0,none⟩) 10 10) (W.alloc (.cells (Array.replicate 10 (Value.bool false)) 4)):=by kernel_rfl
theorem ZRc (W:World):(Instr.makeSlice 205 (.int .i64 11) (.int .i64 11)).run prog W=.ok (.slice (some ⟨W.heap.size,0,none⟩) 11 11) (W.alloc (.cells (Array.replicate 11 (Value.bool false)) 4)):=by kernel_rfl
theorem ZSc (W:World):(Instr.makeSlice 205 (.int .i64 12) (.int .i64 12)).run prog W=.ok (.slice (some ⟨W.heap.size,0,none⟩) 12 12) (W.alloc (.cells (Array.replicate 12 (Value.bool false)) 4)):=by kernel_rfl
theorem ZTc (W:World):(Instr.makeSlice 205 (.int .i64 13) (.int .i64 13)).run prog W=.ok (.slice (some ⟨W.heap.size,0,none⟩) 13 13) (W.alloc (.cells (Array.replicate 13 (Value.bool false)) 4)):=by kernel_rfl
theorem ZUc (W:World):(Instr.makeSlice 205 (.int .i64 14) (.int .i64 14)).run prog W=.ok (.slice (some ⟨W.heap.size,0,none⟩) 14 14) (W.alloc (.cells (Array.replicate 14 (Value.bool false)) 4)):=by kernel_rfl
theorem ZVc (W:World):(Instr.makeSlice 205 (.int .i64 15) (.int .i64 15)).run prog W=.ok (.slice (some ⟨W.heap.size,0,none⟩) 15 15) (W.alloc (.cells (Array.replicate 15 (Value.bool false)) 4)):=by kernel_rfl
theorem ZWc (W:World):(Instr.makeSlice 205 (.int .i64 16) (.int .i64 16)).run prog W=.ok (.slice (some ⟨W.heap.size,0,none⟩) 16 16) (W.alloc (.cells (Array.replicate 16 (Value.bool false)) 4)):=by kernel_rfl
theorem mkB (n:Nat)(A:n≤16)(W:World):(Instr.makeSlice 205 (.int .i64 n) (.int .i64 n)).run prog W=.ok (.slice (some ⟨W.heap.size,0,none⟩) n n) (W.alloc (.cells (Array.replicate n (Value.bool false)) 4)):=by
 have h:n=0∨n=1∨n=2∨n=3∨n=4∨n=5∨n=6∨n=7∨n=8∨n=9∨n=10∨n=11∨n=12∨n=13∨n=14∨n=15∨n=16:=by omega
 rcases h with rfl|rfl|rfl|rfl|rfl|rfl|rfl|rfl|rfl|rfl|rfl|rfl|rfl|rfl|rfl|rfl|rfl
 ·exact ZPc W
 ·exact Uzc W
 ·exact UAc W
 ·exact UBc W
 ·exact UCc W
 ·exact UDc W
 ·exact UEc W
 ·exact UFc W
 ·exact UGc W
 ·exact UHc W
 ·exact ZQc W
 ·exact ZRc W
 ·exact ZSc W
 ·exact ZTc W
 ·exact ZUc W
 ·exact ZVc W
 ·exact ZWc W
theorem Qbb {w:World}{g n:Nat}(h:Blk w g (Array.replicate n (Value.bool false)) 4):RowB w g (List.replicate n false):=by
 unfold RowB;rw[show((List.replicate n false).map Value.bool).toArray=Array.replicate n (Value.bool false)by simp];exact h
theorem Own.celI {w:World}{e:TypeId}{base g n cap:Nat}{m:List Int}{xs:List Value}(h:Own QO 1 e w base (.slice (some ⟨g,0,none⟩) n cap) m xs):CelI w g m:=fun i A=>by
 obtain⟨cs,D,I,E,F⟩:=h.cells (J1 A);obtain⟨rfl,_⟩:=D;refine⟨?_,F i⟩;have:=E 0 _ rfl;rw[Un A]
 simpa using this
def Uga (left right:Nat) (l:List Edg):Prop:=∀x∈l,0≤x.lft∧x.lft<left∧0≤x.rgt∧x.rgt<right
theorem Zaa {left right:Nat}{l:List Edg}(h:Uga left right l)(d r:Nat)(A:r∈U1 l d):d<left∧r<right:=by
 unfold U1 at A;obtain⟨x,D,rfl⟩:=List.mem_map.1 A;obtain⟨E,F⟩:=List.mem_filter.1 D;have:=of_decide_eq_true F;have:=h x E;omega
theorem Xob (A:Option Addr)(cap:Nat)(D I O:Value)(w:World) :
  Calls prog 211 #[.slice A 0 cap,D,I,O] w fun e w'=>e=.returned (.bool false)∧w'=w:=by
 go_enter func211,ntmps211;go_wp2_with fail
 go_loopg [9] 0 (fun _ F wr=>F=.int .i64 0∧w=wr)
 case atStart=>exact⟨rfl,rfl⟩
 case round=>
  obtain⟨rfl,E⟩:=hrel;subst E;go_wp2_with fail;go_ret;exact⟨rfl,rfl⟩
theorem VLb (left right:Nat)(A:Option Addr)(n cap:Nat)(l:List Edg)(w:World)(h:Sl Xn 2 w All A n cap l)(hl:left≤16)(J:right≤16)(hg:Uga left right l) :
  Calls prog 153 #[.int .i64 (left:Int),.int .i64 (right:Int),.slice A n cap] w fun e w'=>∃(F:List Int) (no:List Nat) (D:Nat→Prop),e=.returned (.int .i64 ((left:Int)-(no.length:Int)))∧
   Asked (U1 l) right (fun x=>x<left) F no D∧yw w w':=by
 have aE:=fun W=>mkB right J W;have ad:=yh h;have Y:=yh hg;clear hg;clear h;go_enter func153,ntmps153;go_upto_block 0 with(fail);go_cut [7,8] (fun v _ wx=>∃xs,Own QO 1 3 wx w.heap.size v (List.replicate right (-1)) xs∧yw w wx)
 case first=>as_aux_lemma=>
  go_wp2_with fail
  go_loopg [7,8] right (fun gk v i wr=>∃(k:Nat) (xs:List Value),k≤right∧right-k≤gk∧i=.int .i64 k∧Own QO 1 3 wr w.heap.size v (List.replicate k (-1)) xs∧yw w wr)
  case atStart=>exact⟨0,[],M0 _,by omega,rfl,Own.nil _ _ _ _ _,J4 _ _⟩
  case round=>
   obtain⟨k,xs,hk,aD,rfl,aJ,hb⟩:=hrel;by_cases hlt:k<right
   ·obtain⟨A5,n5,c5,rfl,_⟩:=aJ.sl Qd;have ag:=yh (aJ.bel (Qi wr (.cells #[.int .i64 (-1)] 3)));have hB:=hb.alloc hb.size (.cells #[.int .i64 (-1)] 3);have an:=hB.size;have U:=yh hB;clear aJ hb hB;go_wp2_with (at_builtin;refine QC (t:=70) (e:=3) (bytes:=8) rfl (.tmp 16) (.tmp 17) rfl Uv Qd rfl ag.out rfl (QLa _ All (-1) 3 (.of (by omega) (by omega)) trivial) (fun _ _ hc=>hc) (by rw[List.length_replicate];omega) (by omega) an ?_;intro v' w' aB am ak _;have au:=yh am;have ap:=yh (U.grown ak an (fun j hj=>(ag.out.lt j hj).1));clear am ak);go_roundg (right-(k+1))
    case measure=>omega
    case rel=>exact⟨k+1,aB,by omega,by omega,by go_num,by rw[List.replicate_succ'];exact au,ap⟩
   ·obtain rfl:k=right:=by omega
    go_wp2_with fail;go_meet;exact⟨xs,aJ,hb⟩
 obtain⟨xs,aJ,hb⟩:=hcut;obtain⟨W1,rfl⟩:=yE wc;by_cases hr0:right=0
 ·subst hr0
  obtain rfl:l=[]:=by
   cases l with
   | nil=>rfl
   | cons x l=>have:=Y x (by simp);omega
  obtain rfl:n=0:=ad.len.symm;have U:=yh hb;clear aJ hb;go_wp2_with fail
  go_loopg [9,10] left (fun gk c i wr=>∃j:Nat,j≤left∧j≤gk∧i=.int .i64 ((j:Int)-1)∧c=.int .i64 0∧yw w wr)
  case atStart=>exact⟨left,J5 _,J5 _,rfl,rfl,U⟩
  case round=>
   obtain⟨j,hj,az,rfl,rfl,I⟩:=hrel;have V:=yh I;have aq:=yh (fun o=>I.alloc I.size o);have aF:=fun W=>ZPc W;clear I;rcases j with _|j
   ·go_wp2_with fail;go_ret;refine⟨[],List.range left,fun x=>x<left,ZN (by rw[List.length_range];omega),⟨rfl,fun r J=>by omega,fun x O hn=>absurd (List.mem_range.2 O) hn,fun x _=>rfl,List.nodup_range,fun x O=>List.mem_range.1 O,fun x O=>List.mem_range.1 O,fun x O=>O,fun d _ r J=>by simp[U1]at J⟩,V⟩
   ·have e:((j+1:Nat):Int)-1=(j:Int):=by omega
    rw[e];clear e;go_wp2_with fail;refine(Xob _ _ _ _ _ _).mono ?_;rintro e w5 ⟨rfl,rfl⟩;go_wp2_with fail;go_roundg j
    case measure=>omega
    case rel=>exact⟨j,by omega,by omega,by go_num,rfl,aq _⟩
 obtain⟨G,cG,rfl,aC,av⟩:=aJ.form (by rw[List.length_replicate];omega);rw[List.length_replicate]at aJ ⊢;have X:=yh aJ.celI;have U:=yh hb;clear aJ;go_wp2_with fail
 go_loopg [9,10] left (fun gk c i wr=>∃(j:Nat) (F:List Int) (no:List Nat) (D:Nat→Prop),j≤left∧j≤gk∧i=.int .i64 ((j:Int)-1)∧c=.int .i64 (((left:Int)-j)-no.length)∧no.length≤left-j∧
  CelI wr G F∧Asked (U1 l) right (fun x=>j≤x∧x<left) F no D∧G<wr.heap.size∧yw w wr)
 case atStart=>exact⟨left,List.replicate right (-1),[],fun _=>False,J5 _,J5 _,rfl,by simp,by simp,X,Asked.start _ _ _ (fun x O=>by omega),av,U⟩
 case round=>
  obtain⟨j,F,no,D,hj,az,rfl,rfl,aG,aj,ae,ax,I⟩:=hrel;have X:=yh aj;have Q:=yh ae;have V:=yh I;have aA:=I.size;clear aj ae I;rcases j with _|j
  ·have ao:=yh (show Asked (U1 l) right (fun x=>x<left) F no D from by
    have:=Q.out
    rwa [show(fun x=>0≤x∧x<left)=(fun x=>x<left)by funext x;simp]at this)
   go_wp2_with fail;go_ret;exact⟨F,no,D,ZN (by omega),ao,V⟩
  ·have e:((j+1:Nat):Int)-1=(j:Int):=by omega
   rw[e];clear e;have ay:=Qi wr (.cells (Array.replicate right (Value.bool false)) 4)
   have aw:=yh (show GrAt (wr.alloc (.cells (Array.replicate right (Value.bool false)) 4)) G wr.heap.size A n cap right l F (List.replicate right false)from
    ⟨ad.keep QJ (by omega) (fun b _ hb=>⟨(Below.heap_alloc _ _ _ (by omega)).trans (V.block b hb),by omega,by omega⟩),X.kept (Below.heap_alloc _ _ _ ax),Qbb (Zk _ _),Q.len,by simp⟩)
   have ai:=Xnb G wr.heap.size cG A n cap right left l (by omega) Y _ F (List.replicate right false) j _ aw.out (J5 _) (fun r J=>(Q.edge r J).imp id (fun⟨d,e,_⟩=>⟨d,e⟩));have ar:=yh ai;clear ai;go_wp2_with fail;refine ar.mono ?_;rintro e w5 ⟨b,ah,aH,rfl,Z,aK,hT,hF⟩;have ab:=yh ((V.trans (ay.mono aA)).trans (aK.below (B:=w.heap.size) (by simp;omega) (fun k hk=>by omega)))
   have af:G<w5.heap.size:=by have:=aK.size;simp at this;omega
   have ac:=yh Z.row;have aa:=yh (show ∀P:Nat→Prop,(∀x,P x↔(j≤x∧x<left))→(fun x=>(j+1≤x∧x<left)∨x=j)=P from fun P hP=>by funext x;exact propext (by rw[hP];omega))
   have al:¬(j+1≤j∧j<left):=by omega
   cases b
   ·obtain⟨rfl,h6⟩:=hF rfl;have E:=Q.nobody (fun d r J=>(Zaa Y d r J).2) al h6;rw[aa.out (fun x=>j≤x∧x<left) (fun _=>Iff.rfl)]at E;have E:=yh E;clear Z aK hT hF h6;go_wp2_with fail;go_roundg j
    case measure=>omega
    case rel=>exact⟨j,ah,no++[j],_,by omega,by omega,by go_num,by rw[J9,List.length_singleton];congr 1;omega,by rw[J9,List.length_singleton];omega,ac,E,af,ab⟩
   ·have E:=Q.ok al (hT rfl);rw[aa.out (fun x=>j≤x∧x<left) (fun _=>Iff.rfl)]at E;have E:=yh E;clear Z aK hT hF;go_wp2_with fail;go_roundg j
    case measure=>omega
    case rel=>exact⟨j,ah,no,D,by omega,by omega,by go_num,by go_num,by omega,ac,E,af,ab⟩
structure Best (left right:Nat) (l ml:List Edg):Prop where
 sub:∀x∈ml,x∈l
 up:ml.Pairwise (fun x y=>x.lft<y.lft)
 apart:ml.Pairwise (fun x y=>x.rgt≠y.rgt)
 most:∀M:List (Nat×Nat),IsM (U1 l) M→M.length≤ml.length
 le:ml.length≤left
theorem Ubc (w:World):Calls prog 267 #[.int .u64 1,.int .u64 0] w fun e w'=>e=.returned (.tuple #[.int .u64 0,.int .u64 0])∧w'=w:=by
 go_enter func267,ntmps267;go_wp2_with fail;go_ret2;exact⟨rfl,rfl⟩
theorem UIc (W:World):(Instr.makeSlice 70 (.int .i64 0) (.int .i64 0)).run prog W=.ok (.slice (some ⟨W.heap.size,0,none⟩) 0 0) (W.alloc (.cells (Array.replicate 0 (Value.int .i64 0)) 3)):=by kernel_rfl
theorem Ucc (w:World):Calls prog 267 #[.int .u64 1,.int .u64 1] w fun e w'=>e=.returned (.tuple #[.int .u64 0,.int .u64 1])∧w'=w:=by
 go_enter func267,ntmps267;go_wp2_with fail;go_ret2;exact⟨rfl,rfl⟩
theorem UJc (W:World):(Instr.makeSlice 70 (.int .i64 1) (.int .i64 1)).run prog W=.ok (.slice (some ⟨W.heap.size,0,none⟩) 1 1) (W.alloc (.cells (Array.replicate 1 (Value.int .i64 0)) 3)):=by kernel_rfl
theorem Udc (w:World):Calls prog 267 #[.int .u64 1,.int .u64 2] w fun e w'=>e=.returned (.tuple #[.int .u64 0,.int .u64 2])∧w'=w:=by
 go_enter func267,ntmps267;go_wp2_with fail;go_ret2;exact⟨rfl,rfl⟩
theorem UKc (W:World):(Instr.makeSlice 70 (.int .i64 2) (.int .i64 2)).run prog W=.ok (.slice (some ⟨W.heap.size,0,none⟩) 2 2) (W.alloc (.cells (Array.replicate 2 (Value.int .i64 0)) 3)):=by kernel_rfl
theorem Uec (w:World):Calls prog 267 #[.int .u64 1,.int .u64 3] w fun e w'=>e=.returned (.tuple #[.int .u64 0,.int .u64 3])∧w'=w:=by
 go_enter func267,ntmps267;go_wp2_with fail;go_ret2;exact⟨rfl,rfl⟩
theorem ULc (W:World):(Instr.makeSlice 70 (.int .i64 3) (.int .i64 3)).run prog W=.ok (.slice (some ⟨W.heap.size,0,none⟩) 3 3) (W.alloc (.cells (Array.replicate 3 (Value.int .i64 0)) 3)):=by kernel_rfl
theorem Ufc (w:World):Calls prog 267 #[.int .u64 1,.int .u64 4] w fun e w'=>e=.returned (.tuple #[.int .u64 0,.int .u64 4])∧w'=w:=by
 go_enter func267,ntmps267;go_wp2_with fail;go_ret2;exact⟨rfl,rfl⟩
theorem UMc (W:World):(Instr.makeSlice 70 (.int .i64 4) (.int .i64 4)).run prog W=.ok (.slice (some ⟨W.heap.size,0,none⟩) 4 4) (W.alloc (.cells (Array.replicate 4 (Value.int .i64 0)) 3)):=by kernel_rfl
theorem Ugc (w:World):Calls prog 267 #[.int .u64 1,.int .u64 5] w fun e w'=>e=.returned (.tuple #[.int .u64 0,.int .u64 5])∧w'=w:=by
 go_enter func267,ntmps267;go_wp2_with fail;go_ret2;exact⟨rfl,rfl⟩
theorem UNc (W:World):(Instr.makeSlice 70 (.int .i64 5) (.int .i64 5)).run prog W=.ok (.slice (some ⟨W.heap.size,0,none⟩) 5 5) (W.alloc (.cells (Array.replicate 5 (Value.int .i64 0)) 3)):=by kernel_rfl
theorem Uhc (w:World):Calls prog 267 #[.int .u64 1,.int .u64 6] w fun e w'=>e=.returned (.tuple #[.int .u64 0,.int .u64 6])∧w'=w:=by
 go_enter func267,ntmps267;go_wp2_with fail;go_ret2;exact⟨rfl,rfl⟩
theorem UOc (W:World):(Instr.makeSlice 70 (.int .i64 6) (.int .i64 6)).run prog W=.ok (.slice (some ⟨W.heap.size,0,none⟩) 6 6) (W.alloc (.cells (Array.replicate 6 (Value.int .i64 0)) 3)):=by kernel_rfl
theorem Uic (w:World):Calls prog 267 #[.int .u64 1,.int .u64 7] w fun e w'=>e=.returned (.tuple #[.int .u64 0,.int .u64 7])∧w'=w:=by
 go_enter func267,ntmps267;go_wp2_with fail;go_ret2;exact⟨rfl,rfl⟩
theorem UPc (W:World):(Instr.makeSlice 70 (.int .i64 7) (.int .i64 7)).run prog W=.ok (.slice (some ⟨W.heap.size,0,none⟩) 7 7) (W.alloc (.cells (Array.replicate 7 (Value.int .i64 0)) 3)):=by kernel_rfl
theorem Ujc (w:World):Calls prog 267 #[.int .u64 1,.int .u64 8] w fun e w'=>e=.returned (.tuple #[.int .u64 0,.int .u64 8])∧w'=w:=by
 go_enter func267,ntmps267;go_wp2_with fail;go_ret2;exact⟨rfl,rfl⟩
theorem UQc (W:World):(Instr.makeSlice 70 (.int .i64 8) (.int .i64 8)).run prog W=.ok (.slice (some ⟨W.heap.size,0,none⟩) 8 8) (W.alloc (.cells (Array.replicate 8 (Value.int .i64 0)) 3)):=by kernel_rfl
theorem Ukc (w:World):Calls prog 267 #[.int .u64 1,.int .u64 9] w fun e w'=>e=.returned (.tuple #[.int .u64 0,.int .u64 9])∧w'=w:=by
 go_enter func267,ntmps267;go_wp2_with fail;go_ret2;exact⟨rfl,rfl⟩
theorem URc (W:World):(Instr.makeSlice 70 (.int .i64 9) (.int .i64 9)).run prog W=.ok (.slice (some ⟨W.heap.size,0,none⟩) 9 9) (W.alloc (.cells (Array.replicate 9 (Value.int .i64 0)) 3)):=by kernel_rfl
theorem Zgc (w:World):Calls prog 267 #[.int .u64 1,.int .u64 10] w fun e w'=>e=.returned (.tuple #[.int .u64 0,.int .u64 10])∧w'=w:=by
 go_enter func267,ntmps267;go_wp2_with fail;go_ret2;exact⟨rfl,rfl⟩
theorem ZXc (W:World):(Instr.makeSlice 70 (.int .i64 10) (.int .i64 10)).run prog W=.ok (.slice (some ⟨W.heap.size,0,none⟩) 10 10) (W.alloc (.cells (Array.replicate 10 (Value.int .i64 0)) 3)):=by kernel_rfl
theorem Zhc (w:World):Calls prog 267 #[.int .u64 1,.int .u64 11] w fun e w'=>e=.returned (.tuple #[.int .u64 0,.int .u64 11])∧w'=w:=by
 go_enter func267,ntmps267;go_wp2_with fail;go_ret2;exact⟨rfl,rfl⟩
theorem ZYc (W:World):(Instr.makeSlice 70 (.int .i64 11) (.int .i64 11)).run prog W=.ok (.slice (some ⟨W.heap.size,0,none⟩) 11 11) (W.alloc (.cells (Array.replicate 11 (Value.int .i64 0)) 3)):=by kernel_rfl
theorem Zic (w:World):Calls prog 267 #[.int .u64 1,.int .u64 12] w fun e w'=>e=.returned (.tuple #[.int .u64 0,.int .u64 12])∧w'=w:=by
 go_enter func267,ntmps267;go_wp2_with fail;go_ret2;exact⟨rfl,rfl⟩
theorem ZZc (W:World):(Instr.makeSlice 70 (.int .i64 12) (.int .i64 12)).run prog W=.ok (.slice (some ⟨W.heap.size,0,none⟩) 12 12) (W.alloc (.cells (Array.replicate 12 (Value.int .i64 0)) 3)):=by kernel_rfl
theorem Zjc (w:World):Calls prog 267 #[.int .u64 1,.int .u64 13] w fun e w'=>e=.returned (.tuple #[.int .u64 0,.int .u64 13])∧w'=w:=by
 go_enter func267,ntmps267;go_wp2_with fail;go_ret2;exact⟨rfl,rfl⟩
theorem Z0c (W:World):(Instr.makeSlice 70 (.int .i64 13) (.int .i64 13)).run prog W=.ok (.slice (some ⟨W.heap.size,0,none⟩) 13 13) (W.alloc (.cells (Array.replicate 13 (Value.int .i64 0)) 3)):=by kernel_rfl
theorem Zkc (w:World):Calls prog 267 #[.int .u64 1,.int .u64 14] w fun e w'=>e=.returned (.tuple #[.int .u64 0,.int .u64 14])∧w'=w:=by
 go_enter func267,ntmps267;go_wp2_with fail;go_ret2;exact⟨rfl,rfl⟩
theorem Z1c (W:World):(Instr.makeSlice 70 (.int .i64 14) (.int .i64 14)).run prog W=.ok (.slice (some ⟨W.heap.size,0,none⟩) 14 14) (W.alloc (.cells (Array.replicate 14 (Value.int .i64 0)) 3)):=by kernel_rfl
theorem Zlc (w:World):Calls prog 267 #[.int .u64 1,.int .u64 15] w fun e w'=>e=.returned (.tuple #[.int .u64 0,.int .u64 15])∧w'=w:=by
 go_enter func267,ntmps267;go_wp2_with fail;go_ret2;exact⟨rfl,rfl⟩
theorem Z2c (W:World):(Instr.makeSlice 70 (.int .i64 15) (.int .i64 15)).run prog W=.ok (.slice (some ⟨W.heap.size,0,none⟩) 15 15) (W.alloc (.cells (Array.replicate 15 (Value.int .i64 0)) 3)):=by kernel_rfl
theorem Zmc (w:World):Calls prog 267 #[.int .u64 1,.int .u64 16] w fun e w'=>e=.returned (.tuple #[.int .u64 0,.int .u64 16])∧w'=w:=by
 go_enter func267,ntmps267;go_wp2_with fail;go_ret2;exact⟨rfl,rfl⟩
theorem Z3c (W:World):(Instr.makeSlice 70 (.int .i64 16) (.int .i64 16)).run prog W=.ok (.slice (some ⟨W.heap.size,0,none⟩) 16 16) (W.alloc (.cells (Array.replicate 16 (Value.int .i64 0)) 3)):=by kernel_rfl
theorem U3c (n:Nat)(A:n≤16)(w:World):Calls prog 267 #[.int .u64 1,.int .u64 (n:Int)] w fun e w'=>e=.returned (.tuple #[.int .u64 0,.int .u64 (n:Int)])∧w'=w:=by
 have h:n=0∨n=1∨n=2∨n=3∨n=4∨n=5∨n=6∨n=7∨n=8∨n=9∨n=10∨n=11∨n=12∨n=13∨n=14∨n=15∨n=16:=by omega
 rcases h with rfl|rfl|rfl|rfl|rfl|rfl|rfl|rfl|rfl|rfl|rfl|rfl|rfl|rfl|rfl|rfl|rfl
 ·exact Ubc w
 ·exact Ucc w
 ·exact Udc w
 ·exact Uec w
 ·exact Ufc w
 ·exact Ugc w
 ·exact Uhc w
 ·exact Uic w
 ·exact Ujc w
 ·exact Ukc w
 ·exact Zgc w
 ·exact Zhc w
 ·exact Zic w
 ·exact Zjc w
 ·exact Zkc w
 ·exact Zlc w
 ·exact Zmc w
theorem mkI (n:Nat)(A:n≤16)(W:World):(Instr.makeSlice 70 (.int .i64 n) (.int .i64 n)).run prog W=.ok (.slice (some ⟨W.heap.size,0,none⟩) n n) (W.alloc (.cells (Array.replicate n (Value.int .i64 0)) 3)):=by
 have h:n=0∨n=1∨n=2∨n=3∨n=4∨n=5∨n=6∨n=7∨n=8∨n=9∨n=10∨n=11∨n=12∨n=13∨n=14∨n=15∨n=16:=by omega
 rcases h with rfl|rfl|rfl|rfl|rfl|rfl|rfl|rfl|rfl|rfl|rfl|rfl|rfl|rfl|rfl|rfl|rfl
 ·exact UIc W
 ·exact UJc W
 ·exact UKc W
 ·exact ULc W
 ·exact UMc W
 ·exact UNc W
 ·exact UOc W
 ·exact UPc W
 ·exact UQc W
 ·exact URc W
 ·exact ZXc W
 ·exact ZYc W
 ·exact ZZc W
 ·exact Z0c W
 ·exact Z1c W
 ·exact Z2c W
 ·exact Z3c W
theorem U2c (n:Nat)(A:n≤16)(w:World):Calls prog 259 #[.int .u64 1,.int .u64 (n:Int)] w fun e w'=>e=.returned (.tuple #[.int .u64 0,.int .u64 (n:Int)])∧w'=w:=by
 go_enter func259,ntmps259;go_wp2_with fail;refine yN (U3c n A _) ?_;go_wp2_with fail;go_ret2;exact⟨rfl,rfl⟩
def VY (N k:Nat):List Value:=List.replicate k (Value.int .i64 (-1))++List.replicate (N-k) (.int .i64 0)
theorem Y6a {N k:Nat}(h:k≤N):(VY N k).length=N:=by unfold VY;rw[J9,List.length_replicate,List.length_replicate];omega
theorem Uba {N k c:Nat} : splice (VY N k) k (List.replicate c (Value.int .i64 (-1)))=VY N (k+c):=by
 unfold splice VY;rw[List.take_left' (by simp),List.length_replicate,←List.drop_drop,List.drop_left' (by simp),List.drop_replicate,←List.append_assoc,List.replicate_append_replicate]
 congr 2
 omega
theorem X8a (N G:Nat)(w:World)(hN:N≤16)(hB:Blk w G #[.int .i64 (-1)] 3):Calls prog 244 #[.slice (some ⟨G,0,none⟩) 1 1,.int .i64 (N:Int)] w fun e w'=>
  ∃q,e=.returned (.slice (some ⟨q,0,none⟩) N N)∧RowI w' q (List.replicate N (-1)) 3∧w.heap.size≤q∧q<w'.heap.size∧yw w w':=by
 have aB:=fun W=>mkI N hN W;have au:=fun W=>U2c N hN W;go_enter func244,ntmps244;go_wp2_with fail;refine(au _).mono ?_;rintro e w1 ⟨rfl,rfl⟩;go_upto_region 6 with(fail);go_cut [7] (fun p wx=>∃q,p=.slice (some ⟨q,0,none⟩) N N∧Blk wx q (VY N 0).toArray 3∧w1.heap.size≤q∧q<wx.heap.size∧yw w1 wx)
 case first=>as_aux_lemma=>
  go_wp2_with fail;go_meet;exact⟨_,rfl,by rw[show(VY N 0).toArray=Array.replicate N (Value.int .i64 0)by simp[VY]];exact Zk _ _,J5 _,by simp,Qi _ _⟩
 obtain⟨q,rfl,D,U,av,E⟩:=hcut;have hu:Tryz.prog.underlying 70=some (.slice 3):=underlying70
 have Z:(Tryz.prog.info? 3).map (·.size)=some 1:=by kernel_rfl
 by_cases h0:N=0
 ·subst h0;have Q:=run_copy_none (P:=prog) wc 70 70 3 3 (some ⟨q,0,none⟩) (some ⟨G,0,none⟩) 0 0 1 1 hu Z rfl;have HQ:=yh D;have V:=yh E;clear D E;go_wp2_with fail
  go_loopg [8] 0 (fun _ iv wr=>iv=.int .i64 0∧wc=wr)
  case atStart=>exact⟨rfl,rfl⟩
  case round=>
   obtain⟨rfl,hw⟩:=hrel;subst hw;go_wp2_with fail;go_ret;exact⟨q,rfl,HQ,U,av,V⟩
 ·have ao:=hB.lt;have aa:=(Blk.cell (hB.bel E) (j:=0) (v:=.int .i64 (-1)) rfl)
  have Q:=run_copy_row (P:=prog) wc 70 70 3 3 q 0 N N ⟨G,0,none⟩ 1 1 (VY N 0).toArray 3 [.int .i64 (-1)] hu Z D (by show 1=Nat.min 1 N;exact(Nat.min_eq_left (by omega)).symm) (fun j v A=>by
   rcases j with _|j
   ·simp at A;subst A;exact aa
   ·simp at A) (by rw[List.size_toArray,Y6a (M0 _)];simp;omega) (fun v A=>by simp at A;subst A;rfl)
  obtain⟨J,O⟩:=yE (wc.setRow q ((VY N 0).toArray.toList.take 0++[Value.int .i64 (-1)]++(VY N 0).toArray.toList.drop (0 + [Value.int .i64 (-1)].length)).toArray);rw[←O]at Q
  have Y:Blk J q (VY N 1).toArray 3:=by
   rw[O,show(VY N 1)=(VY N 0).toArray.toList.take 0++[Value.int .i64 (-1)]++(VY N 0).toArray.toList.drop (0 + [Value.int .i64 (-1)].length)by rw[←(Uba (N:=N) (k:=0) (c:=1))];unfold splice;rw[←List.append_assoc];rfl];exact setRow_heap wc q _ _ _ _ D
  have ab:yw w1 J:=by rw[O];exact M5 E U _
  have aC:q<J.heap.size:=Y.lt;have HQ:=yh Y;have V:=yh ab;have ay:(Builtin.copy_ #[70,70] 3 #[.slice (some ⟨q,0,none⟩) N N,.slice (some ⟨G,0,none⟩) 1 1]).run prog wc=.ok (.int .i64 1) J:=Q;clear D E Q Y ab O aa ao;go_wp2_with fail
  go_loopg [8] N (fun gk i wr=>∃k:Nat,1≤k∧k≤N∧N-k≤gk∧i=.int .i64 k∧Blk wr q (VY N k).toArray 3∧yw w1 wr)
  case atStart=>exact⟨1,J5 _,by omega,by omega,rfl,HQ,V⟩
  case round=>
   obtain⟨k,aA,hk,az,rfl,D,E⟩:=hrel;by_cases hlt:k<N
   ·obtain⟨c,X⟩:=yE (Nat.min k (N-k))
    have ac:k+c≤N∧1≤c∧c≤k:=by rw[X];simp only[Nat.min_def];split<;>omega
    have F:(List.replicate c (Value.int .i64 (-1))).length=c:=List.length_replicate ..;obtain⟨cs,I⟩:=yE (List.replicate c (Value.int .i64 (-1)));rw[←I]at F;have ag:=yh (show cs.length=Nat.min k (N-k)by rw[F,X]);have al:=yh (show splice (VY N k) k cs=VY N (k+c)by rw[I];exact Uba);have ai:=yh (show ∀v∈cs,v.oneCell'=true by rw[I];intro v A;rw[List.eq_of_mem_replicate A];rfl)
    have am:=yh (show ∀(j:Nat) (v:Value),cs[j]? = some v→wr.drew.cell? ((⟨q,0,none⟩:Addr).add j)=some v from fun j v A=>by
     rw[I,List.getElem?_replicate]at A
     have ar:j<c:=by
      by_cases h:j<c
      ·exact h
      ·rw[M2 h]at A;cases A
     rw[M3 ar]at A;injection A with A;subst A;have:=Blk.cell D (j:=j) (v:=.int .i64 (-1)) (by rw[List.getElem?_toArray];unfold VY;rw[List.getElem?_append_left (by rw[List.length_replicate];omega),List.getElem?_replicate,M3 (by omega)])
     have ha:(⟨q,0,none⟩:Addr).add j=⟨q,j,none⟩:=by
      unfold Addr.add;split
      ·next h0=>rw[h0]
      ·simp
     rw[ha];exact this)
    have ah:=yh (show k+cs.length≤(VY N k).length by rw[Y6a hk,F];exact ac.1);have aj:=yh (show wr.drew.heap[q]? = some (.cells (VY N k).toArray 3 (0,0))from D);have ad:=yh E.drew;have af:=yh F;have k0:(0:Int)≤(k:Int):=Int.natCast_nonneg _
    have k1:(k:Int)≤(N:Int):=by omega
    have ax:¬N=k:=by omega
    clear D E X I F;go_wp2_with fail;go_region_law (refine step_copy_splice rfl (.tmp 41) (.tmp 44) 70 70 rfl 3 hu Z (some ⟨q,k,none⟩) (some ⟨q,0,none⟩) (N-k) (N-k) k N (by simp[Act.eval,Act.put]) (by simp[Act.eval,Act.put]) q k (VY N k) 3 aj cs ag (fun _=>⟨rfl,_,rfl,am⟩) ah ai w1.heap.size w1 ad U ?_;intro w2 an ap)
    all_goals
     have aq:=af.out
     have hw:IntKind.i64.wrap ((k:Int)+(cs.length:Int))=((k+c:Nat):Int):=by rw[aq,IntKind.wrap_i64];omega
     rw[hw];go_wp2_with fail;go_roundg (N-(k+1))
     case measure=>omega
     refine⟨k+c,by omega,ac.1,by omega,rfl,?_,ap⟩;rw[←al.out];exact an.out
   ·obtain rfl:k=N:=by omega
    have ak:=yh (show RowI wr q (List.replicate k (-1)) 3 by
     unfold RowI;rw[show((List.replicate k (-1:Int)).map (Value.int .i64))=VY k k by simp[VY]]
     exact D)
    have aw:=D.lt;have ae:=yh E;clear D E;go_wp2_with fail;go_ret;exact⟨q,rfl,ak,U,aw,ae⟩
theorem Upa {W X:World}{p j:Nat}{v:Value}(D:yw W X)(A:W.cell? ⟨p,j,none⟩=some v):X.cell? ⟨p,j,none⟩=some v:=(World.cell?_of_block (a:=⟨p,j,none⟩) (D.block _ (ZT A))).trans A
structure TabI (w:World) (base O:Nat) (vs:List Value) (rows:List (List Int)):Prop where
 ll:rows.length=vs.length
 outer:Blk w O vs.toArray 70
 lo:O<base
 row:∀(a:Nat) (v:Value),vs[a]? = some v→∃xs,Own QO 1 3 w base v (rows.getD a []) xs
 dis:∀(a b:Nat) (v u:Value) (g:Nat),vs[a]? = some v→vs[b]? = some u→v.ownBlock=some g→u.ownBlock=some g→a=b
theorem TabI.bel {w w':World}{base O:Nat}{E:List Value}{D:List (List Int)}(h:TabI w base O E D)(A:yw w w'):TabI w' base O E D:=
 ⟨h.ll,h.outer.bel A,h.lo,fun a v I=>by obtain⟨xs,F⟩:=h.row a v I;exact⟨xs,F.bel A⟩,h.dis⟩
theorem TabI.new {w:World}{base O n:Nat}(D:Blk w O (Array.replicate n (Value.slice none 0 0)) 70)(F:O<base):TabI w base O (List.replicate n (.slice none 0 0)) (List.replicate n []):=by
 have A:∀(a:Nat) (v:Value),(List.replicate n (Value.slice none 0 0))[a]? = some v→v=.slice none 0 0:=fun a v h=>by
  rw[List.getElem?_replicate]at h
  split at h
  ·injection h with h;exact h.symm
  ·cases h
 refine⟨by simp,by rw[List.toArray_replicate];exact D,F,fun a v h=>?_,fun a b v u g h _ E _=>?_⟩
 ·obtain rfl:=A a v h
  have:(List.replicate n ([]:List Int)).getD a []=[]:=by
   rw[J7,List.getElem?_replicate];split<;>rfl
  rw[this];exact⟨[],Own.nil _ _ _ _ _⟩
 ·obtain rfl:=A a v h;cases E
theorem TabI.put {w w':World}{base O:Nat}{E:List Value}{U:List (List Int)}(h:TabI w base O E U){l:Nat}{v v':Value}{r':List Int}{xs:List Value}(Q:E[l]? = some v)
  (ho:Own QO 1 3 w' base v' r' xs) (hg:w.grownBy w' v.ownBlock) (ae:v'.ownBlock=v.ownBlock∨v'.ownBlock=some w.heap.size) :
  TabI (w'.setCell ⟨O,l,none⟩ v') base O (E.set l v') (U.set l r'):=by
 have hl:l<E.length:=(J0.1 Q).1;have ah:=h.lo
 have ad:some O≠v.ownBlock:=fun e=>by
  obtain⟨J,F⟩:=h.row l v Q;have:=(F.lt O e.symm).1;omega
 have ai:∀(a:Nat) (u:Value) (g:Nat),E[a]? = some u→u.ownBlock=some g→g<w.heap.size:=fun a u g A aj=>by
  obtain⟨J,F⟩:=h.row a u A;exact(F.lt g aj).2
 refine⟨by rw[List.length_set,List.length_set];exact h.ll,?_,ah,fun a u A=>?_,fun a b u1 u2 g D I V W=>?_⟩
 ·have:=Blk.set (j:=l) (show Blk w' O E.toArray 70 from(hg.block O h.outer.lt ad).trans h.outer) v';rw[show(E.set l v').toArray=E.toArray.set! l v' by simp];exact this
 ·by_cases hal:l=a
  ·subst hal;rw[List.getElem?_set_self hl]at A;injection A with A;subst A;refine⟨xs,?_⟩;rw[J7,List.getElem?_set_self (by rw[h.ll];exact hl)];exact ho.keep Qd fun b Y _=>Below.heap_setCell _ _ _ _ (by show b≠O;omega)
  ·rw[List.getElem?_set_ne hal]at A;obtain⟨J,F⟩:=h.row a u A;refine⟨J,?_⟩;rw[J7,List.getElem?_set_ne hal,←J7]
   have D:Own QO 1 3 w' base u (U.getD a []) J:=by
    rcases F.row.2 with⟨rfl,hn⟩|⟨g,cap,ac,rfl,Y,aa,r⟩
    ·have:U.getD a []=[]:=List.eq_nil_of_length_eq_zero hn;have Z:J=[]:=List.eq_nil_of_length_eq_zero (by rw[F.row.1,hn]);rw[this,Z];exact Own.nil _ _ _ _ _
    ·have af:some g≠v.ownBlock:=fun e=>hal (h.dis l a v _ g Q A e.symm rfl)
     exact⟨⟨F.row.1,.inr ⟨g,cap,ac,rfl,Y,(hg.block g (Array.getElem?_eq_some_iff.1 aa).1 af).trans aa,r⟩⟩,fun i x Z=>by
      obtain⟨cs,hc,r2⟩:=F.el i x Z
      exact⟨cs,ZB _ _ _ _ _ _ hc,r2⟩⟩
   exact D.keep Qd fun b Y _=>Below.heap_setCell _ _ _ _ (by show b≠O;omega)
 ·have ab:∀(c:Nat) (u:Value),l≠c→E[c]? = some u→∀q,u.ownBlock=some q→v'.ownBlock≠some q:=fun c u ag A q hq e=>by
   rcases ae with X|X
   ·exact ag (h.dis l c v u q Q A (by rw[←X];exact e) hq)
   ·rw[X]at e;injection e with e;have:=ai c u q A hq;omega
  by_cases hla:l=a<;>by_cases hlb:l=b
  ·rw[←hla,←hlb]
  ·subst hla;rw[List.getElem?_set_self hl]at D;injection D with D;subst D;rw[List.getElem?_set_ne hlb]at I;exact absurd V (ab b u2 hlb I g W)
  ·subst hlb;rw[List.getElem?_set_self hl]at I;injection I with I;subst I;rw[List.getElem?_set_ne hla]at D;exact absurd W (ab a u1 hla D g V)
  ·rw[List.getElem?_set_ne hla]at D;rw[List.getElem?_set_ne hlb]at I;exact h.dis a b u1 u2 g D I V W
theorem TabI.sl {w:World}{base O:Nat}{vs:List Value}{E:List (List Int)}(h:TabI w base O vs E)(Z:vs.length≤1000000){S:Nat→Prop}(hO:S O)(Q:∀b,base≤b→b<w.heap.size→S b) :
  Sl (slC QO 1) 1 w S (some ⟨O,0,none⟩) vs.length vs.length E:=by
 refine⟨h.ll,J5 _,by unfold maxLen;omega,fun i x J=>?_⟩
 have F:i<vs.length:=by rw[←h.ll];exact(J0.1 J).1
 obtain⟨xs,X⟩:=h.row i _ (J1 F);obtain⟨A,n,cap,V,I⟩:=X.sl Qd
 have Y:E.getD i []=x:=by rw[J7,J];rfl
 rw[Y]at I;refine⟨O,0,[vs[i]],rfl,hO,⟨A,n,cap,by rw[V],I.keep Qd (by omega) fun b U W=>⟨rfl,Q b U W⟩⟩,rfl,fun j u D=>?_⟩;rcases j with _|j
 ·simp at D;subst D;exact Blk.cell h.outer (by simp[F])
 ·simp at D
structure StAt (w:World) (P G N:Nat) (A:Option Addr) (n cap R:Nat) (rows:List (List Int)) (has:List Int):Prop where
 sl:Sl (slC QO 1) 1 w (fun b=>b≠G∧b≠P∧b<N) A n cap rows
 st:∃z,Blk w P #[.slice A n cap,.slice (some ⟨G,0,none⟩) R R,z] 289
 row:RowI w G has 3
 lh:has.length=R
 pg:P≠G
 pn:P<N
 gn:G<N
 le:N≤w.heap.size
theorem StAt.bel {w w':World}{P G N:Nat}{A:Option Addr}{n cap R:Nat}{E:List (List Int)}{D:List Int}(h:StAt w P G N A n cap R E D)(I:yw w w'):StAt w' P G N A n cap R E D:=by
 obtain⟨z,F⟩:=h.st;exact⟨h.sl.below Xc (by omega) I,⟨z,F.bel I⟩,h.row.bel I,h.lh,h.pg,h.pn,h.gn,Nat.le_trans h.le I.size⟩
theorem StAt.found {w w':World}{P G N M:Nat}{A:Option Addr}{n cap R:Nat}{E:List (List Int)}{J F:List Int}{Q:List Bool}(h:StAt w P G N A n cap R E J)(U:N≤M)(I:Kept (fun k=>k=G∨k=M) w w')(V:MtAt w' P G M A n cap R E F Q):StAt w' P G N A n cap R E F:=
 ⟨h.sl.keep Xc (by omega) fun b D O=>⟨I.block b O (by rintro(e|e);exact D.1 e;have:=D.2.2;omega),D⟩,⟨_,V.st⟩,V.row,V.lh,h.pg,h.pn,h.gn,Nat.le_trans h.le I.size⟩
theorem QWb (P G N:Nat)(A:Option Addr)(n cap R:Nat)(F:List (List Int))(ae:List Int)(w:World)(h:StAt w P G N A n cap R F ae)(hR:R≤16) :
  Calls prog 245 #[.pointer (some ⟨P,0,none⟩)] w fun e w'=>e=.returned (.tuple #[])∧MtAt w' P G w.heap.size A n cap R F ae (List.replicate R false)∧StAt w' P G N A n cap R F ae∧Kept (fun k=>k=P) w w':=by
 have ab:=fun W=>mkB R hR W;obtain⟨z,E⟩:=h.st;have V:=E.lt;have p1:yJ w P 1 (some ⟨G,0,none⟩) R R:=E.cell rfl;have p2:w.cell? ⟨P,2,none⟩=some z:=E.cell rfl;have Z:=E.free 2;have aa:G<w.heap.size:=Blk.lt h.row;have O:Blk ((w.alloc (.cells (Array.replicate R (Value.bool false)) 4)).setCell ⟨P,2,none⟩ (.slice (some ⟨w.heap.size,0,none⟩) R R)) P #[.slice A n cap,.slice (some ⟨G,0,none⟩) R R,.slice (some ⟨w.heap.size,0,none⟩) R R] 289:=Blk.set (j:=2) (Blk.old E _) (.slice (some ⟨w.heap.size,0,none⟩) R R);have I:RowI ((w.alloc (.cells (Array.replicate R (Value.bool false)) 4)).setCell ⟨P,2,none⟩ (.slice (some ⟨w.heap.size,0,none⟩) R R)) G ae 3:=RowI.other (Blk.old h.row _) h.pg _
 have J:∀S:Nat→Prop,(∀b,b≠G∧b≠P∧b<N→S b)→Sl (slC QO 1) 1 ((w.alloc (.cells (Array.replicate R (Value.bool false)) 4)).setCell ⟨P,2,none⟩ (.slice (some ⟨w.heap.size,0,none⟩) R R)) S A n cap F:=fun S X=>
  h.sl.keep Xc (by omega) fun b D Y=>⟨(Below.heap_setCell _ _ _ _ D.2.1).trans (Below.heap_alloc _ _ _ Y),X b D⟩
 have U:RowB ((w.alloc (.cells (Array.replicate R (Value.bool false)) 4)).setCell ⟨P,2,none⟩ (.slice (some ⟨w.heap.size,0,none⟩) R R)) w.heap.size (List.replicate R false):=RowB.other (Qbb (Zk _ _)) (by simp;omega) _;have hN:=h.le;have ac:=h.pn
 have Q:=yh (show MtAt ((w.alloc (.cells (Array.replicate R (Value.bool false)) 4)).setCell ⟨P,2,none⟩ (.slice (some ⟨w.heap.size,0,none⟩) R R)) P G w.heap.size A n cap R F ae (List.replicate R false)∧StAt ((w.alloc (.cells (Array.replicate R (Value.bool false)) 4)).setCell ⟨P,2,none⟩ (.slice (some ⟨w.heap.size,0,none⟩) R R)) P G N A n cap R F ae∧
   Kept (fun k=>k=P) w ((w.alloc (.cells (Array.replicate R (Value.bool false)) 4)).setCell ⟨P,2,none⟩ (.slice (some ⟨w.heap.size,0,none⟩) R R))from
  ⟨⟨J _ fun b D=>⟨D.1,by omega⟩,O,I,U,h.lh,by simp⟩,⟨J _ fun b D=>D,⟨_,O⟩,I,h.lh,h.pg,h.pn,h.gn,by simp[World.setCell];omega⟩,((yk P w).alloc _).setCell (p:=⟨P,2,none⟩) (.inl rfl) _⟩)
 rw[World.setCell_alloc_past _ _ _ _ V]at Q;clear h E O I J U;go_enter func245,ntmps245;go_wp2_with fail;go_end0;exact⟨rfl,Q⟩
end Go.Proofs.YtjdcokpmgionjaaGreat
