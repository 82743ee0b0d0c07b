/-
  Words, laws and contracts: BookS, BookG, BookH, BookI, BookJ, BookK, BookM, BookL.
-/
import Derived.Test.YtjdcokpmgionjaaGreatBun9
import Derived.Shelf.SlSortCmp.WholeK
import Derived.Shelf.SlSortCmp.NoneTotal
import Derived.Deep.RegionHeld3
set_option linter.unusedSimpArgs false
set_option linter.unusedVariables false
set_option maxRecDepth 100000
set_option maxHeartbeats 20000000
namespace Go.Proofs.YtjdcokpmgionjaaGreat
open Go.RowKit Go.Shelf Go.Lib
open Go.Sort hiding Below Holds
theorem Xsa (x y:Q4a)(W:World):Calls Tryz.prog 195 #[.agg #[.int .i64 x.1.frm,.int .i64 x.1.upto],.agg #[.int .i64 y.1.frm,.int .i64 y.1.upto]] W fun e w'=>e=.returned (.int .i64 (XW x y))∧∃q I,w'=Go.Sort.grow (W.drewN q) I:=by
 obtain⟨⟨a,b⟩,A,D⟩:=x;obtain⟨⟨c,d⟩,E,F⟩:=y;simp only at A D E F
 have J:wrap64 (a - c)=a - c:=by unfold wrap64;omega
 go_enter Tryz.func195,Tryz.ntmps195
 go_wp2_with fail
 go_ret
 exact⟨rfl,0,_,by rw[Go.Sort.alloc_eq_grow,Go.Sort.alloc_eq_grow,Go.Sort.grow_grow];rfl⟩
theorem Qxb {base g n cap:Nat}{l:List Span}{xs:List Value}{w:World}(h:Own Ug 2 51 w base (.slice (some ⟨g,0,none⟩) n cap) l xs)(av:l.length≤140737488355328)(hs:∀x∈l,-1000≤x.frm∧x.frm≤1000) :
  Calls Tryz.prog 194 #[.slice (some ⟨g,0,none⟩) n cap,.func (.func 195) #[] #[]] w fun e w'=>e=.returned (.tuple #[])∧
   ∃l' au,l'.Perm l∧l'.Pairwise (fun x y=>x.frm≤y.frm)∧Own Ug 2 51 w' base (.slice (some ⟨g,0,none⟩) n cap) l' au∧Kept (fun j=>j=g) w w':=by
 obtain⟨E,aa⟩:∃E:List Q4a,E.map Subtype.val=l:=⟨l.pmap (fun x I=>⟨x,I⟩) hs,by rw[List.map_pmap];simp⟩
 have af:E.length=l.length:=by rw[←aa];simp
 have ah:=h.row
 have hn:n=l.length:=by
  rcases ah.2 with⟨F,_⟩ | ⟨g',ai,J,F,_⟩
  ·cases F
  ·injection F
 subst hn
 obtain⟨J,hb,ad,ap,Z,ab,ax⟩:∃J,base≤g∧w.heap[g]? = some (.cells J 51 (0,0))∧l.length≤cap∧cap≤maxLen∧J.size=cap*2∧J.toList.take (l.length*2)=xs:=by
  rcases ah.2 with⟨F,_⟩ | ⟨g',ai,J,F,r⟩
  ·cases F
  ·simp only[Value.slice.injEq,Option.some.injEq,Addr.mk.injEq,and_true,true_and]at F
   obtain⟨rfl,rfl⟩:=F;exact⟨J,r⟩
 have hH:HoldsK Ve 2 w g 0 E.toArray:=fun j O=>by
  rw[size_flatK]at O
  have aw:j < E.length*2:=by simpa using O
  have D:j / 2 < l.length:=by omega
  obtain⟨cs,Y,hl,aj,ak⟩:=h.cells (List.getElem?_eq_getElem D);obtain⟨rfl,_⟩:=Y;refine⟨?_,ak _⟩
  have ae:j / 2*2+j % 2=j:=by omega
  have I:(E.toArray[j / 2]!).1=l[j / 2]:=by
   have Q:j / 2 < E.length:=by omega
   rw[getElem!_pos _ _ (by simpa using Q)];simp only[List.getElem_toArray]
   have:(E.map Subtype.val)[j / 2]'(by simpa using Q)=l[j / 2]:=by simp only[aa]
   rw[List.getElem_map]at this;exact this
  have hf:=ZSb E.toArray (j / 2) (j % 2) (by simp;omega) (by omega);rw[ae]at hf
  show w.cell? ⟨g,0+j,none⟩=some ((flatK Ve 2 E.toArray)[j]!)
  rw[Nat.zero_add,hf];unfold Ve QFa;rw[I]
  have hc:=aj (j % 2) (([Value.int .i64 (l[j / 2]).frm,.int .i64 (l[j / 2]).upto])[j % 2]!) (by
   have:j % 2=0∨j % 2=1:=by omega
   rcases this with e | e<;>rw[e]<;>rfl)
  rw[ae]at hc;exact hc
 have Z:=AnyQ.slices_SortFunc Tryz.sortSpan 2 Tryz.isAgg51 Tryz.sizeOf51 Ve (fun _=>rfl) (fun x v F=>by simp[Ve,QFa]at F;rcases F with rfl | rfl<;>rfl) XW UFc 195 #[] g 0 cap E.toArray w (enters_of Tryz.func195 (by kernel_rfl) rfl)
  (fun _ _ _ _ x y=>Xsa x y _) hH (lt_of_block ad) (by simp;omega)
 have e1:E.toArray.size=l.length:=by simpa using af
 rw[e1]at Z;refine Calls.mono Z ?_;rintro e w' ⟨rfl,A,q,os,⟨ar,_,ag⟩,aq,rfl⟩
 have ac:A.size=l.length:=by rw[ar];exact e1
 have hp:(A.toList.map Subtype.val).Perm l:=by
  rw[←aa];refine List.Perm.map _ ?_
  have Q:(A.extract 0 l.length).toList=A.toList:=by rw[←ac];simp
  have X:(E.toArray.extract 0 l.length).toList=E:=by rw[←af];simp
  rw[Q,X]at ag;exact ag
 have W:=hp.length_eq
 have an:∀x∈l,InI x.frm∧InI x.upto:=fun x I=>by
  obtain⟨i,D⟩:=List.getElem?_of_mem I;obtain⟨_,Y,_⟩:=h.cells D;exact Y.2
 have V:(flatK Ve 2 A).size=l.length*2:=by rw[size_flatK,ac]
 have al:∀i (D:i < A.size) j,j < 2→(flatK Ve 2 A).toList[i*2+j]? = some ((Ve A[i])[j]!):=fun i D j O=>by
  have U:i*2+j < (flatK Ve 2 A).size:=by rw[V];omega
  have:=ZSb A i j D O;rw[getElem!_pos (flatK Ve 2 A) _ U,getElem!_pos A i D]at this;rw[←this]
  simp
 refine⟨rfl,A.toList.map Subtype.val,(flatK Ve 2 A).toList,hp,?_,⟨⟨?_,.inr ⟨g,cap,_,?_,hb,XXa ad,?_,‹_›,?_,?_⟩⟩,?_⟩,U9a⟩
 ·rw[List.pairwise_map,List.pairwise_iff_getElem]
  intro i j D O am
  have Q:i < A.size:=by simpa using D
  have X:j < A.size:=by simpa using O
  have:=aq i j (Nat.zero_le _) am (by omega);rw[getElem!_pos A i Q,getElem!_pos A j X]at this;have:¬XW A[j] A[i] < 0:=of_decide_eq_false this;unfold XW at this;simp only[Array.getElem_toList];omega
 ·rw[Array.length_toList,V,W]
 ·rw[W]
 ·rw[W];exact ap
 ·simp[Go.Sort.putCells,ab]
 ·rw[W]
  refine List.ext_getElem? fun i=>?_
  rw[List.getElem?_take]
  by_cases D:i < l.length*2
  ·rw[if_pos D]
   have U:i < (flatK Ve 2 A).size:=by rw[V];exact D
   have ao:i < J.size:=by rw[ab];omega
   simp only[Go.Sort.putCells,Array.getElem?_toList,Array.getElem?_mapIdx];rw[Array.getElem?_eq_getElem ao,Array.getElem?_eq_getElem U];simp only[Option.map_some,Nat.zero_le,true_and,Nat.zero_add,Nat.sub_zero,if_pos U,id];rw[getElem!_pos (flatK Ve 2 A) _ U]
  ·rw[if_neg D,List.getElem?_eq_none (by rw[Array.length_toList,V];omega)]
 ·intro i x I
  have D:i < A.size:=by have:=(List.getElem?_eq_some_iff.1 I).1;simpa using this
  rw[List.getElem?_map,Array.getElem?_toList,Array.getElem?_eq_getElem D]at I;simp only[Option.map_some,Option.some.injEq]at I;have hm:x∈l:=hp.subset (List.mem_map.2 ⟨A[i],by simp,I⟩);refine⟨[.int .i64 x.frm,.int .i64 x.upto],⟨rfl,an x hm⟩,rfl,fun j u hu=>?_⟩;have O:j < 2:=(List.getElem?_eq_some_iff.1 hu).1;rw[al i D j O,←hu];unfold Ve QFa;rw[I]
  have:j=0∨j=1:=by omega
  rcases this with rfl | rfl<;>rfl
theorem ZPa (p:Option Addr)(cap:Nat)(A:Value)(w:World):Calls Tryz.prog 194 #[.slice p 0 cap,A] w fun e w'=>e=.returned (.tuple #[])∧w'=w:=
 AnyF.slices_SortFunc_none Tryz.sortSpan p cap A w
end Go.Proofs.YtjdcokpmgionjaaGreat
namespace Go.Proofs.YtjdcokpmgionjaaGreat
open Go.RowKit Go.Shelf
theorem X5 (b:Bkg)(v:Value)(w:World):Calls Tryz.prog 110 #[.agg (Qz b v)] w fun e w'=>e=.returned (.bool (Qy b))∧yw w w':=by
 obtain⟨id,Q,A,O,lev,E,F,J,upto,U,I⟩:=b
 by_cases h:A=3
 ·have D:=yh (show Qy ⟨id,Q,A,O,lev,E,F,J,upto,U,I⟩=false by unfold Qy;rw[decide_eq_true h];rfl)
  subst h
  go_enter Tryz.func110,Tryz.ntmps110
  go_wp2_with fail
  go_ret
  exact⟨ZN (by rw[D.out]),Qf _ _⟩
 ·have D:=yh (show Qy ⟨id,Q,A,O,lev,E,F,J,upto,U,I⟩=true by unfold Qy;rw[decide_eq_false h];rfl)
  have V:(A != 3)=true:=by simpa using h
  clear h
  go_enter Tryz.func110,Tryz.ntmps110
  go_wp2_with fail
  go_ret
  exact⟨ZN (by rw[D.out]),Qf _ _⟩
theorem ZCb (b:Bkg)(v:Value)(c:Int)(w:World):Calls Tryz.prog 193 #[.agg (Qz b v),.int .i64 c] w fun e w'=>e=.returned (.bool (Uv c b))∧yw w w':=by
 obtain⟨id,O,Q,J,lev,D,F,I,upto,U,V⟩:=b;obtain⟨r,hr⟩:∃r,r=Uv c ⟨id,O,Q,J,lev,D,F,I,upto,U,V⟩:=⟨_,rfl⟩;rw[←hr]
 have X:=fun W=>X5 ⟨id,O,Q,J,lev,D,F,I,upto,U,V⟩ v W
 obtain⟨q,Z⟩:∃q,q=Qy ⟨id,O,Q,J,lev,D,F,I,upto,U,V⟩:=⟨_,rfl⟩;rw[←Z]at X;have HR:=yh (show r=(q && decide (D=c))by rw[hr,Z];rfl);have HL:=yh X;clear X;clear hr Z
 go_enter Tryz.func193,Tryz.ntmps193
 go_upto_region 0 with(fail)
 go_cut [2,4] (fun p _ wx=>∃h,p=.pointer (some ⟨h,0,none⟩)∧Blk wx h (Qz ⟨id,O,Q,J,lev,D,F,I,upto,U,V⟩ v) 63∧yw w wx)
 case first=>as_aux_lemma=>
  go_wp2_with fail
  go_meet
  exact⟨_,rfl,Za _ _,Qf _ _⟩
 obtain⟨h,rfl,A,E⟩:=hcut;have z0:yI wc h 0 id:=A.cell rfl;have z1:yI wc h 1 O:=A.cell rfl;have z2:yI wc h 2 Q:=A.cell rfl;have z3:yI wc h 3 J:=A.cell rfl;have z4:wc.cell? ⟨h,4,none⟩=some (.bool lev):=A.cell rfl;have z5:yI wc h 5 D:=A.cell rfl;have z6:yI wc h 6 F:=A.cell rfl;have z7:yI wc h 7 I:=A.cell rfl;have z8:yI wc h 8 upto:=A.cell rfl;have z9:yI wc h 9 U:=A.cell rfl;have aa:wc.cell? ⟨h,10,none⟩=some (v):=A.cell rfl
 go_wp2_with fail
 refine(HL.out _).mono ?_;rintro e w2 ⟨rfl,Y⟩;replace A:=A.bel Y;replace E:=E.trans (Y.mono E.size);clear Y z0 z1 z2 z3 z4 z5 z6 z7 z8 z9 aa;have z5:yI w2 h 5 D:=A.cell rfl
 cases q
 ·obtain rfl:r=false:=HR.out
  go_wp2_with fail
  go_ret
  exact⟨rfl,E⟩
 by_cases hcb:D=c
 ·obtain rfl:r=true:=by rw[HR.out,decide_eq_true hcb];rfl
  subst hcb
  go_wp2_with fail
  go_ret
  exact⟨rfl,E⟩
 ·obtain rfl:r=false:=by rw[HR.out,decide_eq_false hcb];rfl
  have ab:(D == c)=false:=by simpa using hcb
  clear hcb
  go_wp2_with fail
  go_ret
  exact⟨rfl,E⟩
def V5b (l:List Bkg):Prop:=∀b∈l,X6 ⟨b.frm,b.upto⟩
theorem Qgb {l:List Bkg}{c:Int}{k:Nat}{b:Bkg}(h:l[k]? = some b):spL (l.take (k+1)) c=spL (l.take k) c++(if Uv c b=true then [⟨b.frm,b.upto⟩]else []):=by
 unfold spL;rw[Qn h,List.filter_append,List.map_append]
 cases e:Uv c b<;>simp[e]
theorem QZc {l:List Bkg}{c:Int}{s:Span}(h:s∈spL l c):∃b∈l,s=⟨b.frm,b.upto⟩:=by
 unfold spL at h;obtain⟨b,A,rfl⟩:=List.mem_map.1 h;exact⟨b,(List.mem_filter.1 A).1,rfl⟩
theorem XYa {l:List Bkg}(h:V5b l){c:Int} : ∀s∈spL l c,X6 s:=fun s D=>by
 obtain⟨b,A,rfl⟩:=QZc D;exact h b A
theorem Upb (l:List Bkg)(c:Int):(spL l c).length≤l.length:=by
 unfold spL;rw[List.length_map];exact List.length_filter_le _ _
def YB (l:List Bkg) (c:Int):List Span:=(spF (spL l c)).getD []
def ZK (l:List Bkg) (c:Int):Bool:=(spF (spL l c)).isSome
theorem VTa:∀{l:List Span} {a:Int},(∀x∈l,X6 x∧a≤x.frm)→l.Pairwise (fun x y=>x.upto≤y.frm)→a≤7→(l.length:Int)≤7 - a
 | [],a,_,_,h7=>by simp;omega
 | x::l,a,h,hp,_=>by
  obtain⟨⟨E,F,D⟩,I⟩:=h x (List.mem_cons_self ..);rw[List.pairwise_cons]at hp;have:=VTa (l:=l) (a:=x.upto) (fun y A=>⟨(h y (List.mem_cons_of_mem _ A)).1,hp.1 y A⟩) hp.2 D;rw[List.length_cons];omega
theorem Uob {ls out:List Span}(E:∀x∈ls,X6 x)(h:spF ls=some out):out.length≤7∧∀x∈out,X6 x:=by
 obtain⟨F,I⟩:=Xx (fun x A=>(E x A).2.1) h
 have D:∀x∈out,X6 x:=fun x A=>E x (F.subset A)
 have:=VTa (l:=out) (a:=0) (fun x A=>⟨D x A,(D x A).1⟩) I (by omega);exact⟨by omega,D⟩
theorem Q0c (l:List Bkg)(c:Int)(k:Nat):∃m,spL l c=spL (l.take k) c++m:=by
 refine⟨spL (l.drop k) c,?_⟩;unfold spL;rw[←List.map_append,←List.filter_append,List.take_append_drop]
theorem YEb {ls m:List Span}(h:spF ls=none):spF (ls++m)=none:=by
 have:∀m:List Span,(m.foldl (fun o s=>o.bind (fun out=>Vya out s)) none)=none:=by
  intro m
  induction m with
  | nil=>rfl
  | cons x m ih=>rw[List.foldl_cons];exact ih
 unfold spF at h ⊢;rw[List.foldl_append,h,this]
theorem YNb {l:List Bkg}{c:Int}{k:Nat}(h:spF (spL (l.take k) c)=none):ZK l c=false∧YB l c=[]:=by
 obtain⟨m,A⟩:=Q0c l c k;unfold ZK YB;rw[A,YEb h];exact⟨rfl,rfl⟩
theorem UL {l:List Bkg}{c:Int}{out:List Span}(h:spF (spL l c)=some out):ZK l c=true∧YB l c=out:=by
 unfold ZK YB;rw[h];exact⟨rfl,rfl⟩
theorem Zza (C:Option Addr)(I cb:Nat)(l:List Bkg)(c:Int)(w:World)(hl:Sl Vb 11 w All C I cb l)(aw:V5b l) :
  Calls Tryz.prog 149 #[.slice C I cb,.int .i64 c] w fun e w'=>∃v xs,e=.returned (.tuple #[v,.bool (ZK l c)])∧Own Ug 2 51 w' w.heap.size v (YB l c) xs∧yw w w':=by
 have aG:=hl.bd;have HL:=yh hl;have HN:=yh hl.len;have ap:=yh aw;clear aw;obtain⟨tb,am⟩:∃q,q=ZK l c:=⟨_,rfl⟩;obtain⟨tl,an⟩:∃q,q=YB l c:=⟨_,rfl⟩;rw[←am,←an];have aq:=yh am;clear am;have ar:=yh an;clear an;clear hl
 go_enter Tryz.func149,Tryz.ntmps149
 go_wp2_with fail
 go_loopg [6,7] I (fun gk o i wr=>∃(k:Nat) (out:List Span) (xs:List Value),k≤I∧I - k≤gk∧i=.int .i64 k∧Aside (spF (spL (l.take k) c)=some out)∧Own Ug 2 51 wr w.heap.size o out xs∧yw w wr)
 case atStart=>exact⟨0,[],[],Nat.zero_le _,by omega,rfl,rfl,Own.nil _ _ _ _ _,Below.refl _ _⟩
 case round=>
  obtain⟨k,out,xs,hk,aI,rfl,O,X,E⟩:=hrel
  by_cases hlt:k < I
  ·skip
   obtain⟨D,F,⟨id,ag,Z,ab,lev,Q,aa,U,upto,ah,aj⟩,A3,n3,c3,hA,hx,hF,W,A⟩:=(HL.out.bel E).bkg hlt;subst hA;simp only at hF;have y0:yI wr D (F+k*11) id:=A 0 _ rfl;have y1:yI wr D (F+k*11+1) ag:=A 1 _ rfl;have y2:yI wr D (F+k*11+2) Z:=A 2 _ rfl;have y3:yI wr D (F+k*11+3) ab:=A 3 _ rfl;have y4:wr.cell? ⟨D,F+k*11+4,none⟩=some (.bool lev):=A 4 _ rfl;have y5:yI wr D (F+k*11+5) Q:=A 5 _ rfl;have y6:yI wr D (F+k*11+6) aa:=A 6 _ rfl;have y7:yI wr D (F+k*11+7) U:=A 7 _ rfl;have y8:yI wr D (F+k*11+8) upto:=A 8 _ rfl;have y9:yI wr D (F+k*11+9) ah:=A 9 _ rfl;have aL:yJ wr D (F+k*11+10) A3 n3 c3:=A 10 _ rfl;clear A;have ae:=ap.out _ (List.mem_of_getElem? hx);have J:=Qgb (c:=c) hx;obtain⟨al,ad⟩:=Uob (XYa (fun b E=>ap.out b (List.mem_of_mem_take E))) O;obtain⟨A2,n2,aA,rfl,af⟩:=X.sl Ql;have aD:=yh W.frm;have aE:=yh W.upto;have aJ:(0:Int)≤(k:Int):=Int.natCast_nonneg _
   by_cases hst:Z=3
   ·have V:Uv c ⟨id,ag,Z,ab,lev,Q,aa,U,upto,ah,aj⟩=false:=by unfold Uv Qy;rw[decide_eq_true hst];rfl
    rw[V,if_neg (by simp),List.append_nil]at J;have ai:=yh J;clear J;have HO:=yh X;subst hst;clear V X af hx ae ad al W
    go_wp2_with fail
    go_roundg (I - (k+1))
    case measure=>omega
    case rel=>exact⟨k+1,out,xs,by omega,by omega,by go_num,(show spF _=_ by rw[ai.out];exact O),HO.out,E⟩
   have aK:(Z == 3)=false:=by simpa using hst
   by_cases hcb:Q=c
   rotate_left
   ·have V:Uv c ⟨id,ag,Z,ab,lev,Q,aa,U,upto,ah,aj⟩=false:=by unfold Uv;rw[decide_eq_false hcb,Bool.and_false]
    rw[V,if_neg (by simp),List.append_nil]at J;have ai:=yh J;clear J;have HO:=yh X
    have aH:(Q != c)=true:=by simpa using hcb
    clear V X af hx ae ad al W hst hcb
    go_wp2_with fail
    go_roundg (I - (k+1))
    case measure=>omega
    case rel=>exact⟨k+1,out,xs,by omega,by omega,by go_num,(show spF _=_ by rw[ai.out];exact O),HO.out,E⟩
   have V:Uv c ⟨id,ag,Z,ab,lev,Q,aa,U,upto,ah,aj⟩=true:=by unfold Uv Qy;rw[decide_eq_true hcb,decide_eq_false hst];rfl
   rw[V,if_pos rfl]at J
   have av:spF (spL (l.take (k+1)) c)=Vya out ⟨U,upto⟩:=by rw[J,Vca,O];rfl
   have ak:=X2a A2 n2 aA out ⟨U,upto⟩ wr (af.all Ql (by omega)) (by omega) ad ae W.frm W.upto;obtain⟨u,hu⟩:∃u,u=adE out ⟨U,upto⟩:=⟨_,rfl⟩;rw[←hu]at ak;have ax:=yh ak;clear ak;have HU:=yh hu;clear hu;have ao:=yh av;clear av;have aB:=E.size;subst hcb;clear V J hx X af ae ad al W hst
   go_wp2_with fail
   refine ax.out.mono ?_;rintro e w2 ⟨v2,aC,rfl,ac,au⟩
   by_cases hu0:u=0
   ·subst hu0
    rw[QG]at ac;have ay:=yh (ac.mono Ql aB);have az:=yh (show spF (spL (l.take (k+1)) Q)=some (Z2 ⟨U,upto⟩ out)by rw[ao.out];unfold Vya;rw[if_pos HU.out.symm]);clear ac O
    go_wp2_with fail
    go_roundg (I - (k+1))
    case measure=>omega
    case rel=>exact⟨k+1,_,aC,by omega,by omega,by go_num,az.out,ay.out,E.trans (au.mono E.size)⟩
   ·have Y:=YNb (l:=l) (c:=Q) (k:=k+1) (by rw[ao.out];unfold Vya;rw[if_neg (by rw[←HU.out];exact hu0)])
    obtain rfl:tb=false:=aq.out.trans Y.1;obtain rfl:tl=[]:=ar.out.trans Y.2
    have aF:(u != 0)=true:=by simpa using hu0
    clear hu0 Y ac
    go_wp2_with fail
    go_ret2
    exact⟨_,[],rfl,Own.nil _ _ _ _ _,E.trans (au.mono E.size)⟩
  ·obtain rfl:k=I:=by omega
   rw[List.take_of_length_le (Nat.le_of_eq HN.out)]at O;have Y:=UL O;obtain rfl:tb=true:=aq.out.trans Y.1;obtain rfl:tl=out:=ar.out.trans Y.2;clear Y O
   go_wp2_with fail
   go_ret2
   exact⟨_,xs,rfl,X,E⟩
theorem VOa (C:Option Addr)(nb cb:Nat)(l:List Bkg)(c:Int)(w:World)(hl:Sl Vb 11 w All C nb cb l)(aU:V5b l)(hn:nb≤2000000000000) :
  Calls Tryz.prog 112 #[.slice C nb cb,.int .i64 c] w fun e w'=>∃v xs,e=.returned (.tuple #[v,.bool (ZK l c)])∧Own Ug 2 51 w' w.heap.size v (YB l c) xs∧yw w w':=by
 have bm:=hl.bd;have HL:=yh hl;have HN:=yh hl.len;have a6:=yh aU;clear aU;obtain⟨tb,aB⟩:∃q,q=ZK l c:=⟨_,rfl⟩;obtain⟨tl,aC⟩:∃q,q=YB l c:=⟨_,rfl⟩;rw[←aB,←aC];have aq:=yh aB;clear aB;have ar:=yh aC;clear aC;clear hl
 go_enter Tryz.func112,Tryz.ntmps112
 go_wp2_with fail
 go_loopg [6,12] nb (fun gk o i wr=>∃(k:Nat) (xs:List Value),k≤nb∧nb - k≤gk∧i=.int .i64 k∧Own Ug 2 51 wr w.heap.size o (spL (l.take k) c) xs∧yw w wr)
 case atStart=>exact⟨0,[],Nat.zero_le _,by omega,rfl,Own.nil _ _ _ _ _,Below.refl _ _⟩
 case round=>
  obtain⟨k,xs,hk,bq,rfl,U,A⟩:=hrel;obtain⟨A2,V,aK,rfl,aV⟩:=U.sl Ql;have al:=aV.len;clear aV
  by_cases hlt:k < nb
  ·skip
   obtain⟨I,F,⟨id,af,ag,ab,lev,Z,aa,J,upto,ah,au⟩,A3,n3,c3,hA,Q,hF,hI,E⟩:=(HL.out.bel A).bkg hlt;subst hA;simp only at hF;have y0:yI wr I (F+k*11) id:=E 0 _ rfl;have y1:yI wr I (F+k*11+1) af:=E 1 _ rfl;have y2:yI wr I (F+k*11+2) ag:=E 2 _ rfl;have y3:yI wr I (F+k*11+3) ab:=E 3 _ rfl;have y4:wr.cell? ⟨I,F+k*11+4,none⟩=some (.bool lev):=E 4 _ rfl;have y5:yI wr I (F+k*11+5) Z:=E 5 _ rfl;have y6:yI wr I (F+k*11+6) aa:=E 6 _ rfl;have y7:yI wr I (F+k*11+7) J:=E 7 _ rfl;have y8:yI wr I (F+k*11+8) upto:=E 8 _ rfl;have y9:yI wr I (F+k*11+9) ah:=E 9 _ rfl;have bi:yJ wr I (F+k*11+10) A3 n3 c3:=E 10 _ rfl;clear E
   go_upto_region 4 with(fail)
   go_cut [8] (fun p wx=>∃z,p=.pointer (some ⟨z,0,none⟩)∧Blk wx z (Qz ⟨id,af,ag,ab,lev,Z,aa,J,upto,ah,au⟩ (.slice A3 n3 c3)) 63∧yw wr wx)
   case first=>as_aux_lemma=>
    go_wp2_with fail
    go_meet
    exact⟨_,rfl,Za _ _,Qf _ _⟩
   obtain⟨z,rfl,D,aj⟩:=hcut;clear y0 y1 y2 y3 y4 y5 y6 y7 y8 y9 bi;replace hF:=hF.bel aj;have aN:=U.bel aj;replace A:=A.trans (aj.mono A.size);clear aj U;have z0:yI wc z 0 id:=D.cell rfl;have z1:yI wc z 1 af:=D.cell rfl;have z2:yI wc z 2 ag:=D.cell rfl;have z3:yI wc z 3 ab:=D.cell rfl;have z4:wc.cell? ⟨z,4,none⟩=some (.bool lev):=D.cell rfl;have z5:yI wc z 5 Z:=D.cell rfl;have z6:yI wc z 6 aa:=D.cell rfl;have z7:yI wc z 7 J:=D.cell rfl;have z8:yI wc z 8 upto:=D.cell rfl;have z9:yI wc z 9 ah:=D.cell rfl;have bj:wc.cell? ⟨z,10,none⟩=some ((.slice A3 n3 c3)):=D.cell rfl;have az:=Qgb (c:=c) Q;have ak:=Upb (l.take k) c;rw[List.length_take]at ak
   have av:=fun W=>ZCb ⟨id,af,ag,ab,lev,Z,aa,J,upto,ah,au⟩ (.slice A3 n3 c3) c W
   obtain⟨q,hq⟩:∃q,q=Uv c ⟨id,af,ag,ab,lev,Z,aa,J,upto,ah,au⟩:=⟨_,rfl⟩;rw[←hq]at av az;have aE:=yh av
   have be:((spL (l.take k) c).length+1)*16≤140737488355328:=by omega
   have a1:=hI.frm;have a2:=hI.upto;simp only at a1 a2;have aJ:=yh az;clear az;have HO:=yh aN;clear aN;have aA:=A.size;clear av hq Q hF hI ak al
   go_wp2_with fail
   refine(aE.out _).mono ?_;rintro e w2 ⟨rfl,ai⟩;replace D:=D.bel ai;have ap:=yh (HO.out.bel ai);replace A:=A.trans (ai.mono A.size);clear ai z0 z1 z2 z3 z4 z5 z6 z7 z8 z9 bj HO aE aA
   cases q
   ·have HV:=yh (aJ.out.trans (by simp:_=spL (l.take k) c))
    go_wp2_with fail
    go_roundg (nb - (k+1))
    case measure=>omega
    case rel=>exact⟨k+1,xs,by omega,by omega,by go_num,by rw[HV.out];exact ap.out,A⟩
   ·have HV:=yh (aJ.out.trans (by simp:_=spL (l.take k) c++[⟨J,upto⟩]))
    have z7:yI w2 z 7 J:=D.cell rfl;have z8:yI w2 z 8 upto:=D.cell rfl;have aO:=yh (ap.out.bel (Qf w2 (.cells #[.int .i64 J,.int .i64 upto] 51)));have bx:=A.size
    have aY:w.heap.size≤(w2.alloc (.cells #[.int .i64 J,.int .i64 upto] 51)).heap.size:=by simp;omega
    have a4:=yh (A.alloc A.size (.cells #[.int .i64 J,.int .i64 upto] 51));clear ap A D
    go_wp2_with (at_builtin;refine QC (t:=79) (e:=51) (bytes:=16) rfl (.tmp 19) (.tmp 22) rfl UW Ql rfl aO.out rfl (XT _ All J upto 51 a1 a2 trivial) (fun _ _ hc=>hc) be (by omega) aY ?_;intro v' w' bh bg bf _)
    go_roundg (nb - (k+1))
    case measure=>omega
    case rel=>exact⟨k+1,bh,by omega,by omega,by go_num,by rw[HV.out];exact bg,QP a4.out aO.out bf aY⟩
  ·obtain rfl:k=nb:=by omega
   rw[List.take_of_length_le (Nat.le_of_eq HN.out)]at U al;have ao:=yh A;have aA:=A.size
   by_cases h0:V=0
   ·have ax:spL l c=[]:=List.eq_nil_of_length_eq_zero (by omega)
    have O:=UL (l:=l) (c:=c) (out:=[]) (by rw[ax];rfl);obtain rfl:tb=true:=aq.out.trans O.1;obtain rfl:tl=[]:=ar.out.trans O.2;rw[ax]at U;have HO:=yh U;clear U;subst h0;clear al ax O A
    go_wp2_with fail
    refine(ZPa A2 aK _ _).mono ?_;rintro e w3 ⟨rfl,rfl⟩
    go_wp2_with fail
    go_loopg [9] 0 (fun gk i an=>i=.int .i64 1∧yw w an∧an=w3)
    case atStart=>exact⟨rfl,ao.out,rfl⟩
    case round=>
     obtain⟨rfl,A,rfl⟩:=hrel
     go_wp2_with fail
     go_ret2
     exact⟨_,xs,rfl,HO.out,A⟩
   ·obtain⟨g,c9,hv,bn,br⟩:=U.form (by omega)
    simp only[Value.slice.injEq]at hv;obtain⟨rfl,-,rfl⟩:=hv;have ay:=XYa a6.out (c:=c);have ak:=Upb l c;have aZ:=Qxb (w:=wr) (base:=w.heap.size) (g:=g) (n:=V) (cap:=aK) U (by have:=HN.out;omega) (fun x Q=>by have:=ay x Q;unfold X6 at this;omega);have aI:=yh aZ;clear aZ;have a7:=yh ay;clear ay;clear U al ak A
    go_wp2_with fail
    refine aI.out.mono ?_;rintro e w3 ⟨rfl,s,a3,O,hs,aw,hK⟩;have aP:=ao.out.trans (hK.below (B:=w.heap.size) aA (fun q hq (e:q=g)=>by omega));have aT:=VQb (fun x Q=>(a7.out x Q).2.1) O hs;obtain⟨A4,n4,bl,a0,am⟩:=aw.sl Ql;simp only[Value.slice.injEq]at a0;obtain⟨rfl,rfl,rfl⟩:=a0;have aW:=am.all Ql (by omega);have bw:=am.bd;have a8:=yh am.len;obtain⟨W3,bA⟩:∃W,W=w3:=⟨_,rfl⟩;subst bA;have aH:=yh aW;have a5:=yh aw;have Y:=yh aP;have aF:=yh aT;clear aT;clear O hs aw hK am aW aI ao aP
    go_wp2_with fail
    go_loopg [9] V (fun gk i an=>∃j:Nat,j≤V∧V - j≤gk∧i=.int .i64 ((j:Int)+1)∧Aside (∀p x y,p < j→s[p]? = some x→s[p+1]? = some y→Q2 x y=false)∧yw W3 an)
    case atStart=>exact⟨0,Nat.zero_le _,by omega,rfl,fun _ _ _ h=>absurd h (Nat.not_lt_zero _),Below.refl _ _⟩
    case round=>
     obtain⟨j,hj,bp,rfl,HA,A⟩:=hrel
     by_cases hlt:j+1 < V
     ·obtain⟨bb,F,x,c0,c1,aL,Q,⟨aR,_⟩,e0,e1⟩:=(aH.out.bel A).at2 (k:=j) (by omega)
      obtain⟨bk,bz,y,d0,d1,aM,hy,⟨aS,_⟩,e2,e3⟩:=(aH.out.bel A).at2 (k:=j+1) hlt;simp only[List.cons.injEq,and_true]at aR aS;obtain⟨rfl,rfl⟩:=aR;obtain⟨rfl,rfl⟩:=aS;simp only[Option.some.injEq,Addr.mk.injEq,and_true]at aL aM;obtain⟨rfl,rfl⟩:=aL;obtain⟨rfl,rfl⟩:=aM;simp only[Nat.zero_add]at e0 e1 e2 e3
      have hM:=fun W=>V2b x.frm x.upto y.frm y.upto W
      obtain⟨q,hq⟩:∃q,q=Q2 ⟨x.frm,x.upto⟩ ⟨y.frm,y.upto⟩:=⟨_,rfl⟩;rw[←hq]at hM;have HM:=yh hM;clear hM;have HQ:=yh (show q=Q2 x y from hq);have HX:=yh Q;clear Q;have HY:=yh hy;clear hy;have hw:IntKind.i64.wrap (j:Int)=j:=IntWalk.i64_in _ (by omega);have bs:(0:Int)≤(j:Int):=Int.natCast_nonneg _
      have bt:(j:Int)+1 < (V:Int):=by omega
      have bu:(j:Int) < (V:Int):=by omega
      have bv:(0:Int)≤(j:Int)+1:=by omega
      clear hq
      go_upto_region 12 with(fail)
      go_cut [42] (fun t wx=>t=.bool q∧yw wr wx)
      case first=>as_aux_lemma=>
       have aD:=yh (show ∀X,yw wr X→(fun w'=>yI w' g (j*2) x.frm∧yI w' g (j*2+1) x.upto∧yI w' g ((j+1)*2) y.frm∧yI w' g ((j+1)*2+1) y.upto) X from fun X hX=>⟨Qg hX e0,Qg hX e1,Qg hX e2,Qg hX e3⟩);have ac:yw wr wr.drew:=(Below.refl _ wr).drew;clear e0 e1 e2 e3;refine wp_region_held_drew (S:=(fun w'=>yI w' g (j*2) x.frm∧yI w' g (j*2+1) x.upto∧yI w' g ((j+1)*2) y.frm∧yI w' g ((j+1)*2+1) y.upto)) (by kernel_rfl) (aD.out _ ac) (fun a9=>?_);refine yT [0,1,2,3,4,5,6,7,8] (by kernel_rfl) (by assumption) ?_
       iterate 9 (refine yS (v:=?_) (gA rfl) (fun _ _ _ h=>h) rfl ?_ ?_;rotate_left;(focus (intro w ba;(try dsimp only at ba);go_simp<;>with_reducible rfl));simp only[yP,yA,yB,yC])
       refine yR 9 (by kernel_rfl) (gA rfl) fun K hK=>?_
       go_simp
       (go_at_call 196;refine(HM.out _).mono ?_;rintro e wn ⟨rfl,bc⟩;replace ac:=ac.trans bc)
       go_wp2_with fail
       refine hK.out _ _ (aD.out _ ac) fun a9=>?_
       clear hK K
       try simp only[yP,yQ,yA,yB,yC]
       refine wpAnyH_done (by kernel_rfl) ?_ _
       go_wp2_with fail
       go_meet
       exact⟨rfl,ac⟩
      obtain⟨rfl,aQ⟩:=hcut
      cases q
      ·skip
       go_wp2_with fail
       go_roundg (V - (j+1))
       case measure=>omega
       case rel=>
        refine⟨j+1,by omega,by omega,by go_num,fun p x' y' O ad ae=>?_,A.trans (aQ.mono A.size)⟩
        by_cases e:p=j
        ·subst e
         rw[HX.out]at ad;rw[HY.out]at ae
         injection ad with ad
         injection ae with ae
         rw[←ad,←ae];exact HQ.out.symm
        ·exact HA p x' y' (by omega) ad ae
      ·have hn:=aF.out.2 ⟨j,x,y,HX.out,HY.out,HQ.out.symm⟩
       obtain rfl:tb=false:=aq.out.trans (by unfold ZK;rw[hn];rfl);obtain rfl:tl=[]:=ar.out.trans (by unfold YB;rw[hn];rfl);clear hn
       go_wp2_with fail
       go_ret2
       exact⟨_,[],rfl,Own.nil _ _ _ _ _,Y.out.trans ((A.trans (aQ.mono A.size)).mono Y.out.size)⟩
     ·have aX:=aF.out.1 (fun p x y Q hy=>HA p x y (by have h1:=(List.getElem?_eq_some_iff.1 hy).1;have:=a8.out;omega) Q hy)
      have O:=UL aX;obtain rfl:tb=true:=aq.out.trans O.1;obtain rfl:tl=s:=ar.out.trans O.2;have aG:=yh (a5.out.bel A)
      have bo:¬(j:Int)+1 < (V:Int):=by omega
      clear aX O HA
      go_wp2_with fail
      go_ret2
      first
       | exact⟨_,a3,rfl,aG.out,Y.out.trans (A.mono Y.out.size)⟩
       | exact⟨_,rfl,⟨a3,aG.out⟩,Y.out.trans (A.mono Y.out.size)⟩
def Va (m:List Int) (p:Nat→Bool) (g:Int):List Int:=m.mapIdx (fun i v=>if p i=true then v+g else v)
theorem Uua (m:List Int)(p:Nat→Bool)(g:Int):(Va m p g).length=m.length:=by unfold Va;simp
theorem U0 (m:List Int)(p:Nat→Bool)(g:Int)(i:Nat):(Va m p g)[i]? = m[i]?.map (fun v=>if p i=true then v+g else v):=by unfold Va;simp
theorem Y0 {m:List Int}{p A:Nat→Bool}{g:Int}(h:∀i,i < m.length→p i=A i):Va m p g=Va m A g:=by
 refine List.ext_getElem? fun i=>?_
 rw[U0,U0]
 by_cases hi:i < m.length
 ·rw[h i hi]
 ·rw[List.getElem?_eq_none (by omega)];rfl
theorem Q5a {m:List Int}{p:Nat→Bool}{g:Int}(h:∀i,i < m.length→p i=false):Va m p g=m:=by
 refine List.ext_getElem? fun i=>?_
 rw[U0]
 by_cases hi:i < m.length
 ·rw[h i hi,List.getElem?_eq_getElem hi];simp
 ·rw[List.getElem?_eq_none (by omega)];rfl
theorem VQa {m:List Int}{p A:Nat→Bool}{g:Int}{j:Nat}(D:j < m.length)(E:p j=false)(F:A j=true)(I:∀i,i < m.length→i≠j→A i=p i):Va m A g=(Va m p g).set j ((Va m p g).getD j 0+g):=by
 refine List.ext_getElem? fun i=>?_
 rw[U0]
 by_cases hi:i=j
 ·subst hi
  rw[List.getElem?_set_self (by rw[Uua];exact D),List.getD_eq_getElem?_getD,U0,List.getElem?_eq_getElem D,E,F]
  simp
 ·rw[List.getElem?_set_ne (fun e=>hi e.symm),U0]
  by_cases hl:i < m.length
  ·rw[I i hl hi]
  ·rw[List.getElem?_eq_none (by omega)];rfl
def inB (b:Bkg) (i:Nat):Bool:=Qy b && (decide (b.frm≤i) && decide ((i:Int) < b.upto))
theorem Zrb (l:List Bkg)(b:Bkg)(i:Nat):Z4 (l++[b]) i=if inB b i=true then Z4 l i+b.gst else Z4 l i:=by
 unfold Z4;rw[List.map_append,List.sum_append]
 by_cases h:Qy b=true∧b.frm≤i∧(i:Int) < b.upto
 ·have A:inB b i=true:=by unfold inB;simp[h]
  rw[A];simp[h]
 ·have A:inB b i=false:=by
   cases e:inB b i
   ·rfl
   ·unfold inB at e;simp at e;exact absurd ⟨e.1,e.2⟩ h
  rw[A];simp[h]
theorem Uf (l:List Bkg)(N:Nat):(QM l N).length=N:=by unfold QM;simp
theorem Xw (l:List Bkg)(N i:Nat)(h:i < N):(QM l N)[i]? = some (Z4 l i):=by unfold QM;simp[h]
theorem Vba {l:List Bkg}{k N:Nat}{b:Bkg}(h:l[k]? = some b):QM (l.take (k+1)) N=Va (QM (l.take k) N) (inB b) b.gst:=by
 refine List.ext_getElem? fun i=>?_
 rw[U0,Qn h]
 by_cases hi:i < N
 ·rw[Xw _ _ _ hi,Xw _ _ _ hi,Zrb];rfl
 ·rw[List.getElem?_eq_none (by rw[Uf];omega),List.getElem?_eq_none (by rw[Uf];omega)];rfl
def Y2b (l:List Bkg) (N:Nat):Prop:=∀b∈l,(0≤b.frm∧b.frm < b.upto∧b.upto≤N)∧1≤b.gst∧b.gst≤4
theorem QWa:∀{l:List Bkg},(∀b∈l,1≤b.gst∧b.gst≤4)→∀i,0≤Z4 l i∧Z4 l i≤4*l.length
 | [],_,i=>by simp[Z4]
 | b::l,h,i=>by
  have E:=QWa (l:=l) (fun x A=>h x (List.mem_cons_of_mem _ A)) i;have D:=h b (List.mem_cons_self ..)
  have:Z4 (b::l) i=(if Qy b=true∧b.frm≤i∧(i:Int) < b.upto then b.gst else 0)+Z4 l i:=by unfold Z4;simp
  rw[this,List.length_cons]
  split<;>omega
theorem ZFb {m:List Int}{p:Nat→Bool}{g M:Int}(h:∀i,0≤m.getD i 0∧m.getD i 0≤M)(A:0≤g∧g≤4)(i:Nat):0≤(Va m p g).getD i 0∧(Va m p g).getD i 0≤M+4:=by
 have:=h i;rw[List.getD_eq_getElem?_getD]at this;rw[List.getD_eq_getElem?_getD,U0]
 cases e:m[i]? with
 | none=>rw[e]at this;simp at this ⊢;omega
 | some v=>
  rw[e]at this;simp only[Option.getD_some,Option.map_some]at this ⊢
  split<;>omega
theorem Qfb {l:List Bkg}{N:Nat}(h:Y2b l N)(k i:Nat):0≤(QM (l.take k) N).getD i 0∧(QM (l.take k) N).getD i 0≤4*l.length:=by
 rw[List.getD_eq_getElem?_getD]
 by_cases hi:i < N
 ·rw[Xw _ _ _ hi]
  have:=QWa (l:=l.take k) (fun b A=>(h b (List.mem_of_mem_take A)).2) i;rw[List.length_take]at this;simp only[Option.getD_some];omega
 ·rw[List.getElem?_eq_none (by rw[Uf];omega)]
  simp
  omega
theorem Xka (N:Nat):QM [] N=List.replicate N 0:=by
 unfold QM Z4
 simp[List.eq_replicate_iff]
theorem QDc (W:World):(Instr.makeSlice 70 (.int .i64 6) (.int .i64 6)).run Tryz.prog W=.ok (.slice (some ⟨W.heap.size,0,none⟩) 6 6) (W.alloc (.cells ((List.replicate 6 (0:Int)).map (Value.int .i64)).toArray 3)):=by kernel_rfl
theorem QEc (W:World):(Instr.makeSlice 70 (.int .i64 7) (.int .i64 7)).run Tryz.prog W=.ok (.slice (some ⟨W.heap.size,0,none⟩) 7 7) (W.alloc (.cells ((List.replicate 7 (0:Int)).map (Value.int .i64)).toArray 3)):=by kernel_rfl
theorem Ucb (n:Nat)(A:n≤7)(W:World):(Instr.makeSlice 70 (.int .i64 n) (.int .i64 n)).run Tryz.prog W=.ok (.slice (some ⟨W.heap.size,0,none⟩) n n) (W.alloc (.cells ((List.replicate n (0:Int)).map (Value.int .i64)).toArray 3)):=by
 have h:n≤5∨n=6∨n=7:=by omega
 rcases h with h | rfl | rfl
 ·exact X4b n h W
 ·exact QDc W
 ·exact QEc W
theorem RowI.own {w:World}{G base:Nat}{m:List Int}(h:RowI w G m 3)(E:base≤G)(F:∀x∈m,InI x)(I:m.length≤1000000):Own QL 1 3 w base (.slice (some ⟨G,0,none⟩) m.length m.length) m (m.map (Value.int .i64)):=by
 refine⟨⟨by simp,.inr ⟨G,m.length,_,rfl,E,h,Nat.le_refl _,by simp only[maxLen];omega,by simp,by simp;exact List.take_of_length_le (by simp)⟩⟩,fun i x D=>⟨[.int .i64 x],⟨rfl,F x (List.mem_of_getElem? D)⟩,rfl,fun j u A=>?_⟩⟩
 rcases j with _ | j
 ·simp at A;subst A;simp[D]
 ·simp at A
theorem Qob (N:Nat)(C:Option Addr)(Q cb:Nat)(l:List Bkg)(w:World)(hl:Sl Vb 11 w All C Q cb l)(ao:Y2b l N)(hN:N≤7)(hn:Q≤2000000000000) :
  Calls Tryz.prog 120 #[.int .i64 (N:Int),.slice C Q cb] w fun e w'=>∃G,e=.returned (.slice (some ⟨G,0,none⟩) N N)∧w.heap.size≤G∧RowI w' G (QM l N) 3∧yw w w':=by
 have ag:=hl.bd;have HL:=yh hl;have HN:=yh hl.len;have al:=yh ao;clear ao
 have aB:=fun W=>Ucb N hN W
 clear hl
 go_enter Tryz.func120,Tryz.ntmps120
 go_upto_region 1 with(fail)
 go_cut [5] (fun p wx=>∃G,p=.slice (some ⟨G,0,none⟩) N N∧w.heap.size≤G∧RowI wx G (QM (l.take 0) N) 3∧yw w wx)
 case first=>as_aux_lemma=>
  go_wp2_with fail
  go_meet
  exact⟨_,rfl,Nat.le_refl _,by rw[List.take_zero,Xka];unfold RowI;rw[show((List.replicate N (0:Int)).map (Value.int .i64)).toArray=Array.replicate N (.int .i64 0)by simp];exact Za _ _,Qf _ _⟩
 obtain⟨G,rfl,hG,A,am⟩:=hcut;have U:=yh A;clear A;have ap:=yh am;clear am;clear aB;obtain⟨W0,az⟩:∃W,W=wc:=⟨_,rfl⟩;subst az
 go_wp2_with fail
 go_loopg [13] Q (fun gk i wr=>∃k:Nat,k≤Q∧Q - k≤gk∧i=.int .i64 k∧RowI wr G (QM (l.take k) N) 3∧yw w wr)
 case atStart=>exact⟨0,Nat.zero_le _,by omega,rfl,U.out,ap.out⟩
 case round=>
  obtain⟨k,hk,aG,rfl,A,F⟩:=hrel
  by_cases hlt:k < Q
  ·have ay:=Blk.lt A
   obtain⟨J,O,⟨id,Y,Z,E,lev,aO,X,V,upto,aa,ab⟩,A3,n3,c3,hA,hx,hF,hI,I⟩:=(HL.out.bel F).bkg hlt;subst hA;simp only at hF;have y0:yI wr J (O+k*11) id:=I 0 _ rfl;have y1:yI wr J (O+k*11+1) Y:=I 1 _ rfl;have y2:yI wr J (O+k*11+2) Z:=I 2 _ rfl;have y3:yI wr J (O+k*11+3) E:=I 3 _ rfl;have y4:wr.cell? ⟨J,O+k*11+4,none⟩=some (.bool lev):=I 4 _ rfl;have y5:yI wr J (O+k*11+5) aO:=I 5 _ rfl;have y6:yI wr J (O+k*11+6) X:=I 6 _ rfl;have y7:yI wr J (O+k*11+7) V:=I 7 _ rfl;have y8:yI wr J (O+k*11+8) upto:=I 8 _ rfl;have y9:yI wr J (O+k*11+9) aa:=I 9 _ rfl;have aD:yJ wr J (O+k*11+10) A3 n3 c3:=I 10 _ rfl;clear I
   go_upto_region 4 with(fail)
   go_cut [7] (fun p wx=>∃z,p=.pointer (some ⟨z,0,none⟩)∧wr.heap.size≤z∧Blk wx z (Qz ⟨id,Y,Z,E,lev,aO,X,V,upto,aa,ab⟩ (.slice A3 n3 c3)) 63∧yw wr wx)
   case first=>as_aux_lemma=>
    go_wp2_with fail
    go_meet
    exact⟨_,rfl,Nat.le_refl _,Za _ _,Qf _ _⟩
   obtain⟨z,rfl,aN,D,ad⟩:=hcut;clear y0 y1 y2 y3 y4 y5 y6 y7 y8 y9 aD;replace hF:=hF.bel ad;have A:=A.bel ad
   have aC:z≠G:=by omega
   replace F:=F.trans (ad.mono F.size);clear ad hF;have z0:yI wc z 0 id:=D.cell rfl;have z1:yI wc z 1 Y:=D.cell rfl;have z2:yI wc z 2 Z:=D.cell rfl;have z3:yI wc z 3 E:=D.cell rfl;have z4:wc.cell? ⟨z,4,none⟩=some (.bool lev):=D.cell rfl;have z5:yI wc z 5 aO:=D.cell rfl;have z6:yI wc z 6 X:=D.cell rfl;have z7:yI wc z 7 V:=D.cell rfl;have z8:yI wc z 8 upto:=D.cell rfl;have z9:yI wc z 9 aa:=D.cell rfl;have aE:wc.cell? ⟨z,10,none⟩=some ((.slice A3 n3 c3)):=D.cell rfl
   have af:=fun W=>X5 ⟨id,Y,Z,E,lev,aO,X,V,upto,aa,ab⟩ (.slice A3 n3 c3) W
   obtain⟨q,hq⟩:∃q,q=Qy ⟨id,Y,Z,E,lev,aO,X,V,upto,aa,ab⟩:=⟨_,rfl⟩;rw[←hq]at af;have aj:=yh af;have ae:=yh (Vba (N:=N) hx);have ai:=yh (fun i=>Qfb (al.out) k i);obtain⟨⟨o1,o2,o3⟩,o4,o5⟩:=al.out _ (List.mem_of_getElem? hx);simp only at o1 o2 o3 o4 o5;obtain⟨f,rfl⟩:∃f:Nat,V=f:=⟨V.toNat,by omega⟩;obtain⟨t,rfl⟩:∃t:Nat,upto=t:=⟨upto.toNat,by omega⟩;obtain⟨M,hM⟩:∃M,M=QM (l.take k) N:=⟨_,rfl⟩;rw[←hM]at ae ai A;have ak:=yh (show M.length=N by rw[hM];exact Uf _ _);have HQ:=yh hq;have U:=yh A;clear A;clear af hq hx hI ay hM
   go_wp2_with fail
   refine(aj.out _).mono ?_;rintro e w2 ⟨rfl,ac⟩;replace D:=D.bel ac;have A:=U.out.bel ac;replace F:=F.trans (ac.mono F.size);clear ac z0 z1 z2 z3 z4 z5 z6 z7 z8 z9 aE aj U
   cases q
   ·have HV:=yh (show QM (l.take (k+1)) N=M by rw[ae.out];exact Q5a (fun i _=>by unfold inB;rw[←HQ.out];rfl))
    have U:=yh A;clear A
    go_wp2_with fail
    go_roundg (Q - (k+1))
    case measure=>omega
    case rel=>exact⟨k+1,by omega,by omega,by go_num,by rw[HV.out];exact U.out,F⟩
   ·have z7:yI w2 z 7 (f:Int):=D.cell rfl
    have HZ:=yh D;clear D;have U:=yh A;clear A;have HB:=yh F;clear F
    go_wp2_with fail
    go_loopg [8] (t - f) (fun ax j ah=>∃j0:Nat,f≤j0∧j0≤t∧t - j0≤ax∧j=.int .i64 j0∧RowI ah G (Va M (fun i=>decide (f≤i) && decide (i < j0)) E) 3∧Blk ah z (Qz ⟨id,Y,Z,E,lev,aO,X,f,t,aa,ab⟩ (.slice A3 n3 c3)) 63∧yw w ah)
    case atStart=>exact⟨f,Nat.le_refl _,by omega,by omega,rfl,by rw[Q5a (fun i _=>by simp<;>omega)];exact U.out,HZ.out,HB.out⟩
    case round=>
     obtain⟨j,aI,aJ,aF,rfl,A,D,F⟩:=hrel;have z8:yI wr z 8 (t:Int):=D.cell rfl;have z3:yI wr z 3 E:=D.cell rfl
     by_cases hjt:j < t
     ·have an:j < N:=by omega
      have c0:=A.cell (i:=j) (by rw[Uua,ak.out];exact an);have f0:=A.free j;have aA:0≤E∧E≤4:=⟨by omega,by omega⟩;have ag:=ZFb (p:=fun i=>decide (f≤i) && decide (i < j)) ai.out aA j;obtain⟨v,hv⟩:∃v,v=(Va M (fun i=>decide (f≤i) && decide (i < j)) E).getD j 0:=⟨_,rfl⟩;rw[←hv]at c0 ag
      have aM:IntKind.i64.wrap (v+E)=v+E:=by have:=HN.out;rw[IntKind.wrap_i64];omega
      have av:=yh (show Va M (fun i=>decide (f≤i) && decide (i < j+1)) E=(Va M (fun i=>decide (f≤i) && decide (i < j)) E).set j (v+E)by
       rw[hv]
       exact VQa (by rw[ak.out];exact an) (by simp) (by simp<;>omega) (fun i _ aH=>by
        have hd:decide (i < j+1)=decide (i < j):=by rw[decide_eq_decide];omega
        rw[hd]))
      have aK:(0:Int)≤(j:Int):=Int.natCast_nonneg _
      have aL:(j:Int) < (N:Int):=by omega
      have ar:=yh (fun u=>(A.bel (Below.refl _ wr).drew).set j u);have aw:=yh (fun u=>Blk.other (D.bel (Below.refl _ wr).drew) (p:=⟨G,j,none⟩) (fun e=>aC e.symm) u);have aq:=yh (fun u=>(F.drew).setCell (p:=⟨G,j,none⟩) hG u);clear hv A D F ag
      go_wp2_with fail
      go_region_with (fail)
      all_goals
       go_wp2_with fail
       go_roundg (t - (j+1))
       case measure=>omega
       case rel=>exact⟨j+1,by omega,by omega,by omega,by go_num,by rw[av.out];exact ar.out _,aw.out _,aq.out _⟩
     ·obtain rfl:j=t:=by omega
      have HV:=yh (show QM (l.take (k+1)) N=Va M (fun i=>decide (f≤i) && decide (i < j)) E by
       rw[ae.out]
       exact Y0 (fun i _=>by
        unfold inB;rw[←HQ.out];simp only[Bool.true_and]
        have h1:decide ((f:Int)≤(i:Int))=decide (f≤i):=by rw[decide_eq_decide];omega
        have h2:decide ((i:Int) < (j:Int))=decide (i < j):=by rw[decide_eq_decide];omega
        rw[h1,h2]))
      have au:=yh A;clear A;clear D
      go_wp2_with fail
      go_roundg (Q - (k+1))
      case measure=>omega
      case rel=>exact⟨k+1,by omega,by omega,by go_num,by rw[HV.out];exact au.out,F⟩
  ·obtain rfl:k=Q:=by omega
   rw[List.take_of_length_le (Nat.le_of_eq HN.out)]at A
   go_wp2_with fail
   go_ret
   exact⟨G,rfl,hG,A,F⟩
theorem X9a (N:Nat)(C:Option Addr)(I cb:Nat)(l:List Bkg)(w:World)(hl:Sl Vb 11 w All C I cb l)(ax:Y2b l N)(hN:N≤7)(hn:I≤2000000000000) :
  Calls Tryz.prog 151 #[.int .i64 (N:Int),.slice C I cb] w fun e w'=>∃G,e=.returned (.slice (some ⟨G,0,none⟩) N N)∧w.heap.size≤G∧RowI w' G (QM l N) 3∧yw w w':=by
 have ae:=hl.bd;have HL:=yh hl;have HN:=yh hl.len;have ak:=yh ax;clear ax
 have aL:=fun W=>Ucb N hN W
 clear hl
 go_enter Tryz.func151,Tryz.ntmps151
 go_upto_region 1 with(fail)
 go_cut [5] (fun p wx=>∃G,p=.slice (some ⟨G,0,none⟩) N N∧w.heap.size≤G∧RowI wx G (QM (l.take 0) N) 3∧yw w wx)
 case first=>as_aux_lemma=>
  go_wp2_with fail
  go_meet
  exact⟨_,rfl,Nat.le_refl _,by rw[List.take_zero,Xka];unfold RowI;rw[show((List.replicate N (0:Int)).map (Value.int .i64)).toArray=Array.replicate N (.int .i64 0)by simp];exact Za _ _,Qf _ _⟩
 obtain⟨G,rfl,hG,A,ar⟩:=hcut;have HR:=yh A;clear A;have aD:=yh ar;clear ar;clear aL;obtain⟨W0,aK⟩:∃W,W=wc:=⟨_,rfl⟩;subst aK
 go_wp2_with fail
 go_loopg [6] I (fun gk i wr=>∃k:Nat,k≤I∧I - k≤gk∧i=.int .i64 k∧RowI wr G (QM (l.take k) N) 3∧yw w wr)
 case atStart=>exact⟨0,Nat.zero_le _,by omega,rfl,HR.out,aD.out⟩
 case round=>
  obtain⟨k,hk,aP,rfl,A,J⟩:=hrel
  by_cases hlt:k < I
  ·have ai:=yh (fun i=>Qfb (ak.out) k i)
   obtain⟨y,hy⟩:∃y,l[k]? = some y:=⟨_,List.getElem?_eq_getElem (by have:=HN.out;omega)⟩;have am:=yh (Vba (N:=N) hy);obtain⟨⟨o1,o2,o3⟩,o4,o5⟩:=ak.out _ (List.mem_of_getElem? hy);obtain⟨M,hM⟩:∃M,M=QM (l.take k) N:=⟨_,rfl⟩;rw[←hM]at am ai A;have ac:=yh (show M.length=N by rw[hM];exact Uf _ _);have HY:=yh hy;clear hy;have HR:=yh A;clear A;have HB:=yh J;clear J;clear hM
   go_wp2_with fail
   go_loopg [7] N (fun aJ j aC=>∃j0:Nat,j0≤N∧N - j0≤aJ∧j=.int .i64 j0∧RowI aC G (Va M (fun i=>decide (i < j0) && inB y i) y.gst) 3∧yw w aC)
   case atStart=>exact⟨0,Nat.zero_le _,by omega,rfl,by rw[Q5a (fun i _=>by simp)];exact HR.out,HB.out⟩
   case round=>
    obtain⟨j,aQ,aO,rfl,A,J⟩:=hrel
    by_cases hjt:j < N
    ·have c0:=A.cell (i:=j) (by rw[Uua,ac.out];exact hjt)
     have f0:=A.free j;have av:0≤y.gst∧y.gst≤4:=⟨by omega,by omega⟩;have ae:=ZFb (p:=fun i=>decide (i < j) && inB y i) ai.out av j;obtain⟨v,hv⟩:∃v,v=(Va M (fun i=>decide (i < j) && inB y i) y.gst).getD j 0:=⟨_,rfl⟩;rw[←hv]at c0 ae
     have aq:inB y j=true→Va M (fun i=>decide (i < j+1) && inB y i) y.gst=(Va M (fun i=>decide (i < j) && inB y i) y.gst).set j (v+y.gst):=fun ah=>by
       rw[hv]
       exact VQa (by rw[ac.out];exact hjt) (by simp) (by simp[ah]) (fun i _ aw=>by
        have hd:decide (i < j+1)=decide (i < j):=by rw[decide_eq_decide];omega
        simp only[hd])
     have ap:inB y j=false→Va M (fun i=>decide (i < j+1) && inB y i) y.gst=Va M (fun i=>decide (i < j) && inB y i) y.gst:=fun ah=>
       Y0 (fun i _=>by
        by_cases aw:i=j
        ·subst aw;simp[ah]
        ·have hd:decide (i < j+1)=decide (i < j):=by rw[decide_eq_decide];omega
         simp only[hd])
     have aF:=yh (fun u=>(A.bel (Below.refl _ wr).drew).set j u);have aN:=yh (fun u=>(J.drew).setCell (p:=⟨G,j,none⟩) hG u);have ad:=yh (A.bel (Below.refl _ wr).drew);have aY:=yh A;have O:=yh J;have al:=yh aq;clear aq;have V:=yh ap;clear ap;clear hv;obtain⟨E,F,⟨id,aA,ab,Z,lev,an,ao,Y,upto,aB,aI⟩,A3,n3,c3,hA,hx,hF,hI,D⟩:=(HL.out.bel J).bkg hlt;subst hA;simp only at hF;have y0:yI wr E (F+k*11) id:=D 0 _ rfl;have y1:yI wr E (F+k*11+1) aA:=D 1 _ rfl;have y2:yI wr E (F+k*11+2) ab:=D 2 _ rfl;have y3:yI wr E (F+k*11+3) Z:=D 3 _ rfl;have y4:wr.cell? ⟨E,F+k*11+4,none⟩=some (.bool lev):=D 4 _ rfl;have y5:yI wr E (F+k*11+5) an:=D 5 _ rfl;have y6:yI wr E (F+k*11+6) ao:=D 6 _ rfl;have y7:yI wr E (F+k*11+7) Y:=D 7 _ rfl;have y8:yI wr E (F+k*11+8) upto:=D 8 _ rfl;have y9:yI wr E (F+k*11+9) aB:=D 9 _ rfl;have aM:yJ wr E (F+k*11+10) A3 n3 c3:=D 10 _ rfl;clear D;have X:=yh (show y=⟨id,aA,ab,Z,lev,an,ao,Y,upto,aB,aI⟩from by have h1:=HY.out;rw[hx]at h1;injection h1 with h1;exact h1.symm)
     have ag:y.gst=Z:=by rw[X.out]
     have U:=yh ag;rw[ag]at al V aF ad aY av
     have au:y.frm=Y:=by rw[X.out]
     have ay:y.upto=upto:=by rw[X.out]
     rw[au]at o1 o2;rw[ay]at o2 o3
     have aX:IntKind.i64.wrap (v+Z)=v+Z:=by have:=HN.out;rw[IntKind.wrap_i64];omega
     have aW:IntKind.i64.wrap (upto - 1)=upto - 1:=by rw[IntKind.wrap_i64];omega
     have aR:(0:Int)≤(j:Int):=Int.natCast_nonneg _
     have aS:(j:Int) < (N:Int):=by omega
     have aT:(0:Int)≤(k:Int):=Int.natCast_nonneg _
     have aU:(k:Int) < (I:Int):=by omega
     clear hx hF hI A J ae ag au ay
     by_cases hst:ab=3
     ·have Q:=yh (show inB y j=false by rw[X.out];unfold inB Qy;rw[decide_eq_true hst];rfl)
      subst hst
      go_wp2_with fail
      go_quiet (fail)
      go_wp2_with fail
      go_roundg (N - (j+1))
      case measure=>omega
      case rel=>exact⟨j+1,by omega,by omega,by go_num,by first | (rw[U.out,V.out Q.out];exact ad.out) | (rw[U.out,V.out Q.out];exact aY.out.bel (below_drewN (Below.refl _ _) _)),by first | exact O.out.drew | exact below_drewN O.out _⟩
     ·have aV:(ab != 3)=true:=by simpa using hst
      have af:=fun W=>Qk (j:Int) Y (upto - 1) W
      obtain⟨q,hq⟩:∃q,q=Qc (j:Int) Y (upto - 1):=⟨_,rfl⟩;rw[←hq]at af;have aj:=yh af;clear af
      have Q:=yh (show inB y j=q by
       rw[X.out,hq];unfold inB Qy Qc;rw[decide_eq_false hst]
       have h2:decide ((j:Int) < upto)=decide ((j:Int)≤upto - 1):=by rw[decide_eq_decide];omega
       simp only[h2]
       rfl)
      clear hst hq
      cases q
      ·skip
       go_wp2_with fail
       go_quiet (first | (go_at_call 70;refine Calls.quiet_of_same ((aj.out _).mono fun e w' hh=>⟨hh.1,hh.2.symm⟩)))
       go_wp2_with fail
       go_roundg (N - (j+1))
       case measure=>omega
       case rel=>exact⟨j+1,by omega,by omega,by go_num,by first | (rw[U.out,V.out Q.out];exact ad.out) | (rw[U.out,V.out Q.out];exact aY.out.bel (below_drewN (Below.refl _ _) _)),by first | exact O.out.drew | exact below_drewN O.out _⟩
      ·skip
       go_upto_region 8 with(fail)
       go_cut [43] (fun t wx=>t=.bool true∧∃n0,wx=wr.drewN n0)
       case first=>as_aux_lemma=>
        go_quiet (first | (go_at_call 70;refine Calls.quiet_of_same ((aj.out _).mono fun e w' hh=>⟨hh.1,hh.2.symm⟩)))
        go_wp2_with fail
        go_meet
        exact⟨rfl,_,rfl⟩
       obtain⟨rfl,n0,az⟩:=hcut
       have aa:yw wr wc:=by rw[az];exact below_drewN (Below.refl _ _) _
       have c0:=Qg aa c0;have f0:wc.frozen? ⟨G,j,none⟩=false:=(aY.out.bel aa).free j;have y3:=Qg aa y3;have aH:=yh (fun u=>((aY.out.bel aa).bel (Below.refl _ wc).drew).set j u);have aE:=yh (fun u=>((O.out.trans (aa.mono O.out.size)).drew).setCell (p:=⟨G,j,none⟩) hG u);clear az y0 y1 y2 y4 y5 y6 y7 y8 y9 aM
       go_wp2_with fail
       go_region_with (fail)
       all_goals
        go_wp2_with fail
        go_roundg (N - (j+1))
        case measure=>omega
        case rel=>exact⟨j+1,by omega,by omega,by go_num,by rw[U.out,al.out Q.out];exact aH.out _,aE.out _⟩
    ·obtain rfl:j=N:=by omega
     have HV:=yh (show QM (l.take (k+1)) j=Va M (fun i=>decide (i < j) && inB y i) y.gst by
      rw[am.out];exact Y0 (fun i hi=>by rw[ac.out]at hi;rw[decide_eq_true hi];rfl))
     have aG:=yh A;clear A
     go_wp2_with fail
     go_roundg (I - (k+1))
     case measure=>omega
     case rel=>exact⟨k+1,by omega,by omega,by go_num,by rw[HV.out];exact aG.out,J⟩
  ·obtain rfl:k=I:=by omega
   rw[List.take_of_length_le (Nat.le_of_eq HN.out)]at A
   go_wp2_with fail
   go_ret
   exact⟨G,rfl,hG,A,J⟩
structure OkBk (x:Shp) (b:Bkg):Prop where
 kind:Qc b.kind 1 2=true
 state:Qc b.state 1 3=true
 id:Qc b.id 1 999999=true
 gst:1≤b.gst∧b.gst≤4
 span:Vg ⟨b.frm,b.upto⟩ x.legs=0
 kindE:kindE x b=0
 til:Qc b.til 0 9999=true
 opt:b.til≠0→b.state=1
 fol:Qe b.fol=0
theorem XB {a b:Bool}(h:¬(a && b)=false):a=true∧b=true:=by cases a<;>cases b<;>simp_all
theorem Ue {a:Bool}(h:¬a=false):a=true:=by cases a<;>simp_all
theorem UAa {x:Shp}{b:Bkg}(h:ofE x b=0):OkBk x b:=by
 unfold ofE at h
 by_cases h1:(Qc b.kind 1 2 && Qc b.state 1 3)=false
 ·rw[if_pos h1]at h;omega
 rw[if_neg h1]at h
 by_cases h2:(Qc b.id 1 999999 && Qc b.gst 1 4)=false
 ·rw[if_pos h2]at h;omega
 rw[if_neg h2]at h
 by_cases h3:Vg ⟨b.frm,b.upto⟩ x.legs≠0
 ·rw[if_pos h3]at h;exact absurd h h3
 rw[if_neg h3]at h
 by_cases h4:Go.Proofs.YtjdcokpmgionjaaGreat.kindE x b≠0
 ·rw[if_pos h4]at h;exact absurd h h4
 rw[if_neg h4]at h
 by_cases h5:Qc b.til 0 9999=false
 ·rw[if_pos h5]at h;omega
 rw[if_neg h5]at h
 by_cases h6:b.til≠0∧b.state≠1
 ·rw[if_pos h6]at h;omega
 rw[if_neg h6]at h;obtain⟨A,D⟩:=XB h1;obtain⟨E,F⟩:=XB h2
 exact⟨A,D,E,Qj.1 F,by omega,by omega,Ue h5,fun I=>by
  by_cases hs:b.state=1
  ·exact hs
  ·exact absurd ⟨I,hs⟩ h6,h⟩
theorem Qva {x:Shp}{b:Bkg}(_:OkShp x)(h:OkBk x b):0≤b.frm∧b.frm < b.upto∧b.upto≤x.legs:=(Q3c h.span).2.2
theorem Yv {x:Shp}(A:OkShp x):1≤x.legs∧x.legs≤7:=Qj.1 A.legs
theorem YL {x:Shp}{l:List Bkg}(D:OkShp x)(h:∀b∈l,OkBk x b):V5b l:=fun b E=>by
 have A:=Qva D (h b E);have F:=Yv D;exact⟨A.1,A.2.1,by simp only;omega⟩
theorem ZEb {x:Shp}{l:List Bkg}(E:OkShp x)(h:∀b∈l,OkBk x b):Y2b l x.legs.toNat:=fun b D=>by
 have A:=Qva E (h b D);have F:=Yv E;exact⟨⟨A.1,A.2.1,by omega⟩,(h b D).gst⟩
theorem Own.nilE {α:Type}{c:Cod α}{size:Nat}{e:TypeId}{w:World}{base:Nat}{r:Int}{l:List α}(h:¬r=0):Own c size e w base (.slice none 0 0) (okL r l) []:=by rw[Yq h];exact Own.nil _ _ _ _ _
def Z0b (l:List Bkg) (k:Nat):List Bkg:=l.take k++l.drop (k+1)
theorem Q4b {l:List Bkg}{k:Nat}{b:Bkg}(h:l[k]? = some b):l=l.take k++b::l.drop (k+1):=by
 obtain⟨A,rfl⟩:=List.getElem?_eq_some_iff.1 h;rw[List.getElem_cons_drop,List.take_append_drop]
def UVa:Bkg:=⟨7,1,2,3,false,1,0,1,3,0,[]⟩
def Xu:Bkg:=⟨9,2,1,2,false,-1,0,0,3,4,[]⟩
def ZJb:List Bkg:=[UVa,Xu]
theorem Q7b (w:World):Calls Tryz.prog 84 #[] w fun e w'=>e=.returned (.agg #[.int .i64 7,.int .i64 1,.int .i64 2,.int .i64 3,.bool false,.int .i64 1,.int .i64 0,.int .i64 1,.int .i64 3,.int .i64 0,.slice none 0 0])∧yw w w':=by
 go_enter Tryz.func84,Tryz.ntmps84
 go_wp2_with fail
 refine bodyPost_ret (v:=.agg #[.int .i64 7,.int .i64 1,.int .i64 2,.int .i64 3,.bool false,.int .i64 1,.int .i64 0,.int .i64 1,.int .i64 3,.int .i64 0,.slice none 0 0]) (by simp[results,Tryz.results84,go_sem]) rfl ?_;exact⟨rfl,Qf _ _⟩
theorem YY (w:World):Calls Tryz.prog 63 #[] w fun e w'=>e=.returned (.agg #[.int .i64 9,.int .i64 2,.int .i64 1,.int .i64 2,.bool false,.int .i64 (-1),.int .i64 0,.int .i64 0,.int .i64 3,.int .i64 4,.slice none 0 0])∧yw w w':=by
 go_enter Tryz.func63,Tryz.ntmps63
 go_wp2_with fail
 refine bodyPost_ret (v:=.agg #[.int .i64 9,.int .i64 2,.int .i64 1,.int .i64 2,.bool false,.int .i64 (-1),.int .i64 0,.int .i64 0,.int .i64 3,.int .i64 4,.slice none 0 0]) (by simp[results,Tryz.results63,go_sem]) rfl ?_;exact⟨rfl,Qf _ _⟩
theorem Yha:∀x∈ZJb,BkIn x∧x.fol=[]:=fun x A=>by
 simp only[ZJb,List.mem_cons,List.not_mem_nil,or_false]at A
 rcases A with rfl | rfl
 ·exact⟨⟨.of (by decide) (by decide),.of (by decide) (by decide),.of (by decide) (by decide),.of (by decide) (by decide),.of (by decide) (by decide),.of (by decide) (by decide),.of (by decide) (by decide),.of (by decide) (by decide),.of (by decide) (by decide)⟩,rfl⟩
 ·exact⟨⟨.of (by decide) (by decide),.of (by decide) (by decide),.of (by decide) (by decide),.of (by decide) (by decide),.of (by decide) (by decide),.of (by decide) (by decide),.of (by decide) (by decide),.of (by decide) (by decide),.of (by decide) (by decide)⟩,rfl⟩
end Go.Proofs.YtjdcokpmgionjaaGreat
