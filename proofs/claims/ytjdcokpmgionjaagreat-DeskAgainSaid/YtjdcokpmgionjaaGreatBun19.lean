/-
  Words, laws and contracts: StockL, StockR, StockI, StockT.
-/
import Derived.Test.YtjdcokpmgionjaaGreatBun18
import Derived.BigQuiet
set_option linter.unusedSimpArgs false
set_option linter.unusedVariables false
set_option maxRecDepth 100000
set_option maxHeartbeats 20000000
namespace Go.Proofs.YtjdcokpmgionjaaGreat
open Go.RowKit Go.Shelf
def Xe (l:List Bkg):Prop:=∀(i j:Nat) (a b:Bkg),i < j→l[i]? = some a→l[j]? = some b→a.id < b.id
theorem Zc {l:List Bkg}(h:∀i,i+1 < l.length→(l.getD i default).id < (l.getD (i+1) default).id):Xe l:=by
 have J:∀d i:Nat,i+1+d < l.length→(l.getD i default).id < (l.getD (i+1+d) default).id:=by
  intro d
  induction d with
  | zero=>exact fun i D=>h i D
  | succ d ih=>
   intro i D;have E:=ih i (by omega);have F:=h (i+1+d) (by omega);exact Int.lt_trans E F
 intro i j a b O I A;have Q:=(List.getElem?_eq_some_iff.1 A).1;have:=J (j - (i+1)) i (by omega);rw[show i+1+(j - (i+1))=j by omega,List.getD_eq_getElem?_getD,List.getD_eq_getElem?_getD,I,A]at this;exact this
def ZI (l:List Bkg) (t:Int):Bool:=l.any (fun b=>decide (b.id=t))
def ZG (l:List Bkg) (t:Int):Nat:=l.findIdx (fun b=>decide (t≤b.id))
def Zya (l:List Bkg) (t:Int) (i:Nat):Prop:=∀(q:Nat) (b:Bkg),q < i→l[q]? = some b→b.id < t
def Vy (l:List Bkg) (t:Int) (i:Nat):Prop:=∀(q:Nat) (b:Bkg),i≤q→l[q]? = some b→t≤b.id
theorem Zkb {l:List Bkg}{t:Int}{i:Nat}(J:i≤l.length)(A:Zya l t i)(E:Vy l t i):ZG l t=i:=by
 unfold ZG
 rcases Nat.lt_or_ge i l.length with h | h
 ·rw[List.findIdx_eq h]
  refine⟨decide_eq_true (E i _ (Nat.le_refl _) (List.getElem?_eq_getElem h)),fun j F=>?_⟩;have:=A j _ F (List.getElem?_eq_getElem (by omega))
  simp;omega
 ·obtain rfl:i=l.length:=by omega
  rw[List.findIdx_eq_length];intro x I;obtain⟨q,D⟩:=List.getElem?_of_mem I;have:=A q x (List.getElem?_eq_some_iff.1 D).1 D
  simp;omega
theorem Zwc {l:List Bkg}{t:Int}{i:Nat}{b:Bkg}(O:Xe l)(J:Zya l t i)(I:Vy l t i)(E:l[i]? = some b):ZI l t=decide (b.id=t):=by
 unfold ZI
 by_cases h:b.id=t
 ·rw[decide_eq_true h]
  exact List.any_eq_true.2 ⟨b,List.mem_of_getElem? E,decide_eq_true h⟩
 ·rw[decide_eq_false h]
  refine List.any_eq_false.2 fun x Q=>?_
  obtain⟨q,A⟩:=List.getElem?_of_mem Q;simp only[decide_eq_true_eq];intro F
  rcases Nat.lt_trichotomy q i with D | D | D
  ·have:=J q x D A;omega
  ·subst D;rw[E]at A;injection A with A;subst A;exact h F
  ·have U:=O i q b x D E A
   have V:=I i b (Nat.le_refl _) E;omega
theorem Zvc {l:List Bkg}{t:Int}(D:Zya l t l.length):ZI l t=false:=by
 unfold ZI
 refine List.any_eq_false.2 fun x E=>?_
 obtain⟨q,A⟩:=List.getElem?_of_mem E;have:=D q x (List.getElem?_eq_some_iff.1 A).1 A
 simp;omega
theorem Qlc {l:List Bkg}{t:Int}(h:∀b∈l,b.id≠t):ZI l t=false:=by
 unfold ZI
 refine List.any_eq_false.2 fun x A=>?_
 simpa using h x A
theorem QSa (b:Bkg)(v:Value)(t:Int)(w:World):Calls Tryz.prog 207 #[.agg (Qz b v),.int .i64 t] w fun e w'=>e=.returned (.int .i64 (wrap64 (b.id - t)))∧yw w w':=by
 obtain⟨id,J,O,I,lev,A,D,F,upto,Q,E⟩:=b
 go_enter Tryz.func207,Tryz.ntmps207
 go_wp2_with fail
 go_ret
 exact⟨rfl,Qf _ _⟩
def UQ (t:Int):Prop:=-1000000000≤t∧t≤1000000000
theorem Xib (C:Option Addr)(n cap:Nat)(l:List Bkg)(t:Int)(w:World)(hl:Sl Vb 11 w All C n cap l)(hr:Xe l)(aq:∀b∈l,1≤b.id∧b.id≤999999)(hn:n≤16)(ht:InI t) :
  Calls Tryz.prog 206 #[.slice C n cap,.int .i64 t,.func (.func 207) #[] #[]] w fun e w'=>∃i:Nat,e=.returned (.tuple #[.int .i64 (i:Int),.bool (ZI l t)])∧i≤l.length∧(UQ t→i=ZG l t)∧yw w w':=by
 have aE:=hl.max;have X:=yh hl.len;have HL:=yh hl;have HR:=yh hr;clear hr;have aj:=yh aq;clear aq;have HT:=yh ht;clear ht;obtain⟨q,U⟩:∃q,q=ZI l t:=⟨_,rfl⟩;rw[←U];have HQ:=yh U;clear U;have eg:=enters_of Tryz.func207 (by kernel_rfl) rfl;clear hl
 go_enter Tryz.func206,Tryz.ntmps206
 go_wp2_with fail
 go_loopg [9,10] n (fun gk vi vj wr=>∃i j:Nat,i≤j∧j≤n∧j - i≤gk∧vi=.int .i64 i∧vj=.int .i64 j∧Aside (UQ t→Zya l t i∧Vy l t j)∧yw w wr)
 case atStart=>exact⟨0,n,Nat.zero_le _,Nat.le_refl _,by omega,rfl,rfl,fun _=>⟨fun q b h=>absurd h (Nat.not_lt_zero _),fun q b h U=>by have:=(List.getElem?_eq_some_iff.1 U).1;have:=X.out;omega⟩,Below.refl _ _⟩
 case round=>
  obtain⟨i,j,aB,ar,aA,rfl,rfl,O,I⟩:=hrel
  by_cases hlt:i < j
  ·obtain⟨k,hk⟩:∃k:Nat,k=(i+j) / 2:=⟨_,rfl⟩
   have aC:i≤k:=by omega
   have aD:k < j:=by omega
   have HK:=yh hk;have aF:IntKind.i64.wrap ((i:Int)+j)=(i:Int)+j:=IntWalk.i64_in _ (by omega)
   go_upto_region 4 with(fail)
   go_cut [11] (fun v wx=>v=.int .i64 (k:Int)∧wr=wx)
   case first=>as_aux_lemma=>
    clear hk
    go_wp2_with fail
    go_meet
    exact⟨by congr 1;rw[HK.out];omega,rfl⟩
   obtain⟨rfl,rfl⟩:=hcut
   have ay:k < n:=by omega
   obtain⟨D,E,⟨id,af,ag,ad,lev,aa,ab,ac,upto,ah,al⟩,Y,n3,c3,hA,V,hF,hI,A⟩:=(HL.out.bel I).bkg ay;subst hA;have y0:yI wr D (E+k*11) id:=A 0 _ rfl;have y1:yI wr D (E+k*11+1) af:=A 1 _ rfl;have y2:yI wr D (E+k*11+2) ag:=A 2 _ rfl;have y3:yI wr D (E+k*11+3) ad:=A 3 _ rfl;have y4:wr.cell? ⟨D,E+k*11+4,none⟩=some (.bool lev):=A 4 _ rfl;have y5:yI wr D (E+k*11+5) aa:=A 5 _ rfl;have y6:yI wr D (E+k*11+6) ab:=A 6 _ rfl;have y7:yI wr D (E+k*11+7) ac:=A 7 _ rfl;have y8:yI wr D (E+k*11+8) upto:=A 8 _ rfl;have y9:yI wr D (E+k*11+9) ah:=A 9 _ rfl;have an:yJ wr D (E+k*11+10) Y n3 c3:=A 10 _ rfl;have aw:(0:Int)≤(k:Int):=Int.natCast_nonneg _
   have ax:(k:Int) < (n:Int):=by omega
   have av:=yh (aj.out _ (List.mem_of_getElem? V));have Q:=yh (fun W=>QSa ⟨id,af,ag,ad,lev,aa,ab,ac,upto,ah,al⟩ (.slice Y n3 c3) t W);obtain⟨z,hz⟩:∃z,z=wrap64 (id - t):=⟨_,rfl⟩
   have Z:=yh (show UQ t→z=id - t from fun F=>by
    have h1:=av.out;have h2:=F.1;have h3:=F.2;simp only at h1;rw[hz];exact IntWalk.wrap64_in _ (by omega))
   simp only at Q;rw[←hz]at Q;have HX:=yh V;clear V;clear A hF hI hz hk
   go_wp2_with fail
   refine(Q.out _).mono ?_;rintro e w1 ⟨rfl,ae⟩;replace I:=I.trans (ae.mono I.size);clear ae y0 y1 y2 y3 y4 y5 y6 y7 y8 y9 an
   by_cases hz0:z < 0
   ·have ai:=yh (show UQ t→Zya l t (k+1)∧Vy l t j from fun F=>by
     obtain⟨h1,h2⟩:=O F;refine⟨fun q b U J=>?_,h2⟩;have h3:=Z.out F
     rcases Nat.lt_or_ge q k with h4 | h4
     ·have h5:=HR.out q k b _ h4 J HX.out
      simp only at h5;omega
     ·obtain rfl:q=k:=by omega
      rw[HX.out]at J
      injection J with J
      subst J;simp only;omega)
    go_wp2_with fail
    go_roundg (j - (k+1))
    case measure=>omega
    case rel=>exact⟨k+1,j,by omega,ar,by omega,by go_num,rfl,ai.out,I⟩
   ·have ai:=yh (show UQ t→Zya l t i∧Vy l t k from fun F=>by
     obtain⟨h1,h2⟩:=O F;refine⟨h1,fun q b U J=>?_⟩;have h3:=Z.out F
     rcases Nat.lt_or_ge k q with h4 | h4
     ·have h5:=HR.out k q _ b h4 HX.out J
      simp only at h5;omega
     ·obtain rfl:q=k:=by omega
      rw[HX.out]at J
      injection J with J
      subst J;simp only;omega)
    go_wp2_with fail
    go_roundg (k - i)
    case measure=>omega
    case rel=>exact⟨i,k,by omega,by omega,by omega,rfl,rfl,ai.out,I⟩
  ·obtain rfl:i=j:=by omega
   have ak:=yh (show UQ t→i=ZG l t from fun F=>(Zkb (by rw[X.out];exact ar) (O F).1 (O F).2).symm)
   have ao:=yh (show ¬UQ t→q=false from fun F=>by
    rw[HQ.out]
    refine Qlc fun b J he=>F ?_
    have:=aj.out b J;exact⟨by omega,by omega⟩)
   by_cases hin:i < n
   ·obtain⟨D,E,⟨id,af,ag,ad,lev,aa,ab,ac,upto,ah,al⟩,Y,n3,c3,hA,V,hF,hI,A⟩:=(HL.out.bel I).bkg hin
    subst hA;have y0:yI wr D (E+i*11) id:=A 0 _ rfl;have y1:yI wr D (E+i*11+1) af:=A 1 _ rfl;have y2:yI wr D (E+i*11+2) ag:=A 2 _ rfl;have y3:yI wr D (E+i*11+3) ad:=A 3 _ rfl;have y4:wr.cell? ⟨D,E+i*11+4,none⟩=some (.bool lev):=A 4 _ rfl;have y5:yI wr D (E+i*11+5) aa:=A 5 _ rfl;have y6:yI wr D (E+i*11+6) ab:=A 6 _ rfl;have y7:yI wr D (E+i*11+7) ac:=A 7 _ rfl;have y8:yI wr D (E+i*11+8) upto:=A 8 _ rfl;have y9:yI wr D (E+i*11+9) ah:=A 9 _ rfl;have an:yJ wr D (E+i*11+10) Y n3 c3:=A 10 _ rfl;have aw:(0:Int)≤(i:Int):=Int.natCast_nonneg _
    have ax:(i:Int) < (n:Int):=by omega
    have Q:=yh (fun W=>QSa ⟨id,af,ag,ad,lev,aa,ab,ac,upto,ah,al⟩ (.slice Y n3 c3) t W);obtain⟨z,hz⟩:∃z,z=wrap64 (id - t):=⟨_,rfl⟩;have am:=hI.id;have au:=HT.out
    have Z:=yh (show z=0↔id=t from by
     rw[hz];simp only at am;unfold InI at am au
     constructor
     ·intro h0
      unfold wrap64 at h0;omega
     ·intro h0
      subst h0;rw[Int.sub_self];exact IntWalk.wrap64_in _ (by omega))
    simp only at Q;rw[←hz]at Q
    have ap:=yh (show q=decide (z=0)from by
     by_cases F:UQ t
     ·rw[HQ.out,Zwc HR.out (O F).1 (O F).2 V]
      simp only;exact decide_eq_decide.2 Z.out.symm
     ·rw[ao.out F,eq_comm,decide_eq_false_iff_not]
      intro h0;refine F ?_;have h1:=Z.out.1 h0;have h2:=aj.out _ (List.mem_of_getElem? V);simp only at h2;exact⟨by omega,by omega⟩)
    clear A hF hI hz am au V
    go_wp2_with fail
    refine(Q.out _).mono ?_;rintro e w1 ⟨rfl,ae⟩;replace I:=I.trans (ae.mono I.size);clear ae y0 y1 y2 y3 y4 y5 y6 y7 y8 y9 an
    by_cases hz0:z=0
    ·obtain rfl:q=true:=by rw[ap.out,decide_eq_true hz0]
     subst hz0
     go_wp2_with fail
     go_ret2
     exact⟨i,rfl,by have:=X.out;omega,ak.out,I⟩
    ·obtain rfl:q=false:=by rw[ap.out,decide_eq_false hz0]
     have az:(z == 0)=false:=by simpa using hz0
     clear hz0
     go_wp2_with fail
     go_ret2
     exact⟨i,rfl,by have:=X.out;omega,ak.out,I⟩
   ·obtain rfl:i=n:=by omega
    obtain rfl:q=false:=by
     by_cases F:UQ t
     ·rw[HQ.out];exact Zvc (by rw[X.out];exact(O F).1)
     ·exact ao.out F
    go_wp2_with fail
    go_ret2
    exact⟨i,rfl,by have:=X.out;omega,ak.out,I⟩
theorem Vs (x:Sai)(p:SaiV)(t:Int)(w:World)(hl:Sl Vb 11 w All p.C p.nb p.cb x.bks)(V:Xe x.bks)(Q:∀b∈x.bks,1≤b.id∧b.id≤999999)(U:x.bks.length≤16)(ht:InI t) :
  Calls Tryz.prog 141 #[.agg (Qa x p),.int .i64 t] w fun e w'=>∃i:Nat,e=.returned (.tuple #[.int .i64 (i:Int),.bool (ZI x.bks t)])∧i≤x.bks.length∧(UQ t→i=ZG x.bks t)∧yw w w':=by
 obtain⟨A,n,cap,B,m,ab,D,nd,cd,E,ne,ce,C,nb,cb⟩:=p;simp only at hl
 have ad:nb≤16:=by rw[←hl.len];exact U
 have X:=yh (fun W h=>Xib C nb cb x.bks t W h V Q ad ht);have HL:=yh hl;clear hl V Q U
 go_enter Tryz.func141,Tryz.ntmps141
 go_upto_region 0 with(fail)
 go_cut [2,4,5] (fun q _ _ wx=>∃g,q=.pointer (some ⟨g,0,none⟩)∧Blk wx g (Qa x ⟨A,n,cap,B,m,ab,D,nd,cd,E,ne,ce,C,nb,cb⟩) 32∧yw w wx)
 case first=>as_aux_lemma=>
  go_wp2_with fail
  go_meet
  exact⟨_,rfl,Za _ _,Qf _ _⟩
 obtain⟨g,rfl,J,F⟩:=hcut;have ae:yJ wc g 11 C nb cb:=J.cell rfl;have Y:=yh (X.out wc (HL.out.bel F));clear J
 go_wp2_with fail
 refine Y.out.mono ?_;rintro e w2 ⟨i,rfl,O,I,ac⟩;have aa:=yh I;have Z:=yh O;clear I O
 go_wp2_with fail
 go_ret2
 exact⟨i,rfl,Z.out,aa.out,F.trans (ac.mono F.size)⟩
def atI (l:List Bkg) (t:Int):Int:=Uq (fun b=>decide (b.id=t)) l
def avC {α:Type} (G:Nat→Prop) (c:Cod α):Cod α:=fun w S x cs=>c w (fun k=>S k∧¬G k) x cs
section
variable {α:Type} {c:Cod α} {size:Nat} {e:TypeId} {w w':World} {base:Nat} {v:Value} {l:List α} {xs:List Value} {G:Nat→Prop}
theorem Yda (D:Good c):Good (avC G c):=⟨fun h E=>D.keep h fun b A F=>⟨(E b A.1 F).1,(E b A.1 F).2,A.2⟩,fun h=>D.one h⟩
instance avK [k:CodK c size]:CodK (avC G c) size:=⟨Yda k.good,k.pos⟩
theorem Own.avoid (h:Own c size e w base v l xs)(I:Good c)(D:∀k,k < w.heap.size→¬G k):Own (avC G c) size e w base v l xs:=
 ⟨h.row,fun i x O=>by
  obtain⟨A,F,r⟩:=h.el i x O;exact⟨A,I.keep F fun b E J=>⟨rfl,E,D b J⟩,r⟩⟩
theorem Own.unav (h:Own (avC G c) size e w base v l xs)(F:Good c):Own c size e w base v l xs:=
 ⟨h.row,fun i x I=>by
  obtain⟨A,E,r⟩:=h.el i x I;exact⟨A,F.keep E fun b D J=>⟨rfl,D.1⟩,r⟩⟩
theorem Own.keptX {S:Nat→Prop}(h:Own (avC G c) size e w base v l xs)(W:Good c)(F:Kept S w w')(U:∀k,S k→G k)(Y:∀k,v.ownBlock=some k→¬S k):Own (avC G c) size e w' base v l xs:=by
 refine⟨⟨h.row.1,?_⟩,fun i x Z=>?_⟩
 ·rcases h.row.2 with Q | ⟨g,cap,O,I,A,E,r⟩
  ·exact .inl Q
  ·exact .inr ⟨g,cap,O,I,A,(F.block g (Array.getElem?_eq_some_iff.1 E).1 (Y g (by rw[I];rfl))).trans E,r⟩
 ·obtain⟨J,V,r⟩:=h.el i x Z
  exact⟨J,W.keep V fun b D X=>⟨F.block b X (fun A=>D.2 (U b A)),D⟩,r⟩
end
theorem Own.neTy {α:Type}{c:Cod α}{size:Nat}{e t:TypeId}{w:World}{base:Nat}{v:Value}{l:List α}{xs:List Value}{k:Nat}{D:Array Value}(h:Own c size e w base v l xs)(F:Blk w k D t)(J:t≠e):v.ownBlock≠some k:=by
 intro E
 rcases h.row.2 with⟨rfl,_⟩ | ⟨g,cap,O,rfl,_,I,_⟩
 ·simp[Value.ownBlock]at E
 ·obtain rfl:g=k:=by simpa [Value.ownBlock] using E
  have A:w.heap[g]? = some (.cells D t (0,0)):=F;rw[I]at A;simp only[Option.some.injEq,Obj.cells.injEq]at A;exact J A.2.1.symm
theorem Kept.thn {S T:Nat→Prop}{a b c:World}(h:Kept S a b)(k:Kept T b c)(E:∀i,i < a.heap.size→T i→S i):Kept S a c:=
 ⟨k.os.trans h.os,k.tape.trans h.tape,k.output.trans h.output,Nat.le_trans h.size k.size,fun i A D=>(k.block i (Nat.lt_of_lt_of_le A h.size) (fun F=>D (E i A F))).trans (h.block i A D)⟩
def XM (l:List Bkg) (b:Bkg):List Bkg:=l.take (ZG l b.id)++b::l.drop (ZG l b.id)
def QN (x:Sai) (b:Bkg):Sai:={ x with bks:=XM x.bks b }
theorem Yy (w0:World)(b0:Nat)(x:Sai)(p:SaiV)(b:Bkg)(A3:Option Addr)(n3 c3:Nat)(base:Nat)(w:World)(ho:SaiW w0 b0 w base x p)(bb:base≤w.heap.size)(hr:Xe x.bks)(aR:∀b∈x.bks,1≤b.id∧b.id≤999999)(aG:x.bks.length≤16)
  (hf:Sl Qw 3 w All A3 n3 c3 b.fol) (bg:n3≤1000000000) (hI:BkIn b) (a9:1≤b.id∧b.id≤999999) :
  Calls Tryz.prog 142 #[.agg (Qa x p),.agg (Qz b (.slice A3 n3 c3))] w fun e w'=>∃p',e=.returned (.agg (Qa (QN x b) p'))∧SaiW w0 b0 w' base (QN x b) p'∧Below base w w'∧Kept (fun k=>(Value.slice p.C p.nb p.cb).ownBlock=some k) w w':=by
 obtain⟨A,n,cap,B,m,aa,D,nd,cd,E,ne,ce,C,nb,cb⟩:=p;obtain⟨id,J,O,I,lev,bz,bA,F,upto,Q,Z⟩:=b;simp only at hf a9;obtain⟨k1,k2,k3,k4,k5,bx,k6⟩:=ho;simp only at k6;obtain⟨ac,ak⟩:∃q,q=w0.heap.size:=⟨_,rfl⟩;rw[←ak]at k2 k3 k4 k6;have aD:=yh (fun W hl=>Vs x ⟨A,n,cap,B,m,aa,D,nd,cd,E,ne,ce,C,nb,cb⟩ id W hl hr aR aG (.of (by omega) (by omega)));have aT:UQ id:=⟨by omega,by omega⟩;obtain⟨bo,bj⟩:∃V,V=w:=⟨_,rfl⟩;have HF:=yh hf;clear hf;have a1:=yh k4;clear k4;have ab:=yh k5;clear k5;have aV:=yh ak;clear ak;have a3:=yh aG;have aZ:=yh hI;have bq:=yh (show ZG x.bks id≤x.bks.length from List.findIdx_le_length);clear hr aR hI bj bo
 go_enter Tryz.func142,Tryz.ntmps142
 go_upto_region 0 with(fail)
 go_cut [2,3,4] (fun p p2 p3 wx=>∃g h z,p=.pointer (some ⟨g,0,none⟩)∧p2=.pointer (some ⟨h,0,none⟩)∧p3=.pointer (some ⟨z,0,none⟩)∧w.heap.size≤g∧w.heap.size≤h∧w.heap.size≤z∧g≠h∧g≠z∧h≠z∧Blk wx g (Qa x ⟨A,n,cap,B,m,aa,D,nd,cd,E,ne,ce,C,nb,cb⟩) 32∧Blk wx h (Qz ⟨id,J,O,I,lev,bz,bA,F,upto,Q,Z⟩ (.slice A3 n3 c3)) 63∧Blk wx z #[.int .i64 0,.int .i64 0,.slice none 0 0,.slice none 0 0,.slice none 0 0,.int .i64 0,.int .i64 0,.slice none 0 0,.int .i64 0,.int .i64 0,.int .i64 0,.slice none 0 0,.bool false] 32∧yw w wx)
 case first=>as_aux_lemma=>
  go_wp2_with fail
  go_meet
  exact⟨_,_,_,rfl,rfl,rfl,Nat.le_refl _,by omega,by omega,by omega,by omega,by omega,Yd _ _ _ _,Ye _ _ _ _,Yf _ _ _ _,Q8a _ _ _ _⟩
 obtain⟨g,h,z,rfl,rfl,rfl,hg,hh,hz,bc,bd,bt,hG,hH,hZ,hb⟩:=hcut;have an:=(k6.avoid Zi (G:=(fun k=>k=g∨k=h∨k=z)) (fun k hk=>by omega)).bel hb;have bf:=an.lt;have aC:=yh (fun k (hk:(Value.slice C nb cb).ownBlock=some k)=>(show k < w.heap.size from(k6.lt k hk).2));have a5:=yh (fun k (hk:(Value.slice C nb cb).ownBlock=some k)=>(show ac≤k from(k6.lt k hk).1));have aE:=yh (show Sl Vb 11 wc All C nb cb x.bks from(an.unav Zi).slAll Zi YE (by omega) (fun h=>Q9a h) rfl);have s0:yI wc g 0 x.ship.legs:=hG.cell rfl;have s1:yI wc g 1 x.ship.souls:=hG.cell rfl;have s2:yJ wc g 2 A n cap:=hG.cell rfl;have s3:yJ wc g 3 B m aa:=hG.cell rfl;have s4:yJ wc g 4 D nd cd:=hG.cell rfl;have s5:yI wc g 5 x.fares.alone:=hG.cell rfl;have s6:yI wc g 6 x.fares.third:=hG.cell rfl;have s7:yJ wc g 7 E ne ce:=hG.cell rfl;have s8:yI wc g 8 x.fares.down:=hG.cell rfl;have s9:yI wc g 9 x.day:=hG.cell rfl;have bl:yI wc g 10 x.leaves:=hG.cell rfl;have bm:yJ wc g 11 C nb cb:=hG.cell rfl;have bn:wc.cell? ⟨g,12,none⟩=some (.bool x.closed):=hG.cell rfl;have z0:yI wc h 0 id:=hH.cell rfl;have az:=yh (aD.out wc aE.out);have HG:=yh hG;clear hG;have HH:=yh hH;clear hH;have HZ:=yh hZ;clear hZ;have HO:=yh an;clear an;have bk:=hb.size;have HB:=yh hb;clear bf k6 hb
 go_wp2_with fail
 refine az.out.mono ?_;rintro e w2 ⟨i,rfl,hi,hp,ag⟩;obtain rfl:i=ZG x.bks id:=hp aT;obtain⟨i,aw⟩:∃i,i=ZG x.bks id:=⟨_,rfl⟩;rw[←aw]at hi ⊢;have aY:=yh aw;clear aw;have a0:=yh hi;clear hi;have hG:=HG.out.bel ag;have hH:=HH.out.bel ag;have hZ:=HZ.out.bel ag;have hO:=HO.out.bel ag;have al:=HB.out.trans (ag.mono HB.out.size);clear s0 s1 s2 s3 s4 s5 s6 s7 s8 s9 bl bm bn z0 az hp HG HH HZ HO HB ag bk aD aE aT;obtain⟨W2,a8⟩:∃V,V=w2:=⟨_,rfl⟩;subst a8;have bv:=al.size;have af:=yh (show ∀X,Blk X h (Qz ⟨id,J,O,I,lev,bz,bA,F,upto,Q,Z⟩ (.slice A3 n3 c3)) 63→(fun w'=>yI w' h 0 id∧yI w' h 1 J∧yI w' h 2 O∧yI w' h 3 I∧w'.cell? ⟨h,4,none⟩=some (.bool lev)∧yI w' h 5 bz∧yI w' h 6 bA∧yI w' h 7 F∧yI w' h 8 upto∧yI w' h 9 Q∧yJ w' h 10 A3 n3 c3) X from fun X hX=>⟨hX.cell rfl,hX.cell rfl,hX.cell rfl,hX.cell rfl,hX.cell rfl,hX.cell rfl,hX.cell rfl,hX.cell rfl,hX.cell rfl,hX.cell rfl,hX.cell rfl⟩);have aW:=yh (fun X (hX:yw W2 X)=>ZAa ⟨id,J,O,I,lev,bz,bA,F,upto,Q,Z⟩ A3 n3 c3 X (HF.out.bel (al.trans (hX.mono al.size))) bg);have l1:yJ W2 g 11 C nb cb:=hG.cell rfl
 have bu:ac≤W2.heap.size:=by omega
 have aA:=yh hG;clear hG;have ae:=yh hH;clear hH;have aF:=yh hZ;clear hZ;have a4:=yh hO;clear hO;have ay:=yh al;clear al
 go_upto_region 2 with(fail)
 go_cut [2] (fun q wx=>q=.pointer (some ⟨g,0,none⟩)∧∃C1 Y bB ad,Blk wx g (Qa (QN x ⟨id,J,O,I,lev,bz,bA,F,upto,Q,Z⟩) ⟨A,n,cap,B,m,aa,D,nd,cd,E,ne,ce,C1,Y,bB⟩) 32∧Own (avC (fun k=>k=g∨k=h∨k=z) Vj) 11 63 wx ac (.slice C1 Y bB) (XM x.bks ⟨id,J,O,I,lev,bz,bA,F,upto,Q,Z⟩) ad∧Blk wx z #[.int .i64 0,.int .i64 0,.slice none 0 0,.slice none 0 0,.slice none 0 0,.int .i64 0,.int .i64 0,.slice none 0 0,.int .i64 0,.int .i64 0,.int .i64 0,.slice none 0 0,.bool false] 32∧Kept (fun k=>(Value.slice C nb cb).ownBlock=some k) w wx)
 case first=>
  have U:yw W2 W2.drew:=(Below.refl _ W2).drew;refine wp_region_held_drew (S:=(fun w'=>yI w' h 0 id∧yI w' h 1 J∧yI w' h 2 O∧yI w' h 3 I∧w'.cell? ⟨h,4,none⟩=some (.bool lev)∧yI w' h 5 bz∧yI w' h 6 bA∧yI w' h 7 F∧yI w' h 8 upto∧yI w' h 9 Q∧yJ w' h 10 A3 n3 c3)) (by kernel_rfl) (af.out _ (ae.out.bel U)) (fun ai=>?_);refine yT [0,2,3] (by kernel_rfl) (by assumption) ?_
  iterate 3 (refine yS (v:=?_) (gA rfl) (fun _ _ _ h=>h) rfl ?_ ?_;rotate_left;(focus (intro w av;(try dsimp only at av);go_simp<;>with_reducible rfl));simp only[yP,yA,yB,yC])
  focus
   refine Qja 1 4 (by kernel_rfl) (gA rfl) (gA rfl) (fun K k1=>?_) (fun K k4=>?_)
   repeat first
    |
     revert k1
     intro hK;go_simp
     refine hK.out _ _ (af.out _ (ae.out.bel U)) fun ai=>?_
     clear hK K
     try simp only[yP,yQ,yA,yB,yC]
     first
      | refine UF 4 (by(fail_if_success (fail_if_success decide +kernel));kernel_rfl) (gA rfl) (fun K k4=>?_)
      | refine UF 5 (by(fail_if_success (fail_if_success decide +kernel));kernel_rfl) (gA rfl) (fun K k5=>?_)
      | rotate_left
    |
     revert k4
     intro hK;go_simp
     (go_at_call 171;refine(aW.out _ U).mono ?_;rintro e w6 ⟨v6,bp,rfl,ar,ba⟩;obtain⟨A5,n5,c5,rfl,_⟩:=ar.sl Qd;replace U:=U.trans (ba.mono U.size);have l2:=Qg U l1)
     go_wp2_with fail
     refine hK.out _ _ (af.out _ (ae.out.bel U)) fun ai=>?_
     clear hK K
     try simp only[yP,yQ,yA,yB,yC]
     first
      | refine Qja 1 5 (by(fail_if_success (fail_if_success decide +kernel));kernel_rfl) (gA rfl) (gA rfl) (fun K k1=>?_) (fun K k5=>?_)
      | refine UF 5 (by(fail_if_success (fail_if_success decide +kernel));kernel_rfl) (gA rfl) (fun K k5=>?_)
    |
     revert k5
     intro hK;go_simp
     refine hK.out _ _ (af.out _ (ae.out.bel (U.alloc U.size (.cells #[.int .i64 id,.int .i64 J,.int .i64 O,.int .i64 I,.bool lev,.int .i64 bz,.int .i64 bA,.int .i64 F,.int .i64 upto,.int .i64 Q,.slice A5 n5 c5] 63)))) fun ai=>?_
     clear hK K
     try simp only[yP,yQ,yA,yB,yC]
     (have bh:=U.size;replace U:=U.alloc U.size (.cells #[.int .i64 id,.int .i64 J,.int .i64 O,.int .i64 I,.bool lev,.int .i64 bz,.int .i64 bA,.int .i64 F,.int .i64 upto,.int .i64 Q,.slice A5 n5 c5] 63);have l3:=Qg U l1)
     first
      | refine UF 1 (by(fail_if_success (fail_if_success decide +kernel));kernel_rfl) (gA rfl) (fun K k1=>?_)
      | rotate_left
   all_goals
    have aM:=a4.out.bel U
    have ax:∀k,w.heap.size≤k→¬((Value.slice C nb cb).ownBlock=some k):=fun k hk e=>by have:=aC.out k e;omega
    have aS:∀k,W2.heap.size≤k→some k≠(Value.slice C nb cb).ownBlock:=fun k hk e=>by have:=aC.out k e.symm;omega
    have br:=aA.out.lt;have bs:=ae.out.lt;have bw:=aF.out.lt
    have aQ:avC (fun k=>k=g∨k=h∨k=z) Vj (w6.alloc (.cells #[.int .i64 id,.int .i64 J,.int .i64 O,.int .i64 I,.bool lev,.int .i64 bz,.int .i64 bA,.int .i64 F,.int .i64 upto,.int .i64 Q,.slice A5 n5 c5] 63)) (QO ac (.slice C nb cb)) ⟨id,J,O,I,lev,bz,bA,F,upto,Q,Z⟩ (Qz ⟨id,J,O,I,lev,bz,bA,F,upto,Q,Z⟩ (.slice A5 n5 c5)).toList:=⟨_,rfl,⟨bp,(ar.bel (Qf w6 _)).mono Qd (Nat.zero_le _),fun k hk=>by
     have h1:=(ar.lt k hk).1;have h2:W2.heap.size≤k:=h1;exact⟨⟨by omega,aS k h2⟩,by omega⟩⟩,aZ.out⟩
    have aN:Blk (w6.alloc (.cells #[.int .i64 id,.int .i64 J,.int .i64 O,.int .i64 I,.bool lev,.int .i64 bz,.int .i64 bA,.int .i64 F,.int .i64 upto,.int .i64 Q,.slice A5 n5 c5] 63)) w6.heap.size (Qz ⟨id,J,O,I,lev,bz,bA,F,upto,Q,Z⟩ (.slice A5 n5 c5)).toList.toArray 63:=Blk.new w6 _ _;have a6:=yh (Qub (Yda Zi) aM a0.out (by have:=a3.out;omega) (by have:=U.size;omega) aN rfl aQ ⟨by omega,aS _ bh⟩);clear aM aQ aN
    refine yR 6 (by kernel_rfl) (gA rfl) fun K hK=>?_
    go_simp
    (go_at_call 208;refine a6.out.mono ?_;rintro e w7 ⟨C1,Y,bB,ad,rfl,au,aj⟩;have ap:=(ae.out.bel U).kept aj (ax h hh);have ah:=(aA.out.bel U).kept aj (ax g hg);have aO:=(aF.out.bel U).kept aj (ax z hz);have m2:yJ w7 g 11 C nb cb:=ah.cell rfl;have mf:=ah.free 11)
    go_wp2_with fail
    refine hK.out _ _ (af.out _ ap) fun ai=>?_
    clear hK K
    try simp only[yP,yQ,yA,yB,yC]
    refine yT [7] (by kernel_rfl) (by assumption) ?_
    iterate 1 (refine yS (v:=?_) (gA rfl) (fun _ _ _ h=>h) rfl ?_ ?_;rotate_left;(focus (intro w av;(try dsimp only at av);go_simp<;>with_reducible rfl));simp only[yP,yA,yB,yC])
    refine yR 8 (by kernel_rfl) (gA rfl) fun K hK=>?_
    go_simp
    refine hK.out _ _ (af.out _ (ap.other (p:=⟨g,11,none⟩) bc _)) fun ai=>?_
    clear hK K
    try simp only[yP,yQ,yA,yB,yC]
    have am:Kept (fun k=>k=g) w7 (w7.setCell ⟨g,11,none⟩ (.slice C1 Y bB)):=(Kept.refl (fun k=>k=g) w7).setCell (p:=⟨g,11,none⟩) (.inl rfl) _;have aU:=au.neTy ah (by decide);have p2:=ah.set (j:=11) (.slice C1 Y bB);have p3:=aO.kept am (fun e=>bd e.symm);have p1:Own (avC (fun k=>k=g∨k=h∨k=z) Vj) 11 63 (w7.setCell ⟨g,11,none⟩ (.slice C1 Y bB)) ac (.slice C1 Y bB) (x.bks.take i++⟨id,J,O,I,lev,bz,bA,F,upto,Q,Z⟩::x.bks.drop i) ad:=au.keptX Zi am (fun k hk=>.inl hk) (fun k hk e=>aU (by rw[hk,e]));have p4:Kept (fun k=>(Value.slice C nb cb).ownBlock=some k) w (w7.setCell ⟨g,11,none⟩ (.slice C1 Y bB)):=((Kept.of_below (ay.out.trans (U.mono ay.out.size)) (fun k hk h2=>by omega)).thn aj (fun k _ hk=>hk)).thn am (fun k hk be=>by omega);clear au aj ap ah aO m2 mf am aU;refine wpAnyH_done (by kernel_rfl) ?_ _
    go_wp2_with fail
    go_meet
    exact⟨rfl,C1,Y,bB,ad,p2,by rw[aY.out]at p1;exact p1,p3,p4⟩
 obtain⟨rfl,C1,Y,bB,ad,aH,aL,aP,aI⟩:=hcut;have aX:=yh aH;clear aH;have ao:=yh aP;clear aP;have aB:=yh aL;clear aL;have a2:=yh aI;clear aI
 go_wp2_with (first | (refine wpList_load_row rfl 32 (.tmp 2) rfl g rfl 32 _ (0,0) _ aX.out Tryz.underlying32 rfl (by kernel_rfl) ?_) | (refine wpList_store_row rfl 32 (.tmp 4) (.tmp 22) rfl z (Qa (QN x ⟨id,J,O,I,lev,bz,bA,F,upto,Q,Z⟩) ⟨A,n,cap,B,m,aa,D,nd,cd,E,ne,ce,C1,Y,bB⟩) rfl rfl 32 _ ao.out (by kernel_rfl) rfl (by simp[Value.oneCell']) ?_))
 refine bodyPost_ret (v:=.agg (Qa (QN x ⟨id,J,O,I,lev,bz,bA,F,upto,Q,Z⟩) ⟨A,n,cap,B,m,aa,D,nd,cd,E,ne,ce,C1,Y,bB⟩)) ((ao.out.row _).ret (k:=4) (by kernel_rfl) rfl Tryz.underlying32 (by kernel_rfl) (by kernel_rfl)) rfl ?_;have aK:Kept (fun k=>k=z) wc (wc.setRow z (Qa (QN x ⟨id,J,O,I,lev,bz,bA,F,upto,Q,Z⟩) ⟨A,n,cap,B,m,aa,D,nd,cd,E,ne,ce,C1,Y,bB⟩)):=(Kept.refl (fun k=>k=z) wc).setRow (.inl rfl) _;have bi:=aB.out.neTy ao.out (by decide);have a7:Own Vj 11 63 (wc.setRow z (Qa (QN x ⟨id,J,O,I,lev,bz,bA,F,upto,Q,Z⟩) ⟨A,n,cap,B,m,aa,D,nd,cd,E,ne,ce,C1,Y,bB⟩)) ac (.slice C1 Y bB) (XM x.bks ⟨id,J,O,I,lev,bz,bA,F,upto,Q,Z⟩) ad:=(aB.out.keptX Zi aK (fun k hk=>.inr (.inr hk)) (fun k hk e=>bi (by rw[hk,e]))).unav Zi;have aJ:Kept (fun k=>(Value.slice C nb cb).ownBlock=some k) w (wc.setRow z (Qa (QN x ⟨id,J,O,I,lev,bz,bA,F,upto,Q,Z⟩) ⟨A,n,cap,B,m,aa,D,nd,cd,E,ne,ce,C1,Y,bB⟩)):=a2.out.thn aK (fun k hk be=>by omega)
 have aq:Kept (fun k=>ac≤k) w (wc.setRow z (Qa (QN x ⟨id,J,O,I,lev,bz,bA,F,upto,Q,Z⟩) ⟨A,n,cap,B,m,aa,D,nd,cd,E,ne,ce,C1,Y,bB⟩)):=aJ.mono fun k _ hk=>a5.out k hk
 have ak:=aV.out;subst ak;refine⟨⟨A,n,cap,B,m,aa,D,nd,cd,E,ne,ce,C1,Y,bB⟩,rfl,⟨k1,k2,Nat.le_trans k3 aq.size,fun j hj hl=>?_,?_,ad,a7⟩,aq.below bb (fun k hk=>by omega),aJ⟩
 ·exact(aq.block j (by omega) (by omega)).trans (a1.out j hj hl)
 ·exact⟨ab.out.cats,ab.out.cabs,ab.out.leg,ab.out.bands,ab.out.a,ab.out.t,ab.out.d⟩
theorem VEa (x:Sai)(p:SaiV)(b:Bkg)(E:Option Addr)(A F:Nat)(base:Nat)(w:World)(I:SaiO w base x p)(W:base≤w.heap.size)(hr:Xe x.bks)(Y:∀b∈x.bks,1≤b.id∧b.id≤999999)(Q:x.bks.length≤16)
  (X:Sl Qw 3 w All E A F b.fol) (Z:A≤1000000000) (U:BkIn b) (V:1≤b.id∧b.id≤999999) :
  Calls Tryz.prog 142 #[.agg (Qa x p),.agg (Qz b (.slice E A F))] w fun e w'=>∃D,e=.returned (.agg (Qa (QN x b) D))∧SaiO w' base (QN x b) D∧Below base w w':=by
 obtain⟨O,J,I⟩:=I
 exact(Yy O J x p b E A F base w I W hr Y Q X Z U V).mono fun e w' ⟨D,h1,h2,h3,_⟩=>⟨D,h1,⟨O,J,h2⟩,h3⟩
def mst (l:List Int):Int:=max 0 (mx l)
theorem X7b {l:List Int}{k:Nat}{x:Int}(h:l[k]? = some x):mst (l.take (k+1))=max (mst (l.take k)) x:=by
 unfold mst;rw[Qn h,Udb];omega
theorem X6b (A:Option Addr)(n cap:Nat)(l:List Int)(w:World)(h:Sl QL 1 w All A n cap l)(I:∀x∈l,-1000000000000000≤x∧x≤1000000000000000) :
  Calls Tryz.prog 150 #[.slice A n cap] w fun e w'=>e=.returned (.int .i64 (mst l))∧∃q,w'=w.drewN q:=by
 have Z:=h.bd;have Q:=yh h.len;have U:=yh h;have V:=yh I;clear I;clear h
 go_enter Tryz.func150,Tryz.ntmps150
 go_wp2_with fail
 go_loopg [3,4] n (fun gk v i wr=>∃k:Nat,k≤n∧n - k≤gk∧i=.int .i64 k∧v=.int .i64 (mst (l.take k))∧wr=w)
 case atStart=>exact⟨0,Nat.zero_le _,by omega,rfl,rfl,rfl⟩
 case round=>
  obtain⟨k,hk,aa,rfl,rfl,rfl⟩:=hrel;obtain⟨M,hM⟩:∃M,M=mst (l.take k):=⟨_,rfl⟩;rw[←hM]
  by_cases hlt:k < n
  ·obtain⟨b,ad,y,X,rfl,O,⟨J,_⟩,Y⟩:=U.out.at1 hlt
   simp only[List.cons.injEq,and_true]at J;subst J;have E:=X7b O;rw[←hM]at E;have F:=yh E;clear E;have W:=yh hM;clear hM;clear O;have ab:(0:Int)≤(k:Int):=Int.natCast_nonneg _
   have ac:(k:Int) < (n:Int):=by omega
   by_cases hgt:M < y
   ·have D:=yh (show mst (l.take (k+1))=y by rw[F.out];omega)
    go_wp2_with fail
    go_roundg (n - (k+1))
    case measure=>omega
    case rel=>exact⟨k+1,by omega,by omega,by go_num,by rw[D.out],rfl⟩
   ·have D:=yh (show mst (l.take (k+1))=M by rw[F.out];omega)
    go_wp2_with fail
    go_roundg (n - (k+1))
    case measure=>omega
    case rel=>exact⟨k+1,by omega,by omega,by go_num,by rw[D.out],rfl⟩
  ·obtain rfl:k=n:=by omega
   have D:=yh (show M=mst l by rw[hM,List.take_of_length_le (Nat.le_of_eq Q.out)]);clear hM
   go_wp2_with fail
   go_ret
   exact⟨ZH D.out,0,rfl⟩
theorem UXb {l:List Bkg}{c:Nat}(F:V5b l):(ZK l (c:Int) && decide ((YB l (c:Int)).length=0))=QR l c:=by
 have D:(spL l (c:Int)).length=0↔QR l c=true:=by
  unfold spL QR;rw[List.length_map,List.length_eq_zero_iff,List.filter_eq_nil_iff]
  simp
 cases hq:spF (spL l (c:Int))with
 | none=>
  have A:ZK l (c:Int)=false:=by unfold ZK;rw[hq];rfl
  rw[A,Bool.false_and]
  cases he:QR l c with
  | false=>rfl
  | true=>
   have:=List.eq_nil_of_length_eq_zero (D.2 he);rw[this]at hq
   cases hq
 | some o=>
  obtain⟨A,E⟩:=UL hq;have I:=(Xx (fun x J=>(XYa F x J).2.1) hq).1;rw[A,E,Bool.true_and,I.length_eq]
  cases he:QR l c with
  | true=>exact decide_eq_true (D.2 he)
  | false=>exact decide_eq_false fun h=>by rw[D.1 h]at he;cases he
theorem Usa (x:Sai)(p:SaiV)(w:World)(h:SaiR w x p)(ho:OkShp x.ship)(hk:∀b∈x.bks,OkBk x.ship b)(a9:x.bks.length≤16) :
  Calls Tryz.prog 152 #[.agg (Qa x p)] w fun e w'=>∃v1 v2 ai bY,e=.returned (.tuple #[v1,v2])∧Own QL 1 3 w' w.heap.size v1 (Z5 x) ai∧Own UM 2 94 w' w.heap.size v2 (Zd x) bY∧yw w w':=by
 obtain⟨A,n,cap,B,m,ay,D,nd,cd,E,ne,ce,C,nb,cb⟩:=p;have hl:Sl Vb 11 w All C nb cb x.bks:=h.bks;have hc:Sl Um 2 w All A n cap x.ship.cats:=h.cats;have hd:Sl ZW 4 w All B m ay x.ship.cabs:=h.cabs;have bn:=yh (fun b v (k:Nat) W h1 h2 h3 h4 h5=>X4 x.ship A n cap B m ay b v k W h1 h2 ho h3 h4 h5);have bt:=yh (fun(c:Int) W hW=>Zza C nb cb x.bks c W hW (YL ho hk));have bo:=yh (fun c:Nat=>UXb (c:=c) (YL ho hk));have HN:=yh hl.len
 have bT:nb≤16:=by rw[←hl.len];exact a9
 have bF:m≤12:=by rw[←hd.len];exact ho.cabs12
 have br:=yh hc.len;have HM:=yh hd.len;have HL:=yh hl;have HC:=yh hc;have HD:=yh hd;have HK:=yh hk;clear hk;clear h hl hc hd a9
 go_enter Tryz.func152,Tryz.ntmps152
 go_upto_region 0 with(fail)
 go_cut [1,2,3] (fun q _ _ wx=>∃g,q=.pointer (some ⟨g,0,none⟩)∧Blk wx g (Qa x ⟨A,n,cap,B,m,ay,D,nd,cd,E,ne,ce,C,nb,cb⟩) 32∧yw w wx)
 case first=>as_aux_lemma=>
  go_wp2_with fail
  go_meet
  exact⟨_,rfl,Za _ _,Qf _ _⟩
 obtain⟨g,rfl,hG,bc⟩:=hcut;obtain⟨W0,bC⟩:∃W,W=wc:=⟨_,rfl⟩;subst bC;have bM:=yh hG.lt;have HG:=yh hG;clear hG;have ak:=yh bc;clear bc
 go_wp2_with fail
 go_loopg [4,5,6] nb (fun gk v1 v2 i wr=>∃(k:Nat) (ai bY:List Value),k≤nb∧nb - k≤gk∧i=.int .i64 k∧Own QL 1 3 wr W0.heap.size v1 ((QV x k).map (·.id)) ai∧Own UM 2 94 wr W0.heap.size v2 (Zs x (QV x k) 0) bY∧Apart v1 v2∧yw W0 wr)
 case atStart=>exact⟨0,[],[],Nat.zero_le _,by omega,rfl,Own.nil _ _ _ _ _,Own.nil _ _ _ _ _,Apart.nilL _,Below.refl _ _⟩
 case round=>
  obtain⟨k,ai,bY,hk,bQ,rfl,J,F,al,hb⟩:=hrel;obtain⟨A1,n1,c1,rfl,aZ⟩:=J.sl Qb;obtain⟨A2,n2,c2,rfl,bh⟩:=F.sl Qx;have hG:=HG.out.bel hb
  by_cases hlt:k < nb
  ·have aX:n1=(QV x k).length:=by have:=aZ.len;rw[List.length_map]at this;exact this.symm
   have ah:=ak.out.trans (hb.mono ak.out.size);obtain⟨ab,ac,⟨id,X,Y,bX,lev,Q,U,V,upto,Z,aa⟩,A3,n3,c3,hA,hx,hF,hI,ad⟩:=(HL.out.bel ah).bkg hlt;subst hA;simp only at hF;have y0:yI wr ab (ac+k*11) id:=ad 0 _ rfl;have y1:yI wr ab (ac+k*11+1) X:=ad 1 _ rfl;have y2:yI wr ab (ac+k*11+2) Y:=ad 2 _ rfl;have y3:yI wr ab (ac+k*11+3) bX:=ad 3 _ rfl;have y4:wr.cell? ⟨ab,ac+k*11+4,none⟩=some (.bool lev):=ad 4 _ rfl;have y5:yI wr ab (ac+k*11+5) Q:=ad 5 _ rfl;have y6:yI wr ab (ac+k*11+6) U:=ad 6 _ rfl;have y7:yI wr ab (ac+k*11+7) V:=ad 7 _ rfl;have y8:yI wr ab (ac+k*11+8) upto:=ad 8 _ rfl;have y9:yI wr ab (ac+k*11+9) Z:=ad 9 _ rfl;have bL:yJ wr ab (ac+k*11+10) A3 n3 c3:=ad 10 _ rfl;clear ad;have ao:yJ wr g 11 (some ⟨ab,ac,none⟩) nb cb:=hG.cell rfl
   go_upto_region 6 with(fail)
   go_cut [7] (fun p1 wx=>∃z,p1=.pointer (some ⟨z,0,none⟩)∧wr.heap.size≤z∧Blk wx z (Qz ⟨id,X,Y,bX,lev,Q,U,V,upto,Z,aa⟩ (.slice A3 n3 c3)) 63∧yw wr wx)
   case first=>as_aux_lemma=>
    go_wp2_with fail
    go_meet
    exact⟨_,rfl,Nat.le_refl _,Za _ _,Qf _ _⟩
   obtain⟨z,rfl,bU,hZ,aF⟩:=hcut;clear y0 y1 y2 y3 y4 y5 y6 y7 y8 y9 bL aZ bh hF ao hG;have be:=J.lt;have bf:=F.lt
   have bl:(Value.slice A1 n1 c1).ownBlock≠some z:=fun e=>by have:=(be z e).2;omega
   have bm:(Value.slice A2 n2 c2).ownBlock≠some z:=fun e=>by have:=(bf z e).2;omega
   replace J:=J.bel aF;replace F:=F.bel aF;replace hb:=hb.trans (aF.mono hb.size);have aH:=UV hx;have bG:=Xba x k;have bs:=yh (HK.out _ (List.mem_of_getElem? hx));obtain⟨q,hq⟩:∃q,q=QI ⟨id,X,Y,bX,lev,Q,U,V,upto,Z,aa⟩:=⟨_,rfl⟩;have aq:=yh (fun W=>Q1b ⟨id,X,Y,bX,lev,Q,U,V,upto,Z,aa⟩ (.slice A3 n3 c3) W);rw[←hq]at aq aH;obtain⟨I,bb⟩:∃I,I=QV x k:=⟨_,rfl⟩;rw[←bb]at J F aX bG aH;have a6:=yh aH;clear aH;have HQ:=yh hq;clear hq;have bq:=yh aX;clear aX;have aV:=hI.id;simp only at aV;have bD:=yh aV;have z0:yI wc z 0 id:=hZ.cell rfl;have z1:yI wc z 1 X:=hZ.cell rfl;have z2:yI wc z 2 Y:=hZ.cell rfl;have z3:yI wc z 3 bX:=hZ.cell rfl;have z4:wc.cell? ⟨z,4,none⟩=some (.bool lev):=hZ.cell rfl;have z5:yI wc z 5 Q:=hZ.cell rfl;have z6:yI wc z 6 U:=hZ.cell rfl;have z7:yI wc z 7 V:=hZ.cell rfl;have z8:yI wc z 8 upto:=hZ.cell rfl;have z9:yI wc z 9 Z:=hZ.cell rfl;have a2:wc.cell? ⟨z,10,none⟩=some ((.slice A3 n3 c3)):=hZ.cell rfl;have ae:=yh J;clear J;have af:=yh F;clear F;have aj:=yh al;clear al;have bN:=yh bl;clear bl;have bz:=yh bm;clear bm;clear hx hI aF bb be bf aV ah
   go_wp2_with fail
   refine(aq.out _).mono ?_;rintro e w3 ⟨rfl,az⟩;replace hb:=hb.trans (az.mono hb.size);have hZ:=hZ.bel az;have J:=ae.out.bel az;have F:=af.out.bel az;have bV:=hZ.lt;clear az z0 z1 z2 z3 z4 z5 z6 z7 z8 z9 a2 aq ae af
   cases q
   ·have HV:=yh (a6.out.trans (by simp:_=I))
    have ae:=yh J;clear J;have af:=yh F;clear F;clear hZ
    go_wp2_with fail
    go_roundg (nb - (k+1))
    case measure=>omega
    case rel=>exact⟨k+1,ai,bY,by omega,by omega,by go_num,by rw[HV.out];exact ae.out,by rw[HV.out];exact af.out,aj.out,hb⟩
   ·have HV:=yh (a6.out.trans (by simp:_=I++[⟨id,X,Y,bX,lev,Q,U,V,upto,Z,aa⟩]))
    have a4:=yh (YQa bs.out HQ.out.symm);obtain⟨ln,aW⟩:∃ln:Nat,ln=n1:=⟨_,rfl⟩;have a7:=yh (aW.trans bq.out);have bp:=yh aW;have ae:=yh J;clear J;have af:=yh F;clear F;have HZ:=yh hZ;clear hZ;have HB:=yh hb;clear hb;clear aW
    go_wp2_with fail
    go_loopg [5,8] m (fun bB v2 i aJ=>∃(j:Nat) (bY:List Value),j≤m∧m - j≤bB∧i=.int .i64 j∧Own QL 1 3 aJ W0.heap.size (.slice A1 n1 c1) (I.map (·.id)) ai∧Own UM 2 94 aJ W0.heap.size v2 (Zs x I 0++toE I.length (Uw x ⟨id,X,Y,bX,lev,Q,U,V,upto,Z,aa⟩ j)) bY∧Apart (.slice A1 n1 c1) v2∧v2.ownBlock≠some z∧Blk aJ z (Qz ⟨id,X,Y,bX,lev,Q,U,V,upto,Z,aa⟩ (.slice A3 n3 c3)) 63∧yw W0 aJ)
    case atStart=>exact⟨0,_,Nat.zero_le _,by omega,rfl,ae.out,by show Own _ _ _ _ _ _ (_++[]) _;rw[List.append_nil];exact af.out,aj.out,bz.out,HZ.out,HB.out⟩
    case round=>
     obtain⟨j,bY,hj,bP,rfl,J,F,al,aY,hZ,hb⟩:=hrel;obtain⟨A4,n4,c4,rfl,a0⟩:=F.sl Qx
     have bS:n4≤1000:=by
      have h1:=a0.len;have h2:=Yi x I 0;have h3:=UTa x ⟨id,X,Y,bX,lev,Q,U,V,upto,Z,aa⟩ j;have h4:I.length*x.ship.cabs.length≤16*12:=Nat.mul_le_mul (by omega) (by rw[HM.out];exact bF);rw[List.length_append]at h1;unfold toE at h1;rw[List.length_map]at h1;omega
     have hG:=HG.out.bel hb;have s3:yJ wr g 3 B m ay:=hG.cell rfl;have ao:yJ wr g 11 (some ⟨ab,ac,none⟩) nb cb:=hG.cell rfl
     by_cases hlj:j < m
     ·have ah:=ak.out.trans (hb.mono ak.out.size)
      have aI:=V7a x ⟨id,X,Y,bX,lev,Q,U,V,upto,Z,aa⟩ j;have au:=bn.out ⟨id,X,Y,bX,lev,Q,U,V,upto,Z,aa⟩ (.slice A3 n3 c3) j;obtain⟨f,hf⟩:∃f,f=Zp x.ship ⟨id,X,Y,bX,lev,Q,U,V,upto,Z,aa⟩ (j:Int):=⟨_,rfl⟩;have aG:=bo.out j;obtain⟨em,bd⟩:∃q,q=QR x.bks j:=⟨_,rfl⟩;have a1:=bt.out (j:Int) wr (HL.out.bel ah);obtain⟨tb,bj⟩:∃q,q=ZK x.bks (j:Int):=⟨_,rfl⟩;obtain⟨tl,bk⟩:∃q,q=YB x.bks (j:Int):=⟨_,rfl⟩;rw[←hf]at au aI;rw[←bd]at aI aG;rw[←bj,←bk]at aG a1;have a5:=yh aG;clear aG;have aO:=yh aI;clear aI;have aq:=yh au;clear au;have a8:=yh a1;clear a1;have ae:=yh J;clear J;have af:=yh F;clear F;have aj:=yh al;clear al;have av:=yh aY;clear aY;clear hf bd bj bk a0 hG;have HZ:=yh hZ;clear hZ
      go_wp2_with fail
      refine a8.out.mono ?_;rintro e O ⟨v5,bW,rfl,ba,ar⟩;obtain⟨A5,n5,c5,rfl,bi⟩:=ba.sl Ql;have bg:tl.length=n5:=bi.len;replace hb:=hb.trans (ar.mono hb.size);replace ah:=ah.trans (ar.mono ah.size);have hG:=HG.out.bel hb;have hZ:=HZ.out.bel ar;have J:=ae.out.bel ar;have F:=af.out.bel ar;have aC:=yh a5.out;rw[bg]at aC;have aw:=yh J;clear J;have ax:=yh F;clear F;clear ar ba bi bg s3 ao ae af a8 a5 HZ
      have aL:=yh (show ∀W2:World,em=false→yw W0 W2→yw O W2→(Uw x ⟨id,X,Y,bX,lev,Q,U,V,upto,Z,aa⟩ (j+1)=Uw x ⟨id,X,Y,bX,lev,Q,U,V,upto,Z,aa⟩ j)∧Own QL 1 3 W2 W0.heap.size (.slice A1 n1 c1) (I.map (·.id)) ai∧Own UM 2 94 W2 W0.heap.size (.slice A4 n4 c4) (Zs x I 0++toE I.length (Uw x ⟨id,X,Y,bX,lev,Q,U,V,upto,Z,aa⟩ j)) bY∧Blk W2 z (Qz ⟨id,X,Y,bX,lev,Q,U,V,upto,Z,aa⟩ (.slice A3 n3 c3)) 63 from fun W2 he _ h2=>
       ⟨by rw[aO.out,he];simp,aw.out.bel h2,ax.out.bel h2,hZ.bel h2⟩)
      cases tb
      ·have HE:=yh (show em=false from by have:=aC.out;rw[Bool.false_and]at this;exact this.symm)
       clear hG;have aD:=yh hZ;clear hZ
       go_wp2_with fail
       obtain⟨p0,p1,p2,p3⟩:=aL.out O HE.out hb (Below.refl _ _)
       go_roundg (m - (j+1))
       case measure=>omega
       case rel=>exact⟨j+1,bY,by omega,by omega,by go_num,p1,by rw[p0];exact p2,aj.out,av.out,p3,hb⟩
      by_cases h5:n5=0
      rotate_left
      ·have HE:=yh (show em=false from by have:=aC.out;rw[decide_eq_false h5,Bool.and_false]at this;exact this.symm)
       have bO:((n5:Int) == 0)=false:=by rw[beq_eq_false_iff_ne];omega
       clear hG h5;have aD:=yh hZ;clear hZ
       go_wp2_with fail
       obtain⟨p0,p1,p2,p3⟩:=aL.out O HE.out hb (Below.refl _ _)
       go_roundg (m - (j+1))
       case measure=>omega
       case rel=>exact⟨j+1,bY,by omega,by omega,by go_num,p1,by rw[p0];exact p2,aj.out,av.out,p3,hb⟩
      have HE:=yh (show em=true from by have:=aC.out;rw[decide_eq_true h5]at this;exact this.symm);subst h5;clear aL;have s0:yI O g 0 x.ship.legs:=hG.cell rfl;have s1:yI O g 1 x.ship.souls:=hG.cell rfl;have s2:yJ O g 2 A n cap:=hG.cell rfl;have s3:yJ O g 3 B m ay:=hG.cell rfl;have s4:yJ O g 4 D nd cd:=hG.cell rfl;have s5:yI O g 5 x.fares.alone:=hG.cell rfl;have s6:yI O g 6 x.fares.third:=hG.cell rfl;have s7:yJ O g 7 E ne ce:=hG.cell rfl;have s8:yI O g 8 x.fares.down:=hG.cell rfl;have s9:yI O g 9 x.day:=hG.cell rfl;have bJ:yI O g 10 x.leaves:=hG.cell rfl;have ao:yJ O g 11 (some ⟨ab,ac,none⟩) nb cb:=hG.cell rfl;have bK:O.cell? ⟨g,12,none⟩=some (.bool x.closed):=hG.cell rfl;have z0:yI O z 0 id:=hZ.cell rfl;have z1:yI O z 1 X:=hZ.cell rfl;have z2:yI O z 2 Y:=hZ.cell rfl;have z3:yI O z 3 bX:=hZ.cell rfl;have z4:O.cell? ⟨z,4,none⟩=some (.bool lev):=hZ.cell rfl;have z5:yI O z 5 Q:=hZ.cell rfl;have z6:yI O z 6 U:=hZ.cell rfl;have z7:yI O z 7 V:=hZ.cell rfl;have z8:yI O z 8 upto:=hZ.cell rfl;have z9:yI O z 9 Z:=hZ.cell rfl;have a2:O.cell? ⟨z,10,none⟩=some ((.slice A3 n3 c3)):=hZ.cell rfl;have au:=aq.out O (HC.out.bel ah) (HD.out.bel ah) hlj a4.out.1 (by have:=a4.out.2;rwa [br.out]at this);have a3:=yh au;clear au;have aD:=yh hZ;clear hZ;clear hG aq
      go_wp2_with fail
      refine a3.out.mono ?_;rintro e w6 ⟨rfl,aA⟩;replace hb:=hb.trans (aA.mono hb.size);have hZ:=aD.out.bel aA;have J:=aw.out.bel aA;have F:=ax.out.bel aA;clear aA s0 s1 s2 s3 s4 s5 s6 s7 s8 s9 bJ ao bK z0 z1 z2 z3 z4 z5 z6 z7 z8 z9 a2 aw ax aD a3
      cases f
      ·have aP:=yh (show Uw x ⟨id,X,Y,bX,lev,Q,U,V,upto,Z,aa⟩ (j+1)=Uw x ⟨id,X,Y,bX,lev,Q,U,V,upto,Z,aa⟩ j by rw[aO.out];simp)
       have aw:=yh J;clear J;have ax:=yh F;clear F;have bA:=yh hZ;clear hZ
       go_wp2_with fail
       go_roundg (m - (j+1))
       case measure=>omega
       case rel=>exact⟨j+1,bY,by omega,by omega,by go_num,aw.out,by rw[aP.out];exact ax.out,aj.out,av.out,bA.out,hb⟩
      ·have aP:=yh (show Zs x I 0++toE I.length (Uw x ⟨id,X,Y,bX,lev,Q,U,V,upto,Z,aa⟩ (j+1))=(Zs x I 0++toE I.length (Uw x ⟨id,X,Y,bX,lev,Q,U,V,upto,Z,aa⟩ j))++[⟨(ln:Int),(j:Int)⟩]by
        rw[aO.out,if_pos (by rw[HE.out];rfl),Uvb,←List.append_assoc,a7.out];rfl)
       have bE:ln=n1:=bp.out
       have bR:ln≤16:=by have:=a7.out;omega
       subst bE;have aQ:=J.bel (Qf w6 (.cells #[.int .i64 (ln:Int),.int .i64 (j:Int)] 94));have am:=F.bel (Qf w6 (.cells #[.int .i64 (ln:Int),.int .i64 (j:Int)] 94));have aS:=hZ.bel (Qf w6 (.cells #[.int .i64 (ln:Int),.int .i64 (j:Int)] 94));have bI:=hb.size
       have aB:W0.heap.size≤(w6.alloc (.cells #[.int .i64 (ln:Int),.int .i64 (j:Int)] 94)).heap.size:=by simp;omega
       have aU:((Zs x I 0++toE I.length (Uw x ⟨id,X,Y,bX,lev,Q,U,V,upto,Z,aa⟩ j)).length+1)*16≤140737488355328:=by
        obtain⟨_,_,_,he,bH⟩:=F.sl Qx;simp only[Value.slice.injEq]at he;have:=bH.len;omega
       have aK:=yh (hb.alloc hb.size (.cells #[.int .i64 (ln:Int),.int .i64 (j:Int)] 94))
       have aN:=yh (fun(v':Value) (w':World) (ap:List Value) (an:Own UM 2 94 w' W0.heap.size v' ((Zs x I 0++toE I.length (Uw x ⟨id,X,Y,bX,lev,Q,U,V,upto,Z,aa⟩ j))++[⟨(ln:Int),(j:Int)⟩]) ap) (ag:(w6.alloc (.cells #[.int .i64 (ln:Int),.int .i64 (j:Int)] 94)).grownBy w' (Value.slice A4 n4 c4).ownBlock) (aE:v'.ownBlock=(Value.slice A4 n4 c4).ownBlock∨v'.ownBlock=some (w6.alloc (.cells #[.int .i64 (ln:Int),.int .i64 (j:Int)] 94)).heap.size)=>
        (⟨Own.grownF ZD aQ ag aj.out,Apart.step aj.out (fun k hk=>(aQ.lt k hk).2) aE,(show v'.ownBlock≠some z from by
         rcases aE with e | e
         ·rw[e];exact av.out
         ·rw[e];intro h2;injection h2 with h2;have:=aS.lt;omega),Blk.grown aS ag (fun e=>av.out e.symm),QP aK.out am ag aB⟩:Own QL 1 3 w' W0.heap.size (.slice A1 ln c1) (I.map (·.id)) ai∧Apart (.slice A1 ln c1) v'∧v'.ownBlock≠some z∧Blk w' z (Qz ⟨id,X,Y,bX,lev,Q,U,V,upto,Z,aa⟩ (.slice A3 n3 c3)) 63∧yw W0 w'))
       have bu:=yh (Zpb w6 All (ln:Int) (j:Int) 94 (.of (by omega) (by omega)) (.of (by omega) (by omega)) trivial);have aM:=yh am;clear J F hZ aQ am aS hb
       go_wp2_with (at_builtin;refine QC (t:=74) (e:=94) (bytes:=16) rfl (.tmp 54) (.tmp 59) rfl UIa Qx rfl aM.out rfl bu.out (fun _ _ hc=>hc) aU (by omega) aB ?_;intro v' w' ap an ag aT)
       obtain⟨p1,p2,p3,p4,p5⟩:=aN.out _ _ _ an ag aT
       go_roundg (m - (j+1))
       case measure=>omega
       case rel=>exact⟨j+1,ap,by omega,by omega,by go_num,p1,by rw[aP.out];exact an,p2,p3,p4,p5⟩
     ·obtain rfl:j=m:=by omega
      have bw:=yh (show Zs x (QV x (k+1)) 0=Zs x I 0++toE I.length (Uw x ⟨id,X,Y,bX,lev,Q,U,V,upto,Z,aa⟩ j)by rw[HV.out,Zea,Nat.zero_add,XGa,HM.out]);have bx:=yh (show(QV x (k+1)).map (·.id)=I.map (·.id)++[id]by rw[HV.out,List.map_append];rfl);have z0:yI wr z 0 id:=hZ.cell rfl;have am:=J.bel (Qf wr (.cells #[.int .i64 id] 3));have aR:=F.bel (Qf wr (.cells #[.int .i64 id] 3));have bI:=hb.size
      have aB:W0.heap.size≤(wr.alloc (.cells #[.int .i64 id] 3)).heap.size:=by simp;omega
      have aU:((I.map (·.id)).length+1)*8≤140737488355328:=by rw[List.length_map];omega
      have aK:=yh (hb.alloc hb.size (.cells #[.int .i64 id] 3))
      have aN:=yh (fun(v':Value) (w':World) (ap:List Value) (an:Own QL 1 3 w' W0.heap.size v' (I.map (·.id)++[id]) ap) (ag:(wr.alloc (.cells #[.int .i64 id] 3)).grownBy w' (Value.slice A1 n1 c1).ownBlock) (aE:v'.ownBlock=(Value.slice A1 n1 c1).ownBlock∨v'.ownBlock=some (wr.alloc (.cells #[.int .i64 id] 3)).heap.size)=>
       (⟨Own.grownF Xk aR ag al.symm,(Apart.step al.symm (fun k hk=>(aR.lt k hk).2) aE).symm,QP aK.out am ag aB⟩:Own UM 2 94 w' W0.heap.size (.slice A4 n4 c4) (Zs x I 0++toE I.length (Uw x ⟨id,X,Y,bX,lev,Q,U,V,upto,Z,aa⟩ j)) bY∧Apart v' (.slice A4 n4 c4)∧yw W0 w'))
      have bv:=yh (Zsa wr All id 3 bD.out trivial);have aM:=yh am;clear J F hZ am aR hb a0 al aY hG ao
      go_wp2_with (at_builtin;refine QC (t:=70) (e:=3) (bytes:=8) rfl (.tmp 61) (.tmp 64) rfl Ur Qb rfl aM.out rfl bv.out (fun _ _ hc=>hc) aU (by omega) aB ?_;intro v' w' ap an ag aT)
      obtain⟨p1,p2,p3⟩:=aN.out _ _ _ an ag aT
      go_roundg (nb - (k+1))
      case measure=>omega
      case rel=>exact⟨k+1,ap,bY,by omega,by omega,by go_num,by rw[bx.out];exact an,by rw[bw.out];exact p1,p2,p3⟩
  ·obtain rfl:k=nb:=by omega
   have ao:yJ wr g 11 C k cb:=hG.cell rfl;rw[Xs HN.out]at J F;have ae:=yh (J.mono Qb ak.out.size);have af:=yh (F.mono Qx ak.out.size);clear J F aZ bh hG
   go_wp2_with fail
   go_ret2
   exact⟨_,_,ai,bY,rfl,ae.out,af.out,ak.out.trans (hb.mono ak.out.size)⟩
noncomputable def Y5 (x:Sai) (b:Bkg):Int:=if Qp x≠0 then Qp x else if ofE x.ship b≠0 then ofE x.ship b else if ZI x.bks b.id=true then 6 else 0
noncomputable def Zba (x:Sai) (b:Bkg):Bool:=if Y5 x b≠0 then false else Qp (QN x b) == 0
theorem VJa (x:Sai)(p:SaiV)(b:Bkg)(A3:Option Addr)(U Y:Nat)(w:World)(hS:SaiR w x p)(hf:Sl Qw 3 w All A3 U Y b.fol)(hI:BkIn b) :
  Calls Tryz.prog 64 #[.agg (Qa x p),.agg (Qz b (.slice A3 U Y))] w fun e w'=>e=.returned (.tuple #[.bool (Zba x b),.int .i64 (Y5 x b)])∧yw w w':=by
 have aE:=yh (fun x p W h=>Q8 x p W h);have aR:=yh (fun W h ho=>ZU x p W h ho);obtain⟨cB,av⟩:∃q,q=Zba x b:=⟨_,rfl⟩;obtain⟨cE,ak⟩:∃q,q=Y5 x b:=⟨_,rfl⟩;obtain⟨r,hr⟩:∃r,r=Qp x:=⟨_,rfl⟩;obtain⟨r2,aw⟩:∃r,r=Qp (QN x b):=⟨_,rfl⟩;obtain⟨oe,ad⟩:∃r,r=ofE x.ship b:=⟨_,rfl⟩;obtain⟨hi,ac⟩:∃r,r=ZI x.bks b.id:=⟨_,rfl⟩;have aB:=yh (show cE=if r≠0 then r else if oe≠0 then oe else if hi=true then 6 else 0 by rw[ak,hr,ad,ac];rfl);have ae:=yh (show cB=if cE≠0 then false else r2 == 0 by rw[av,ak,aw];rfl);rw[←av,←ak];have aI:=yh (fun p base W ho hb h1 h2 h3 hf hn h4=>VEa x p b A3 U Y base W ho hb h1 h2 h3 hf hn hI h4);have ao:=yh (fun W hc hb ho hf=>XE x.ship p.A p.n p.cap p.B p.m p.cap2 b A3 U Y W hc hb ho hf);have ap:=yh (fun W hl hr aX hn=>Vs x p b.id W hl hr aX hn hI.id);obtain⟨A,n,cap,B,m,Z,D,nd,cd,E,ne,ce,C,nb,cb⟩:=p;obtain⟨id,al,am,aj,lev,ag,ah,ai,upto,an,aU⟩:=b;simp only at hf ad ac ap ao aI;rw[←ad]at ao;rw[←ac]at ap;have HR:=yh hr;clear hr;have aS:=yh aw;clear aw;have aQ:=yh ad;clear ad;have a0:=yh ac;clear ac;have HS:=yh hS;clear hS;have HF:=yh hf;clear hf;clear av ak hI
 go_enter Tryz.func64,Tryz.ntmps64
 go_upto_region 0 with(fail)
 go_cut [2,3,4,5] (fun p p2 _ _ wx=>∃g h,p=.pointer (some ⟨g,0,none⟩)∧p2=.pointer (some ⟨h,0,none⟩)∧Blk wx g (Qa x ⟨A,n,cap,B,m,Z,D,nd,cd,E,ne,ce,C,nb,cb⟩) 32∧Blk wx h (Qz ⟨id,al,am,aj,lev,ag,ah,ai,upto,an,aU⟩ (.slice A3 U Y)) 63∧yw w wx)
 case first=>as_aux_lemma=>
  go_wp2_with fail
  go_meet
  exact⟨_,_,rfl,rfl,QA _ _ _,QB _ _ _,Zh _ _ _⟩
 obtain⟨g,h,rfl,rfl,hG,hH,F⟩:=hcut;have s0:yI wc g 0 x.ship.legs:=hG.cell rfl;have s1:yI wc g 1 x.ship.souls:=hG.cell rfl;have s2:yJ wc g 2 A n cap:=hG.cell rfl;have s3:yJ wc g 3 B m Z:=hG.cell rfl;have s4:yJ wc g 4 D nd cd:=hG.cell rfl;have s5:yI wc g 5 x.fares.alone:=hG.cell rfl;have s6:yI wc g 6 x.fares.third:=hG.cell rfl;have s7:yJ wc g 7 E ne ce:=hG.cell rfl;have s8:yI wc g 8 x.fares.down:=hG.cell rfl;have s9:yI wc g 9 x.day:=hG.cell rfl;have ax:yI wc g 10 x.leaves:=hG.cell rfl;have ay:yJ wc g 11 C nb cb:=hG.cell rfl;have az:wc.cell? ⟨g,12,none⟩=some (.bool x.closed):=hG.cell rfl;have a2:=yh (aE.out x ⟨A,n,cap,B,m,Z,D,nd,cd,E,ne,ce,C,nb,cb⟩ wc (HS.out.bel F));have HH:=yh hH;clear hH
 go_wp2_with fail
 refine a2.out.mono ?_;rintro e J ⟨rfl,Q⟩;replace hG:=hG.bel Q;replace HH:=yh (HH.out.bel Q);replace F:=F.trans (Q.mono F.size);clear Q s0 s1 s2 s3 s4 s5 s6 s7 s8 s9 ax ay az a2;rw[←HR.out]
 by_cases h0:r=0
 rotate_left
 ·have a1:(r == 0)=false:=by simpa using h0
  have aV:(r != 0)=true:=by simpa using h0
  obtain rfl:cE=r:=by rw[aB.out,if_pos h0]
  obtain rfl:cB=false:=by rw[ae.out,if_pos h0]
  clear h0 hG
  go_wp2_with fail
  go_ret2
  exact⟨rfl,F⟩
 have ab:=yh (Ze (HR.out.symm.trans h0));have aC:=yh (aB.out.trans (if_neg (by rw[h0];simp)));subst h0;have s0:yI J g 0 x.ship.legs:=hG.cell rfl;have s1:yI J g 1 x.ship.souls:=hG.cell rfl;have s2:yJ J g 2 A n cap:=hG.cell rfl;have s3:yJ J g 3 B m Z:=hG.cell rfl;have hH:=HH.out;have b0:yI J h 0 id:=hH.cell rfl;have b1:yI J h 1 al:=hH.cell rfl;have b2:yI J h 2 am:=hH.cell rfl;have b3:yI J h 3 aj:=hH.cell rfl;have b4:J.cell? ⟨h,4,none⟩=some (.bool lev):=hH.cell rfl;have b5:yI J h 5 ag:=hH.cell rfl;have b6:yI J h 6 ah:=hH.cell rfl;have b7:yI J h 7 ai:=hH.cell rfl;have b8:yI J h 8 upto:=hH.cell rfl;have b9:yI J h 9 an:=hH.cell rfl;have aT:yJ J h 10 A3 U Y:=hH.cell rfl;have a2:=yh (ao.out J (HS.out.bel F).cats (HS.out.bel F).cabs ab.out.bs.ship (HF.out.bel F));clear hH
 go_wp2_with fail
 refine a2.out.mono ?_;rintro e O ⟨rfl,Q⟩;replace hG:=hG.bel Q;replace HH:=yh (HH.out.bel Q);replace F:=F.trans (Q.mono F.size);clear Q s0 s1 s2 s3 b0 b1 b2 b3 b4 b5 b6 b7 b8 b9 aT a2
 by_cases h0:oe=0
 rotate_left
 ·have aV:(oe != 0)=true:=by simpa using h0
  obtain rfl:cE=oe:=by rw[aC.out,if_pos h0]
  obtain rfl:cB=false:=by rw[ae.out,if_pos h0]
  clear h0 hG
  go_wp2_with fail
  go_ret2
  exact⟨rfl,F⟩
 have aA:=yh (UAa (aQ.out.symm.trans h0));have aD:=yh (aC.out.trans (if_neg (by rw[h0];simp)));subst h0;have s0:yI O g 0 x.ship.legs:=hG.cell rfl;have s1:yI O g 1 x.ship.souls:=hG.cell rfl;have s2:yJ O g 2 A n cap:=hG.cell rfl;have s3:yJ O g 3 B m Z:=hG.cell rfl;have s4:yJ O g 4 D nd cd:=hG.cell rfl;have s5:yI O g 5 x.fares.alone:=hG.cell rfl;have s6:yI O g 6 x.fares.third:=hG.cell rfl;have s7:yJ O g 7 E ne ce:=hG.cell rfl;have s8:yI O g 8 x.fares.down:=hG.cell rfl;have s9:yI O g 9 x.day:=hG.cell rfl;have ax:yI O g 10 x.leaves:=hG.cell rfl;have ay:yJ O g 11 C nb cb:=hG.cell rfl;have az:O.cell? ⟨g,12,none⟩=some (.bool x.closed):=hG.cell rfl;have b0:yI O h 0 id:=HH.out.cell rfl;have aG:=yh (show ∀b∈x.bks,1≤b.id∧b.id≤999999 from fun b hb=>Qj.1 (ab.out.bs.bk b hb).id);have aH:=yh (Zc ab.out.bs.rise);have a2:=yh (ap.out O (HS.out.bel F).bks aH.out aG.out ab.out.bs.len);have aF:=yh hG;clear hG
 go_wp2_with fail
 refine a2.out.mono ?_;rintro e w4 ⟨i,rfl,_,_,Q⟩;have hG:=aF.out.bel Q;have hH:=HH.out.bel Q;replace F:=F.trans (Q.mono F.size);clear Q s0 s1 s2 s3 s4 s5 s6 s7 s8 s9 ax ay az b0 a2 aF HH
 cases hi with
 | true=>
  obtain rfl:cE=6:=by rw[aD.out];rfl
  obtain rfl:cB=false:=by rw[ae.out];rfl
  clear hG hH
  go_wp2_with fail
  go_ret2
  exact⟨rfl,F⟩
 | false=>
  obtain rfl:cE=0:=by rw[aD.out];rfl
  have aN:=yh (show cB=(r2 == 0)by rw[ae.out];rfl);obtain⟨W4,aW⟩:∃V,V=w4:=⟨_,rfl⟩;subst aW;have af:=yh (show ∀X,yw W4 X→(fun w'=>(yI w' g 0 x.ship.legs∧yI w' g 1 x.ship.souls∧yJ w' g 2 A n cap∧yJ w' g 3 B m Z∧yJ w' g 4 D nd cd∧yI w' g 5 x.fares.alone∧yI w' g 6 x.fares.third∧yJ w' g 7 E ne ce∧yI w' g 8 x.fares.down∧yI w' g 9 x.day∧yI w' g 10 x.leaves∧yJ w' g 11 C nb cb∧w'.cell? ⟨g,12,none⟩=some (.bool x.closed))∧(yI w' h 0 id∧yI w' h 1 al∧yI w' h 2 am∧yI w' h 3 aj∧w'.cell? ⟨h,4,none⟩=some (.bool lev)∧yI w' h 5 ag∧yI w' h 6 ah∧yI w' h 7 ai∧yI w' h 8 upto∧yI w' h 9 an∧yJ w' h 10 A3 U Y)) X from fun X hX=>⟨⟨(hG.bel hX).cell rfl,(hG.bel hX).cell rfl,(hG.bel hX).cell rfl,(hG.bel hX).cell rfl,(hG.bel hX).cell rfl,(hG.bel hX).cell rfl,(hG.bel hX).cell rfl,(hG.bel hX).cell rfl,(hG.bel hX).cell rfl,(hG.bel hX).cell rfl,(hG.bel hX).cell rfl,(hG.bel hX).cell rfl,(hG.bel hX).cell rfl⟩,⟨(hH.bel hX).cell rfl,(hH.bel hX).cell rfl,(hH.bel hX).cell rfl,(hH.bel hX).cell rfl,(hH.bel hX).cell rfl,(hH.bel hX).cell rfl,(hH.bel hX).cell rfl,(hH.bel hX).cell rfl,(hH.bel hX).cell rfl,(hH.bel hX).cell rfl,(hH.bel hX).cell rfl⟩⟩);have aO:=yh (show 1≤id∧id≤999999 from Qj.1 aA.out.id);have aP:=yh (show U≤1000000000 from by have h1:=US aA.out.fol;have h2:=HF.out.len;simp only at h1 h2;omega);have aa:=yh F;clear F;clear hG hH
  go_wp2_with fail
  have I:yw W4 W4.drew:=(Below.refl _ W4).drew;refine wp_region_held_drew (S:=(fun w'=>(yI w' g 0 x.ship.legs∧yI w' g 1 x.ship.souls∧yJ w' g 2 A n cap∧yJ w' g 3 B m Z∧yJ w' g 4 D nd cd∧yI w' g 5 x.fares.alone∧yI w' g 6 x.fares.third∧yJ w' g 7 E ne ce∧yI w' g 8 x.fares.down∧yI w' g 9 x.day∧yI w' g 10 x.leaves∧yJ w' g 11 C nb cb∧w'.cell? ⟨g,12,none⟩=some (.bool x.closed))∧(yI w' h 0 id∧yI w' h 1 al∧yI w' h 2 am∧yI w' h 3 aj∧w'.cell? ⟨h,4,none⟩=some (.bool lev)∧yI w' h 5 ag∧yI w' h 6 ah∧yI w' h 7 ai∧yI w' h 8 upto∧yI w' h 9 an∧yJ w' h 10 A3 U Y))) (by kernel_rfl) (af.out _ I) (fun aq=>?_);refine yT [0,2] (by kernel_rfl) (by assumption) ?_
  iterate 2 (refine yS (v:=?_) (gA rfl) (fun _ _ _ h=>h) rfl ?_ ?_;rotate_left;(focus (intro w ar;(try dsimp only at ar);go_simp<;>with_reducible rfl));simp only[yP,yA,yB,yC])
  refine yR 1 (by kernel_rfl) (gA rfl) fun K hK=>?_
  go_simp
  (go_at_call 82;refine(aR.out _ (HS.out.bel (aa.out.trans (I.mono aa.out.size))) ab.out).mono ?_;rintro e w5 ⟨p5,rfl,aJ,au⟩;have aY:=I.size;replace I:=I.trans (au.mono I.size);have H5:=yh aJ;have aZ:=au.size;clear aJ au)
  go_wp2_with fail
  refine hK.out _ _ (af.out _ I) fun aq=>?_
  clear hK K
  try simp only[yP,yQ,yA,yB,yC]
  refine yR 3 (by kernel_rfl) (gA rfl) fun K hK=>?_
  go_simp
  (go_at_call 142;refine(aI.out p5 _ _ H5.out aZ aH.out aG.out ab.out.bs.len (HF.out.bel (aa.out.trans (I.mono aa.out.size))) aP.out aO.out).mono ?_;rintro e w6 ⟨p6,rfl,aK,aL⟩;replace I:=I.trans (aL.mono aY);have H6:=yh aK;clear aK aL)
  go_wp2_with fail
  refine hK.out _ _ (af.out _ I) fun aq=>?_
  clear hK K
  try simp only[yP,yQ,yA,yB,yC]
  refine yR 4 (by kernel_rfl) (gA rfl) fun K hK=>?_
  go_simp
  (go_at_call 19;refine(aE.out _ p6 _ H6.out.sai).mono ?_;rintro e w7 ⟨rfl,aM⟩;replace I:=I.trans (aM.mono I.size);rw[←aS.out];clear aM)
  go_wp2_with fail
  refine hK.out _ _ (af.out _ I) fun aq=>?_
  clear hK K
  try simp only[yP,yQ,yA,yB,yC]
  refine yT [5,6,7] (by kernel_rfl) (by assumption) ?_
  iterate 3 (refine yS (v:=?_) (gA rfl) (fun _ _ _ h=>h) rfl ?_ ?_;rotate_left;(focus (intro w ar;(try dsimp only at ar);go_simp<;>with_reducible rfl));simp only[yP,yA,yB,yC])
  refine wpAnyH_done (by kernel_rfl) ?_ _
  go_wp2_with fail
  go_ret2
  exact⟨by rw[aN.out];rfl,aa.out.trans (I.mono aa.out.size)⟩
end Go.Proofs.YtjdcokpmgionjaaGreat
