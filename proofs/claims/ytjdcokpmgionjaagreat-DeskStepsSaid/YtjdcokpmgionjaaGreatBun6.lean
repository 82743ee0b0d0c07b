/-
  Laws and contracts.
-/
import Derived.Test.YtjdcokpmgionjaaGreatBun5
set_option linter.unusedSimpArgs false
set_option linter.unusedVariables false
set_option maxRecDepth 100000
set_option maxHeartbeats 20000000
namespace Go.Proofs.YtjdcokpmgionjaaGreat
open Proofs.Tryz Go.RowKit Go.Shelf
theorem Uzb (C:Option Addr)(nb cb:Nat)(l:List Bkg)(c:Int)(w:World)(hl:Sl ZP 11 w All C nb cb l)(aU:VMb l)(hn:nb≤2000000000000) :
  Calls prog 112 #[.slice C nb cb,.int .i64 c] w fun e w'=>∃v xs,e=.returned (.tuple #[v,.bool (ZZ l c)])∧Own XJ 2 51 w' w.heap.size v (Una l c) xs∧yw w w':=by
 have bl:=hl.bd;have HL:=yh hl;have HN:=yh hl.len;have a6:=yh aU;clear aU;obtain⟨tb,aB⟩:=yE (ZZ l c);obtain⟨tl,aC⟩:=yE (Una l c);rw[←aB,←aC];have aq:=yh aB;clear aB;have ar:=yh aC;clear aC;clear hl;go_enter func112,ntmps112;go_wp2_with fail
 go_loopg [6,12] nb (fun gk o i wr=>∃(k:Nat) (xs:List Value),k≤nb∧nb-k≤gk∧i=.int .i64 k∧Own XJ 2 51 wr w.heap.size o (spL (l.take k) c) xs∧yw w wr)
 case atStart=>exact⟨0,[],M0 _,by omega,rfl,Own.nil _ _ _ _ _,J4 _ _⟩
 case round=>
  obtain⟨k,xs,hk,bp,rfl,U,A⟩:=hrel;obtain⟨A2,V,aK,rfl,aV⟩:=U.sl Qz;have al:=aV.len;clear aV;by_cases hlt:k<nb
  ·skip;obtain⟨I,F,⟨id,af,ag,ab,lev,Z,aa,J,upto,ah,au⟩,A3,n3,c3,hA,Q,hF,hI,E⟩:=(HL.bel A).bkg hlt;subst hA;simp only at hF;have y0:yI wr I (F+k*11) id:=E 0 _ rfl;have y1:yI wr I (F+k*11+1) af:=E 1 _ rfl;have y2:yI wr I (F+k*11+2) ag:=E 2 _ rfl;have y3:yI wr I (F+k*11+3) ab:=E 3 _ rfl;have y4:wr.cell? ⟨I,F+k*11+4,none⟩=some (.bool lev):=E 4 _ rfl;have y5:yI wr I (F+k*11+5) Z:=E 5 _ rfl;have y6:yI wr I (F+k*11+6) aa:=E 6 _ rfl;have y7:yI wr I (F+k*11+7) J:=E 7 _ rfl;have y8:yI wr I (F+k*11+8) upto:=E 8 _ rfl;have y9:yI wr I (F+k*11+9) ah:=E 9 _ rfl;have bh:yJ wr I (F+k*11+10) A3 n3 c3:=E 10 _ rfl;clear E;go_upto_region 4 with(fail);go_cut [8] (fun p wx=>∃z,yp p z∧Blk wx z (Qk ⟨id,af,ag,ab,lev,Z,aa,J,upto,ah,au⟩ (.slice A3 n3 c3)) 63∧yw wr wx)
   case first=>as_aux_lemma=>
    go_wp2_with fail;go_meet;exact⟨_,rfl,Zk _ _,Qi _ _⟩
   obtain⟨z,rfl,D,aj⟩:=hcut;clear y0 y1 y2 y3 y4 y5 y6 y7 y8 y9 bh;replace hF:=hF.bel aj;have aN:=U.bel aj;replace A:=A.trans (aj.mono A.size);clear aj U;have z0:yI wc z 0 id:=D.cell rfl;have z1:yI wc z 1 af:=D.cell rfl;have z2:yI wc z 2 ag:=D.cell rfl;have z3:yI wc z 3 ab:=D.cell rfl;have z4:wc.cell? ⟨z,4,none⟩=some (.bool lev):=D.cell rfl;have z5:yI wc z 5 Z:=D.cell rfl;have z6:yI wc z 6 aa:=D.cell rfl;have z7:yI wc z 7 J:=D.cell rfl;have z8:yI wc z 8 upto:=D.cell rfl;have z9:yI wc z 9 ah:=D.cell rfl;have bi:wc.cell? ⟨z,10,none⟩=some ((.slice A3 n3 c3)):=D.cell rfl;have az:=Qkb (c:=c) Q;have ak:=Ujb (l.take k) c;rw[J8]at ak;have av:=fun W=>ZIb ⟨id,af,ag,ab,lev,Z,aa,J,upto,ah,au⟩ (.slice A3 n3 c3) c W;obtain⟨q,hq⟩:=yE (UZ c ⟨id,af,ag,ab,lev,Z,aa,J,upto,ah,au⟩);rw[←hq]at av az;have aE:=yh av
   have bc:((spL (l.take k) c).length+1)*16≤140737488355328:=by omega
   have a1:=hI.frm;have a2:=hI.upto;simp only at a1 a2;have aJ:=yh az;clear az;have HO:=yh aN;clear aN;have aA:=A.size;clear av hq Q hF hI ak al;go_wp2_with fail;refine yM (aE _) fun w2 ai=>?_;replace D:=D.bel ai;have ap:=yh (HO.bel ai);replace A:=A.trans (ai.mono A.size);clear ai z0 z1 z2 z3 z4 z5 z6 z7 z8 z9 bi HO aE aA;cases q
   ·have HV:=yh (aJ.trans (by simp:_=spL (l.take k) c));go_wp2_with fail;go_roundg (nb-(k+1))
    case measure=>omega
    case rel=>exact⟨k+1,xs,by omega,by omega,by go_num,by rw[HV.out];exact ap,A⟩
   ·have HV:=yh (aJ.trans (by simp:_=spL (l.take k) c++[⟨J,upto⟩]));have z7:yI w2 z 7 J:=D.cell rfl;have z8:yI w2 z 8 upto:=D.cell rfl;have aO:=yh (ap.bel (Qi w2 (.cells #[.int .i64 J,.int .i64 upto] 51)));have bw:=A.size
    have aY:w.heap.size≤(w2.alloc (.cells #[.int .i64 J,.int .i64 upto] 51)).heap.size:=by simp;omega
    have a4:=yh (A.alloc A.size (.cells #[.int .i64 J,.int .i64 upto] 51));clear ap A D;go_wp2_with (at_builtin;refine QC (t:=79) (e:=51) (bytes:=16) rfl (.tmp 19) (.tmp 22) rfl Xf Qz rfl aO.out rfl (Qfa _ All J upto 51 a1 a2 trivial) (fun _ _ hc=>hc) bc (by omega) aY ?_;intro v' w' bg bf be _);go_roundg (nb-(k+1))
    case measure=>omega
    case rel=>exact⟨k+1,bg,by omega,by omega,by go_num,by rw[HV.out];exact bf,QA a4 aO.out be aY⟩
  ·obtain rfl:k=nb:=by omega
   rw[M1 (Nat.le_of_eq HN.out)]at U al;have ao:=yh A;have aA:=A.size;by_cases h0:V=0
   ·have ax:spL l c=[]:=List.eq_nil_of_length_eq_zero (by omega);have O:=XW (l:=l) (c:=c) (out:=[]) (by rw[ax];rfl);obtain rfl:tb=true:=aq.trans O.1;obtain rfl:tl=[]:=ar.trans O.2;rw[ax]at U;have HO:=yh U;clear U;subst h0;clear al ax O A;go_wp2_with fail;refine(Uia A2 aK _ _).mono ?_;rintro e w3 ⟨rfl,rfl⟩;go_wp2_with fail
    go_loopg [9] 0 (fun gk i an=>i=.int .i64 1∧yw w an∧an=w3)
    case atStart=>exact⟨rfl,ao,rfl⟩
    case round=>
     obtain⟨rfl,A,rfl⟩:=hrel;go_wp2_with fail;go_ret2;exact⟨_,xs,rfl,HO,A⟩
   ·obtain⟨g,c9,hv,bm,bq⟩:=U.form (by omega);simp only[Value.slice.injEq]at hv;obtain⟨rfl,-,rfl⟩:=hv;have ay:=Zxb a6 (c:=c);have ak:=Ujb l c;have aZ:=QAb (w:=wr) (base:=w.heap.size) (g:=g) (n:=V) (cap:=aK) U (by have:=HN.out;omega) (fun x Q=>by have:=ay x Q;unfold YL at this;omega);have aI:=yh aZ;clear aZ;have a7:=yh ay;clear ay;clear U al ak A;go_wp2_with fail;refine aI.mono ?_;rintro e w3 ⟨rfl,s,a3,O,hs,aw,hK⟩;have aP:=ao.trans (hK.below (B:=w.heap.size) aA (fun q hq (e:q=g)=>by omega));have aT:=VAb (fun x Q=>(a7 x Q).2.1) O hs;obtain⟨A4,n4,bk,a0,am⟩:=aw.sl Qz;simp only[Value.slice.injEq]at a0;obtain⟨rfl,rfl,rfl⟩:=a0;have aW:=am.all Qz (by omega);have bv:=am.bd;have a8:=yh am.len;obtain⟨W3,ba⟩:=yE w3;subst ba;have aH:=yh aW;have a5:=yh aw;have Y:=yh aP;have aF:=yh aT;clear aT;clear O hs aw hK am aW aI ao aP;go_wp2_with fail
    go_loopg [9] V (fun gk i an=>∃j:Nat,j≤V∧V-j≤gk∧i=.int .i64 ((j:Int)+1)∧Aside (∀p x y,p<j→s[p]? = some x→s[p+1]? = some y→Q8 x y=false)∧yw W3 an)
    case atStart=>exact⟨0,M0 _,by omega,rfl,fun _ _ _ h=>absurd h (Nat.not_lt_zero _),J4 _ _⟩
    case round=>
     obtain⟨j,hj,bo,rfl,HA,A⟩:=hrel;by_cases hlt:j+1<V
     ·obtain⟨bb,F,x,c0,c1,aL,Q,⟨aR,_⟩,e0,e1⟩:=(aH.bel A).at2 (k:=j) (by omega);obtain⟨bj,bx,y,d0,d1,aM,hy,⟨aS,_⟩,e2,e3⟩:=(aH.bel A).at2 (k:=j+1) hlt;simp only[List.cons.injEq,and_true]at aR aS;obtain⟨rfl,rfl⟩:=aR;obtain⟨rfl,rfl⟩:=aS;simp only[Option.some.injEq,Addr.mk.injEq,and_true]at aL aM;obtain⟨rfl,rfl⟩:=aL;obtain⟨rfl,rfl⟩:=aM;simp only[Nat.zero_add]at e0 e1 e2 e3;have hM:=fun W=>VIb x.frm x.upto y.frm y.upto W;obtain⟨q,hq⟩:=yE (Q8 ⟨x.frm,x.upto⟩ ⟨y.frm,y.upto⟩);rw[←hq]at hM;have HM:=yh hM;clear hM;have HQ:=yh (show q=Q8 x y from hq);have HX:=yh Q;clear Q;have HY:=yh hy;clear hy;have hw:IntKind.i64.wrap (j:Int)=j:=IntWalk.i64_in _ (by omega);have br:(0:Int)≤(j:Int):=Int.natCast_nonneg _
      have bs:(j:Int)+1<(V:Int):=by omega
      have bt:(j:Int)<(V:Int):=by omega
      have bu:(0:Int)≤(j:Int)+1:=by omega
      clear hq;go_upto_region 12 with(fail);go_cut [42] (fun t wx=>t=.bool q∧yw wr wx)
      case first=>as_aux_lemma=>
       have aD:=yh (show ∀X,yw wr X→(fun w'=>yI w' g (j*2) x.frm∧yI w' g (j*2+1) x.upto∧yI w' g ((j+1)*2) y.frm∧yI w' g ((j+1)*2+1) y.upto) X from fun X hX=>⟨Qh hX e0,Qh hX e1,Qh hX e2,Qh hX e3⟩);have ac:yw wr wr.drew:=(J4 _ wr).drew;clear e0 e1 e2 e3;refine yZ (S:=(fun w'=>yI w' g (j*2) x.frm∧yI w' g (j*2+1) x.upto∧yI w' g ((j+1)*2) y.frm∧yI w' g ((j+1)*2+1) y.upto)) (aD _ ac) fun a9=>?_;refine yT [0,1,2,3,4,5,6,7,8] ?_;iterate 9 (refine yS ?_;simp only[yU])
       refine yR 9 fun K hK=>?_;go_simp
       (go_at_call 196;refine yM (HM _) fun wn bA=>?_;replace ac:=ac.trans bA)
       go_wp2_with fail;refine hK.out _ _ (aD _ ac) fun a9=>?_;clear hK K
       try simp only[yU]
       refine yD ?_;go_wp2_with fail;go_meet;exact⟨rfl,ac⟩
      obtain⟨rfl,aQ⟩:=hcut;cases q
      ·skip;go_wp2_with fail;go_roundg (V-(j+1))
       case measure=>omega
       case rel=>
        refine⟨j+1,by omega,by omega,by go_num,fun p x' y' O ad ae=>?_,A.trans (aQ.mono A.size)⟩;by_cases e:p=j
        ·subst e;rw[HX.out]at ad;rw[HY.out]at ae;injection ad with ad;injection ae with ae;rw[←ad,←ae];exact HQ.symm
        ·exact HA p x' y' (by omega) ad ae
      ·have hn:=aF.2 ⟨j,x,y,HX,HY,HQ.symm⟩;obtain rfl:tb=false:=aq.trans (by unfold ZZ;rw[hn];rfl);obtain rfl:tl=[]:=ar.trans (by unfold Una;rw[hn];rfl);clear hn;go_wp2_with fail;go_ret2;exact⟨_,[],rfl,Own.nil _ _ _ _ _,Y.trans ((A.trans (aQ.mono A.size)).mono Y.size)⟩
     ·have aX:=aF.1 (fun p x y Q hy=>HA p x y (by have h1:=(J0.1 hy).1;have:=a8.out;omega) Q hy);have O:=XW aX;obtain rfl:tb=true:=aq.trans O.1;obtain rfl:tl=s:=ar.trans O.2;have aG:=yh (a5.bel A)
      have bn:¬(j:Int)+1<(V:Int):=by omega
      clear aX O HA;go_wp2_with fail;go_ret2
      first
       | exact⟨_,a3,rfl,aG,Y.trans (A.mono Y.size)⟩
       | exact⟨_,rfl,⟨a3,aG⟩,Y.trans (A.mono Y.size)⟩
def VL (m:List Int) (p:Nat→Bool) (g:Int):List Int:=m.mapIdx (fun i v=>if p i=true then v+g else v)
theorem UMa (m:List Int)(p:Nat→Bool)(g:Int):(VL m p g).length=m.length:=by unfold VL;simp
theorem VE (m:List Int)(p:Nat→Bool)(g:Int)(i:Nat):(VL m p g)[i]? = m[i]?.map (fun v=>if p i=true then v+g else v):=by unfold VL;simp
theorem Qya {m:List Int}{p A:Nat→Bool}{g:Int}(h:∀i,i<m.length→p i=A i):VL m p g=VL m A g:=by
 refine List.ext_getElem? fun i=>?_;rw[VE,VE];by_cases hi:i<m.length
 ·rw[h i hi]
 ·rw[List.getElem?_eq_none (by omega)];rfl
theorem Zva {m:List Int}{p:Nat→Bool}{g:Int}(h:∀i,i<m.length→p i=false):VL m p g=m:=by
 refine List.ext_getElem? fun i=>?_;rw[VE];by_cases hi:i<m.length
 ·rw[h i hi,J1 hi];simp
 ·rw[List.getElem?_eq_none (by omega)];rfl
theorem V8a {m:List Int}{p A:Nat→Bool}{g:Int}{j:Nat}(D:j<m.length)(E:p j=false)(F:A j=true)(I:∀i,i<m.length→i≠j→A i=p i):VL m A g=(VL m p g).set j ((VL m p g).getD j 0+g):=by
 refine List.ext_getElem? fun i=>?_;rw[VE];by_cases hi:i=j
 ·subst hi;rw[List.getElem?_set_self (by rw[UMa];exact D),J7,VE,J1 D,E,F];simp
 ·rw[List.getElem?_set_ne (fun e=>hi e.symm),VE];by_cases hl:i<m.length
  ·rw[I i hl hi]
  ·rw[List.getElem?_eq_none (by omega)];rfl
def inB (b:Bkg) (i:Nat):Bool:=QB b && (decide (b.frm≤i) && decide ((i:Int)<b.upto))
theorem Zvb (l:List Bkg)(b:Bkg)(i:Nat):Us (l++[b]) i=if inB b i=true then Us l i+b.gst else Us l i:=by
 unfold Us;rw[List.map_append,List.sum_append];by_cases h:QB b=true∧b.frm≤i∧(i:Int)<b.upto
 ·have A:inB b i=true:=by unfold inB;simp[h]
  rw[A];simp[h]
 ·have A:inB b i=false:=by
   cases e:inB b i
   ·rfl
   ·unfold inB at e;simp at e;exact absurd ⟨e.1,e.2⟩ h
  rw[A];simp[h]
theorem UH (l:List Bkg)(N:Nat):(QU l N).length=N:=by unfold QU;simp
theorem Ye (l:List Bkg)(N i:Nat)(h:i<N):(QU l N)[i]? = some (Us l i):=by unfold QU;simp[h]
theorem Vua {l:List Bkg}{k N:Nat}{b:Bkg}(h:l[k]? = some b):QU (l.take (k+1)) N=VL (QU (l.take k) N) (inB b) b.gst:=by
 refine List.ext_getElem? fun i=>?_;rw[VE,Qo h];by_cases hi:i<N
 ·rw[Ye _ _ _ hi,Ye _ _ _ hi,Zvb];rfl
 ·rw[List.getElem?_eq_none (by rw[UH];omega),List.getElem?_eq_none (by rw[UH];omega)];rfl
def YEb (l:List Bkg) (N:Nat):Prop:=∀b∈l,(0≤b.frm∧b.frm<b.upto∧b.upto≤N)∧1≤b.gst∧b.gst≤4
theorem Zma:∀{l:List Bkg},(∀b∈l,1≤b.gst∧b.gst≤4)→∀i,0≤Us l i∧Us l i≤4*l.length
 | [],_,i=>by simp[Us]
 | b::l,h,i=>by
  have E:=Zma (l:=l) (fun x A=>h x (List.mem_cons_of_mem _ A)) i;have D:=h b (List.mem_cons_self ..)
  have:Us (b::l) i=(if QB b=true∧b.frm≤i∧(i:Int)<b.upto then b.gst else 0)+Us l i:=by unfold Us;simp
  rw[this,List.length_cons]
  split<;>omega
theorem ZLb {m:List Int}{p:Nat→Bool}{g M:Int}(h:∀i,0≤m.getD i 0∧m.getD i 0≤M)(A:0≤g∧g≤4)(i:Nat):0≤(VL m p g).getD i 0∧(VL m p g).getD i 0≤M+4:=by
 have:=h i;rw[J7]at this;rw[J7,VE]
 cases e:m[i]? with
 | none=>rw[e]at this;simp at this ⊢;omega
 | some v=>
  rw[e]at this;simp only[Option.getD_some,Option.map_some]at this ⊢
  split<;>omega
theorem Qjb {l:List Bkg}{N:Nat}(h:YEb l N)(k i:Nat):0≤(QU (l.take k) N).getD i 0∧(QU (l.take k) N).getD i 0≤4*l.length:=by
 rw[J7];by_cases hi:i<N
 ·rw[Ye _ _ _ hi];have:=Zma (l:=l.take k) (fun b A=>(h b (List.mem_of_mem_take A)).2) i;rw[J8]at this;simp only[Option.getD_some];omega
 ·rw[List.getElem?_eq_none (by rw[UH];omega)];simp;omega
theorem XFa (N:Nat):QU [] N=List.replicate N 0:=by
 unfold QU Us;simp[List.eq_replicate_iff]
theorem Qgc (W:World):(Instr.makeSlice 70 (.int .i64 6) (.int .i64 6)).run prog W=.ok (.slice (some ⟨W.heap.size,0,none⟩) 6 6) (W.alloc (.cells ((List.replicate 6 (0:Int)).map (Value.int .i64)).toArray 3)):=by kernel_rfl
theorem Qhc (W:World):(Instr.makeSlice 70 (.int .i64 7) (.int .i64 7)).run prog W=.ok (.slice (some ⟨W.heap.size,0,none⟩) 7 7) (W.alloc (.cells ((List.replicate 7 (0:Int)).map (Value.int .i64)).toArray 3)):=by kernel_rfl
theorem Z8b (n:Nat)(A:n≤7)(W:World):(Instr.makeSlice 70 (.int .i64 n) (.int .i64 n)).run prog W=.ok (.slice (some ⟨W.heap.size,0,none⟩) n n) (W.alloc (.cells ((List.replicate n (0:Int)).map (Value.int .i64)).toArray 3)):=by
 have h:n≤5∨n=6∨n=7:=by omega
 rcases h with h|rfl|rfl
 ·exact XLb n h W
 ·exact Qgc W
 ·exact Qhc W
theorem RowI.own {w:World}{G base:Nat}{m:List Int}(h:RowI w G m 3)(E:base≤G)(F:∀x∈m,InI x)(I:m.length≤1000000):Own QO 1 3 w base (.slice (some ⟨G,0,none⟩) m.length m.length) m (m.map (Value.int .i64)):=by
 refine⟨⟨by simp,.inr ⟨G,m.length,_,rfl,E,h,J5 _,by simp only[maxLen];omega,by simp,by simp;exact M1 (by simp)⟩⟩,fun i x D=>⟨[.int .i64 x],⟨rfl,F x (J6 D)⟩,rfl,fun j u A=>?_⟩⟩;rcases j with _|j
 ·simp at A;subst A;simp[D]
 ·simp at A
theorem Qqb (N:Nat)(C:Option Addr)(Q cb:Nat)(l:List Bkg)(w:World)(hl:Sl ZP 11 w All C Q cb l)(ao:YEb l N)(hN:N≤7)(hn:Q≤2000000000000) :
  Calls prog 120 #[.int .i64 (N:Int),.slice C Q cb] w fun e w'=>∃G,e=.returned (.slice (some ⟨G,0,none⟩) N N)∧w.heap.size≤G∧RowI w' G (QU l N) 3∧yw w w':=by
 have ag:=hl.bd;have HL:=yh hl;have HN:=yh hl.len;have al:=yh ao;clear ao;have aA:=fun W=>Z8b N hN W;clear hl;go_enter func120,ntmps120;go_upto_region 1 with(fail);go_cut [5] (fun p wx=>∃G,p=.slice (some ⟨G,0,none⟩) N N∧w.heap.size≤G∧RowI wx G (QU (l.take 0) N) 3∧yw w wx)
 case first=>as_aux_lemma=>
  go_wp2_with fail;go_meet;exact⟨_,rfl,J5 _,by rw[List.take_zero,XFa];unfold RowI;rw[show((List.replicate N (0:Int)).map (Value.int .i64)).toArray=Array.replicate N (.int .i64 0)by simp];exact Zk _ _,Qi _ _⟩
 obtain⟨G,rfl,hG,A,am⟩:=hcut;have U:=yh A;clear A;have ap:=yh am;clear am;clear aA;obtain⟨W0,rfl⟩:=yE wc;go_wp2_with fail
 go_loopg [13] Q (fun gk i wr=>∃k:Nat,k≤Q∧Q-k≤gk∧i=.int .i64 k∧RowI wr G (QU (l.take k) N) 3∧yw w wr)
 case atStart=>exact⟨0,M0 _,by omega,rfl,U,ap⟩
 case round=>
  obtain⟨k,hk,aF,rfl,A,F⟩:=hrel;by_cases hlt:k<Q
  ·have ay:=Blk.lt A;obtain⟨J,O,⟨id,Y,Z,E,lev,aO,X,V,upto,aa,ab⟩,A3,n3,c3,hA,hx,hF,hI,I⟩:=(HL.bel F).bkg hlt;subst hA;simp only at hF;have y0:yI wr J (O+k*11) id:=I 0 _ rfl;have y1:yI wr J (O+k*11+1) Y:=I 1 _ rfl;have y2:yI wr J (O+k*11+2) Z:=I 2 _ rfl;have y3:yI wr J (O+k*11+3) E:=I 3 _ rfl;have y4:wr.cell? ⟨J,O+k*11+4,none⟩=some (.bool lev):=I 4 _ rfl;have y5:yI wr J (O+k*11+5) aO:=I 5 _ rfl;have y6:yI wr J (O+k*11+6) X:=I 6 _ rfl;have y7:yI wr J (O+k*11+7) V:=I 7 _ rfl;have y8:yI wr J (O+k*11+8) upto:=I 8 _ rfl;have y9:yI wr J (O+k*11+9) aa:=I 9 _ rfl;have aC:yJ wr J (O+k*11+10) A3 n3 c3:=I 10 _ rfl;clear I;go_upto_region 4 with(fail);go_cut [7] (fun p wx=>∃z,yp p z∧wr.heap.size≤z∧Blk wx z (Qk ⟨id,Y,Z,E,lev,aO,X,V,upto,aa,ab⟩ (.slice A3 n3 c3)) 63∧yw wr wx)
   case first=>as_aux_lemma=>
    go_wp2_with fail;go_meet;exact⟨_,rfl,J5 _,Zk _ _,Qi _ _⟩
   obtain⟨z,rfl,aM,D,ad⟩:=hcut;clear y0 y1 y2 y3 y4 y5 y6 y7 y8 y9 aC;replace hF:=hF.bel ad;have A:=A.bel ad
   have aB:z≠G:=by omega
   replace F:=F.trans (ad.mono F.size);clear ad hF;have z0:yI wc z 0 id:=D.cell rfl;have z1:yI wc z 1 Y:=D.cell rfl;have z2:yI wc z 2 Z:=D.cell rfl;have z3:yI wc z 3 E:=D.cell rfl;have z4:wc.cell? ⟨z,4,none⟩=some (.bool lev):=D.cell rfl;have z5:yI wc z 5 aO:=D.cell rfl;have z6:yI wc z 6 X:=D.cell rfl;have z7:yI wc z 7 V:=D.cell rfl;have z8:yI wc z 8 upto:=D.cell rfl;have z9:yI wc z 9 aa:=D.cell rfl;have aD:wc.cell? ⟨z,10,none⟩=some ((.slice A3 n3 c3)):=D.cell rfl;have af:=fun W=>YK ⟨id,Y,Z,E,lev,aO,X,V,upto,aa,ab⟩ (.slice A3 n3 c3) W;obtain⟨q,hq⟩:=yE (QB ⟨id,Y,Z,E,lev,aO,X,V,upto,aa,ab⟩);rw[←hq]at af;have aj:=yh af;have ae:=yh (Vua (N:=N) hx);have ai:=yh (fun i=>Qjb (al.out) k i);obtain⟨⟨o1,o2,o3⟩,o4,o5⟩:=al _ (J6 hx);simp only at o1 o2 o3 o4 o5;obtain⟨f,rfl⟩:∃f:Nat,V=f:=⟨V.toNat,by omega⟩;obtain⟨t,rfl⟩:∃t:Nat,upto=t:=⟨upto.toNat,by omega⟩;obtain⟨M,hM⟩:=yE (QU (l.take k) N);rw[←hM]at ae ai A;have ak:=yh (show M.length=N by rw[hM];exact UH _ _);have HQ:=yh hq;have U:=yh A;clear A;clear af hq hx hI ay hM;go_wp2_with fail;refine yM (aj _) fun w2 ac=>?_;replace D:=D.bel ac;have A:=U.bel ac;replace F:=F.trans (ac.mono F.size);clear ac z0 z1 z2 z3 z4 z5 z6 z7 z8 z9 aD aj U;cases q
   ·have HV:=yh (show QU (l.take (k+1)) N=M by rw[ae.out];exact Zva (fun i _=>by unfold inB;rw[←HQ.out];rfl));have U:=yh A;clear A;go_wp2_with fail;go_roundg (Q-(k+1))
    case measure=>omega
    case rel=>exact⟨k+1,by omega,by omega,by go_num,by rw[HV.out];exact U,F⟩
   ·have z7:yI w2 z 7 (f:Int):=D.cell rfl;have HZ:=yh D;clear D;have U:=yh A;clear A;have HB:=yh F;clear F;go_wp2_with fail
    go_loopg [8] (t-f) (fun ax j ah=>∃j0:Nat,f≤j0∧j0≤t∧t-j0≤ax∧j=.int .i64 j0∧RowI ah G (VL M (fun i=>decide (f≤i) && decide (i<j0)) E) 3∧Blk ah z (Qk ⟨id,Y,Z,E,lev,aO,X,f,t,aa,ab⟩ (.slice A3 n3 c3)) 63∧yw w ah)
    case atStart=>exact⟨f,J5 _,by omega,by omega,rfl,by rw[Zva (fun i _=>by simp<;>omega)];exact U,HZ,HB⟩
    case round=>
     obtain⟨j,aH,aI,aE,rfl,A,D,F⟩:=hrel;have z8:yI wr z 8 (t:Int):=D.cell rfl;have z3:yI wr z 3 E:=D.cell rfl;by_cases hjt:j<t
     ·have an:j<N:=by omega
      have c0:=A.cell (i:=j) (by rw[UMa,ak.out];exact an);have f0:=A.free j;have az:0≤E∧E≤4:=⟨by omega,by omega⟩;have ag:=ZLb (p:=fun i=>decide (f≤i) && decide (i<j)) ai az j;obtain⟨v,hv⟩:=yE ((VL M (fun i=>decide (f≤i) && decide (i<j)) E).getD j 0);rw[←hv]at c0 ag
      have aL:IntKind.i64.wrap (v+E)=v+E:=by have:=HN.out;rw[IntKind.wrap_i64];omega
      have av:=yh (show VL M (fun i=>decide (f≤i) && decide (i<j+1)) E=(VL M (fun i=>decide (f≤i) && decide (i<j)) E).set j (v+E)by
       rw[hv]
       exact V8a (by rw[ak.out];exact an) (by simp) (by simp<;>omega) (fun i _ aG=>by
        have hd:decide (i<j+1)=decide (i<j):=by rw[decide_eq_decide];omega
        rw[hd]))
      have aJ:(0:Int)≤(j:Int):=Int.natCast_nonneg _
      have aK:(j:Int)<(N:Int):=by omega
      have ar:=yh (fun u=>(A.bel (J4 _ wr).drew).set j u);have aw:=yh (fun u=>Blk.other (D.bel (J4 _ wr).drew) (p:=⟨G,j,none⟩) (fun e=>aB e.symm) u);have aq:=yh (fun u=>(F.drew).setCell (p:=⟨G,j,none⟩) hG u);clear hv A D F ag;go_wp2_with fail;go_region_with (fail)
      all_goals
       go_wp2_with fail;go_roundg (t-(j+1))
       case measure=>omega
       case rel=>exact⟨j+1,by omega,by omega,by omega,by go_num,by rw[av.out];exact ar _,aw _,aq _⟩
     ·obtain rfl:j=t:=by omega
      have HV:=yh (show QU (l.take (k+1)) N=VL M (fun i=>decide (f≤i) && decide (i<j)) E by
       rw[ae.out]
       exact Qya (fun i _=>by
        unfold inB;rw[←HQ.out];simp only[Bool.true_and]
        have h1:decide ((f:Int)≤(i:Int))=decide (f≤i):=by rw[decide_eq_decide];omega
        have h2:decide ((i:Int)<(j:Int))=decide (i<j):=by rw[decide_eq_decide];omega
        rw[h1,h2]))
      have au:=yh A;clear A;clear D;go_wp2_with fail;go_roundg (Q-(k+1))
      case measure=>omega
      case rel=>exact⟨k+1,by omega,by omega,by go_num,by rw[HV.out];exact au,F⟩
  ·obtain rfl:k=Q:=by omega
   rw[M1 (Nat.le_of_eq HN.out)]at A;go_wp2_with fail;go_ret;exact⟨G,rfl,hG,A,F⟩
theorem Yqa (N:Nat)(C:Option Addr)(I cb:Nat)(l:List Bkg)(w:World)(hl:Sl ZP 11 w All C I cb l)(ax:YEb l N)(hN:N≤7)(hn:I≤2000000000000) :
  Calls prog 151 #[.int .i64 (N:Int),.slice C I cb] w fun e w'=>∃G,e=.returned (.slice (some ⟨G,0,none⟩) N N)∧w.heap.size≤G∧RowI w' G (QU l N) 3∧yw w w':=by
 have ae:=hl.bd;have HL:=yh hl;have HN:=yh hl.len;have ak:=yh ax;clear ax;have aK:=fun W=>Z8b N hN W;clear hl;go_enter func151,ntmps151;go_upto_region 1 with(fail);go_cut [5] (fun p wx=>∃G,p=.slice (some ⟨G,0,none⟩) N N∧w.heap.size≤G∧RowI wx G (QU (l.take 0) N) 3∧yw w wx)
 case first=>as_aux_lemma=>
  go_wp2_with fail;go_meet;exact⟨_,rfl,J5 _,by rw[List.take_zero,XFa];unfold RowI;rw[show((List.replicate N (0:Int)).map (Value.int .i64)).toArray=Array.replicate N (.int .i64 0)by simp];exact Zk _ _,Qi _ _⟩
 obtain⟨G,rfl,hG,A,ar⟩:=hcut;have HR:=yh A;clear A;have aD:=yh ar;clear ar;clear aK;obtain⟨W0,rfl⟩:=yE wc;go_wp2_with fail
 go_loopg [6] I (fun gk i wr=>∃k:Nat,k≤I∧I-k≤gk∧i=.int .i64 k∧RowI wr G (QU (l.take k) N) 3∧yw w wr)
 case atStart=>exact⟨0,M0 _,by omega,rfl,HR,aD⟩
 case round=>
  obtain⟨k,hk,aO,rfl,A,J⟩:=hrel;by_cases hlt:k<I
  ·have ai:=yh (fun i=>Qjb (ak.out) k i);obtain⟨y,hy⟩:∃y,l[k]? = some y:=⟨_,J1 (by have:=HN.out;omega)⟩;have am:=yh (Vua (N:=N) hy);obtain⟨⟨o1,o2,o3⟩,o4,o5⟩:=ak _ (J6 hy);obtain⟨M,hM⟩:=yE (QU (l.take k) N);rw[←hM]at am ai A;have ac:=yh (show M.length=N by rw[hM];exact UH _ _);have HY:=yh hy;clear hy;have HR:=yh A;clear A;have HB:=yh J;clear J;clear hM;go_wp2_with fail
   go_loopg [7] N (fun aJ j aC=>∃j0:Nat,j0≤N∧N-j0≤aJ∧j=.int .i64 j0∧RowI aC G (VL M (fun i=>decide (i<j0) && inB y i) y.gst) 3∧yw w aC)
   case atStart=>exact⟨0,M0 _,by omega,rfl,by rw[Zva (fun i _=>by simp)];exact HR,HB⟩
   case round=>
    obtain⟨j,aP,aN,rfl,A,J⟩:=hrel;by_cases hjt:j<N
    ·have c0:=A.cell (i:=j) (by rw[UMa,ac.out];exact hjt);have f0:=A.free j;have av:0≤y.gst∧y.gst≤4:=⟨by omega,by omega⟩;have ae:=ZLb (p:=fun i=>decide (i<j) && inB y i) ai av j;obtain⟨v,hv⟩:=yE ((VL M (fun i=>decide (i<j) && inB y i) y.gst).getD j 0);rw[←hv]at c0 ae
     have aq:inB y j=true→VL M (fun i=>decide (i<j+1) && inB y i) y.gst=(VL M (fun i=>decide (i<j) && inB y i) y.gst).set j (v+y.gst):=fun ah=>by
       rw[hv]
       exact V8a (by rw[ac.out];exact hjt) (by simp) (by simp[ah]) (fun i _ aw=>by
        have hd:decide (i<j+1)=decide (i<j):=by rw[decide_eq_decide];omega
        simp only[hd])
     have ap:inB y j=false→VL M (fun i=>decide (i<j+1) && inB y i) y.gst=VL M (fun i=>decide (i<j) && inB y i) y.gst:=fun ah=>
       Qya (fun i _=>by
        by_cases aw:i=j
        ·subst aw;simp[ah]
        ·have hd:decide (i<j+1)=decide (i<j):=by rw[decide_eq_decide];omega
         simp only[hd])
     have aF:=yh (fun u=>(A.bel (J4 _ wr).drew).set j u);have aM:=yh (fun u=>(J.drew).setCell (p:=⟨G,j,none⟩) hG u);have ad:=yh (A.bel (J4 _ wr).drew);have aY:=yh A;have O:=yh J;have al:=yh aq;clear aq;have V:=yh ap;clear ap;clear hv;obtain⟨E,F,⟨id,aA,ab,Z,lev,an,ao,Y,upto,aB,aI⟩,A3,n3,c3,hA,hx,hF,hI,D⟩:=(HL.bel J).bkg hlt;subst hA;simp only at hF;have y0:yI wr E (F+k*11) id:=D 0 _ rfl;have y1:yI wr E (F+k*11+1) aA:=D 1 _ rfl;have y2:yI wr E (F+k*11+2) ab:=D 2 _ rfl;have y3:yI wr E (F+k*11+3) Z:=D 3 _ rfl;have y4:wr.cell? ⟨E,F+k*11+4,none⟩=some (.bool lev):=D 4 _ rfl;have y5:yI wr E (F+k*11+5) an:=D 5 _ rfl;have y6:yI wr E (F+k*11+6) ao:=D 6 _ rfl;have y7:yI wr E (F+k*11+7) Y:=D 7 _ rfl;have y8:yI wr E (F+k*11+8) upto:=D 8 _ rfl;have y9:yI wr E (F+k*11+9) aB:=D 9 _ rfl;have aL:yJ wr E (F+k*11+10) A3 n3 c3:=D 10 _ rfl;clear D;have X:=yh (show y=⟨id,aA,ab,Z,lev,an,ao,Y,upto,aB,aI⟩from by have h1:=HY.out;rw[hx]at h1;injection h1 with h1;exact h1.symm)
     have ag:y.gst=Z:=by rw[X.out]
     have U:=yh ag;rw[ag]at al V aF ad aY av
     have au:y.frm=Y:=by rw[X.out]
     have ay:y.upto=upto:=by rw[X.out]
     rw[au]at o1 o2;rw[ay]at o2 o3
     have aW:IntKind.i64.wrap (v+Z)=v+Z:=by have:=HN.out;rw[IntKind.wrap_i64];omega
     have aV:IntKind.i64.wrap (upto-1)=upto-1:=by rw[IntKind.wrap_i64];omega
     have aQ:(0:Int)≤(j:Int):=Int.natCast_nonneg _
     have aR:(j:Int)<(N:Int):=by omega
     have aS:(0:Int)≤(k:Int):=Int.natCast_nonneg _
     have aT:(k:Int)<(I:Int):=by omega
     clear hx hF hI A J ae ag au ay;by_cases hst:ab=3
     ·have Q:=yh (show inB y j=false by rw[X.out];unfold inB QB;rw[J2 hst];rfl);subst hst;go_wp2_with fail;go_quiet (fail);go_wp2_with fail;go_roundg (N-(j+1))
      case measure=>omega
      case rel=>exact⟨j+1,by omega,by omega,by go_num,by first|(rw[U.out,V.out Q.out];exact ad)|(rw[U.out,V.out Q.out];exact aY.bel (below_drewN (J4 _ _) _)),by first|exact O.drew|exact below_drewN O _⟩
     ·have aU:(ab !=3)=true:=by simpa using hst
      have af:=fun W=>Qj (j:Int) Y (upto-1) W;obtain⟨q,hq⟩:=yE (Qc (j:Int) Y (upto-1));rw[←hq]at af;have aj:=yh af;clear af
      have Q:=yh (show inB y j=q by
       rw[X.out,hq];unfold inB QB Qc;rw[J3 hst]
       have h2:decide ((j:Int)<upto)=decide ((j:Int)≤upto-1):=by rw[decide_eq_decide];omega
       simp only[h2]
       rfl)
      clear hst hq;cases q
      ·skip;go_wp2_with fail;go_quiet (first|(go_at_call 70;refine Calls.quiet_of_same ((aj _).mono fun e w' hh=>⟨hh.1,hh.2.symm⟩)));go_wp2_with fail;go_roundg (N-(j+1))
       case measure=>omega
       case rel=>exact⟨j+1,by omega,by omega,by go_num,by first|(rw[U.out,V.out Q.out];exact ad)|(rw[U.out,V.out Q.out];exact aY.bel (below_drewN (J4 _ _) _)),by first|exact O.drew|exact below_drewN O _⟩
      ·skip;go_upto_region 8 with(fail);go_cut [43] (fun t wx=>t=.bool true∧∃n0,wx=wr.drewN n0)
       case first=>as_aux_lemma=>
        go_quiet (first|(go_at_call 70;refine Calls.quiet_of_same ((aj _).mono fun e w' hh=>⟨hh.1,hh.2.symm⟩)));go_wp2_with fail;go_meet;exact⟨rfl,_,rfl⟩
       obtain⟨rfl,n0,az⟩:=hcut
       have aa:yw wr wc:=by rw[az];exact below_drewN (J4 _ _) _
       have c0:=Qh aa c0;have f0:wc.frozen? ⟨G,j,none⟩=false:=(aY.bel aa).free j;have y3:=Qh aa y3;have aH:=yh (fun u=>((aY.bel aa).bel (J4 _ wc).drew).set j u);have aE:=yh (fun u=>((O.trans (aa.mono O.size)).drew).setCell (p:=⟨G,j,none⟩) hG u);clear az y0 y1 y2 y4 y5 y6 y7 y8 y9 aL;go_wp2_with fail;go_region_with (fail)
       all_goals
        go_wp2_with fail;go_roundg (N-(j+1))
        case measure=>omega
        case rel=>exact⟨j+1,by omega,by omega,by go_num,by rw[U.out,al.out Q.out];exact aH _,aE _⟩
    ·obtain rfl:j=N:=by omega
     have HV:=yh (show QU (l.take (k+1)) j=VL M (fun i=>decide (i<j) && inB y i) y.gst by
      rw[am.out]
      exact Qya (fun i hi=>by rw[ac.out]at hi;rw[J2 hi];rfl))
     have aG:=yh A;clear A;go_wp2_with fail;go_roundg (I-(k+1))
     case measure=>omega
     case rel=>exact⟨k+1,by omega,by omega,by go_num,by rw[HV.out];exact aG,J⟩
  ·obtain rfl:k=I:=by omega
   rw[M1 (Nat.le_of_eq HN.out)]at A;go_wp2_with fail;go_ret;exact⟨G,rfl,hG,A,J⟩
structure OkBk (x:Shp) (b:Bkg):Prop where
 kind:Qc b.kind 1 2=true
 state:Qc b.state 1 3=true
 id:Qc b.id 1 999999=true
 gst:1≤b.gst∧b.gst≤4
 span:VS ⟨b.frm,b.upto⟩ x.legs=0
 kindE:kindE x b=0
 til:Qc b.til 0 9999=true
 opt:b.til≠0→b.state=1
 fol:Qe b.fol=0
theorem Yh {a b:Bool}(h:¬(a && b)=false):a=true∧b=true:=by cases a<;>cases b<;>simp_all
theorem Ub {a:Bool}(h:¬a=false):a=true:=by cases a<;>simp_all
theorem ZZa {x:Shp}{b:Bkg}(h:ofE x b=0):OkBk x b:=by
 unfold ofE at h;by_cases h1:(Qc b.kind 1 2 && Qc b.state 1 3)=false
 ·rw[M3 h1]at h;omega
 rw[M2 h1]at h;by_cases h2:(Qc b.id 1 999999 && Qc b.gst 1 4)=false
 ·rw[M3 h2]at h;omega
 rw[M2 h2]at h;by_cases h3:VS ⟨b.frm,b.upto⟩ x.legs≠0
 ·rw[M3 h3]at h;exact absurd h h3
 rw[M2 h3]at h;by_cases h4:Go.Proofs.YtjdcokpmgionjaaGreat.kindE x b≠0
 ·rw[M3 h4]at h;exact absurd h h4
 rw[M2 h4]at h;by_cases h5:Qc b.til 0 9999=false
 ·rw[M3 h5]at h;omega
 rw[M2 h5]at h;by_cases h6:b.til≠0∧b.state≠1
 ·rw[M3 h6]at h;omega
 rw[M2 h6]at h;obtain⟨A,D⟩:=Yh h1;obtain⟨E,F⟩:=Yh h2
 exact⟨A,D,E,Ql.1 F,by omega,by omega,Ub h5,fun I=>by
  by_cases hs:b.state=1
  ·exact hs
  ·exact absurd ⟨I,hs⟩ h6,h⟩
theorem QWa {x:Shp}{b:Bkg}(_:OkShp x)(h:OkBk x b):0≤b.frm∧b.frm<b.upto∧b.upto≤x.legs:=(QJc h.span).2.2
theorem Zla {x:Shp}(A:OkShp x):1≤x.legs∧x.legs≤7:=Ql.1 A.legs
theorem Zna {x:Shp}{l:List Bkg}(D:OkShp x)(h:∀b∈l,OkBk x b):VMb l:=fun b E=>by
 have A:=QWa D (h b E);have F:=Zla D;exact⟨A.1,A.2.1,by simp only;omega⟩
theorem ZKb {x:Shp}{l:List Bkg}(E:OkShp x)(h:∀b∈l,OkBk x b):YEb l x.legs.toNat:=fun b D=>by
 have A:=QWa E (h b D);have F:=Zla E;exact⟨⟨A.1,A.2.1,by omega⟩,(h b D).gst⟩
def Z4b (l:List Bkg) (k:Nat):List Bkg:=l.take k++l.drop (k+1)
theorem Q5b {l:List Bkg}{k:Nat}{b:Bkg}(h:l[k]? = some b):l=l.take k++b::l.drop (k+1):=by
 obtain⟨A,rfl⟩:=J0.1 h;rw[List.getElem_cons_drop,List.take_append_drop]
end Go.Proofs.YtjdcokpmgionjaaGreat
