/-
  Laws and contracts.
-/
import Derived.Test.YtjdcokpmgionjaaGreatBun14
import Derived.Test.YtjdcokpmgionjaaGreatBun16
import Derived.BigQuiet
set_option linter.unusedSimpArgs false
set_option linter.unusedVariables false
set_option maxRecDepth 100000
set_option maxHeartbeats 20000000
namespace Go.Proofs.YtjdcokpmgionjaaGreat
open Proofs.Tryz Go.RowKit Go.Shelf
theorem Vub {α:Type}{a w:World}(c:Cod α)(size:Nat)(e:TypeId)(h:yw a w):∀g,g=w.heap.size→Own c size e (w.alloc (.cells #[] e)) a.heap.size (.slice (some ⟨g,0,none⟩) 0 0) [] []:=fun g A=>by subst A;exact Own.empty c size h.size (Zg w _)
theorem ZA {n:Nat}{a w:World}(_:Below n a w)(cs:Array Value)(t:TypeId):∀g,g=w.heap.size→Blk (w.alloc (.cells cs t)) g cs t:=fun g A=>by subst A;exact Blk.new w cs t
theorem Xi {a w:World}(h:yw a w):∀g,g=w.heap.size→a.heap.size≤g:=fun g A=>by subst A;exact h.size
theorem QNc {n q:Nat}{w:World}{cs:List Value}{t:TypeId}(h:Blk w q cs.toArray t)(D:cs.length=n)(E:∀u∈cs,u.oneCell'=true):Sl (ZS n) n w All (some ⟨q,0,none⟩) 1 1 [cs]:=
 ⟨rfl,J5 _,by simp[maxLen],fun i y A=>by
  have F:i=0:=by have:=(J0.1 A).1;simp at this;omega
  subst F;simp at A;subst A
  exact⟨q,0,_,rfl,trivial,⟨rfl,D,E⟩,D,fun j u I=>h.cell (by simpa using I)⟩⟩
theorem Zaa (b:Bkg)(A:Option Addr)(n cap:Nat):∀u∈(Qj b (.slice A n cap)).toList,u.oneCell'=true:=fun u D=>by
 simp at D;rcases D with rfl | rfl | rfl | rfl | rfl | rfl | rfl | rfl | rfl | rfl | rfl<;>rfl
theorem Vk {P:Program}{U:Array Oper}{A:Oper}{a:Act}{w:World}{K:Act→World→Prop}{Q:Exit→Act→World→Prop}{E:Prop}(F:A.guard=none)(ty:TypeId)(x:Operand)(J:A.op=.load ty x)
  (b o:Nat) (W:a.eval x=.pointer (some ⟨b,o,none⟩)) (cs:List Value) (d:TypeDesc) (D:w.rangeAt b o cs) (O:P.underlying ty=some d) (V:d.isRow=true) (I:(P.info? ty).map (·.size)=some cs.length)
  (h:K (a.put A.dst (.agg cs.toArray)) w):if Region.wanted A (yielded U a.tmps)=true then Oper.wp P A a w K Q else E:=by
 rw[M3 (by simp[Region.wanted,F])];exact wp_load_mid ty x J b o W cs d D O V I h
theorem YH {P:Program}{V:Array Oper}{D:Oper}{a:Act}{w:World}{K:Act→World→Prop}{Q:Exit→Act→World→Prop}{E:Prop}(F:D.guard=none)(ty:TypeId)(x y:Operand)(J:D.op=.store ty x y)
  (b o:Nat) (A:List Value) (X:a.eval x=.pointer (some ⟨b,o,none⟩)) (U:a.eval y=.agg A.toArray) (O:w.there b o A.length) (I:(P.info? ty).map (·.size)=some A.length) (W:∀u∈A,u.oneCell'=true)
  (h:K (a.put D.dst undef) (w.setCells b o A)):if Region.wanted D (yielded V a.tmps)=true then Oper.wp P D a w K Q else E:=by
 rw[M3 (by simp[Region.wanted,F])];exact wp_store_mid ty x y J b o A.toArray X U (by simpa using O) (by simpa using I) (all_oneCell_toArray W) (by simpa using h)
theorem Vba (K:World→Prop)(x:Sai)(p:SaiV)(b:Bkg)(Z:Option Addr)(n3 c3:Nat)(L:List (List Value))(w:World)(hS:∀X,K X→SaiR X x p)(hP:∀X,K X→Pts ZJ X L x.bks)(hf:∀X,K X→Sl Ql 3 X All Z n3 c3 b.fol)(hw:K w)(aq:Sl (ZS 11) 11 w All p.C p.nb p.cb L)
  (hI:BkIn b) (hr:VR x.bks) (hn:Zu x.bks b.id=false) (bO:x.bks.length≤16) :
  Calls prog 93 #[.agg (Qa x p),.agg (Qj b (.slice Z n3 c3))] w fun e w'=>∃q p',e=.returned (.agg (Qa (Q1 x b) p'))∧w.heap.size≤q∧q < w'.heap.size∧(∀X,K X→X.heap[q]? = w'.heap[q]?→SaiR X (Q1 x b) p')∧yw w w':=by
 obtain⟨A,n,cap,B,m,ae,D,nd,cd,E,ne,ce,C,Y,cb⟩:=p;simp only at aq;obtain⟨id,Q,U,J,lev,ca,F,I,upto,V,cc⟩:=b;simp only at hf hn;have aD:L.length=Y:=aq.len
 have a8:x.bks.length=Y:=by rw[←aD];exact(hP w hw).len.symm
 have b4:Y≤16:=by omega
 have bz:=yh (fun(i:Nat) hi bU bV=>QAc (b:=⟨id,Q,U,J,lev,ca,F,I,upto,V,cc⟩) (i:=i) hr hn hi bU bV);have a2:=hP w hw;have HS:=yh hS;clear hS;have HF:=yh hf;clear hf;have HI:=yh hI;clear hI;have bD:=yh aq;clear aq;have bC:=yh a2;clear a2;have bI:=yh hP;clear hP;have ab:=yh aD;clear aD;have an:=yh a8;clear a8;clear hr hn bO;go_enter func93,ntmps93;go_upto_region 0 with(fail);go_cut [2,3,4] (fun p p2 p3 wx=>∃g h z,yp p g∧yp p2 h∧yp p3 z∧w.heap.size≤g∧w.heap.size≤h∧w.heap.size≤z∧g≠h∧g≠z∧h≠z∧Blk wx g (Qa x ⟨A,n,cap,B,m,ae,D,nd,cd,E,ne,ce,C,Y,cb⟩) 32∧Blk wx h (Qj ⟨id,Q,U,J,lev,ca,F,I,upto,V,cc⟩ (.slice Z n3 c3)) 63∧Blk wx z M9 32∧yw w wx)
 case first=>as_aux_lemma=>
  go_wp2_with fail;go_meet;exact⟨_,_,_,rfl,rfl,rfl,J5 _,by omega,by omega,by omega,by omega,by omega,U6 _ _ _ _,U7 _ _ _ _,U8 _ _ _ _,Yg _ _ _ _⟩
 obtain⟨g,h,z,rfl,rfl,rfl,hg,hh,hz,b1,bT,b3,hG,hH,hZ,hb⟩:=hcut;obtain⟨W2,rfl⟩:=yE wc;have bl:=hb.size;have ai:=yh (show ∀X,yw W2 X→(fun w'=>yJ w' g 11 C Y cb∧(yI w' h 0 id∧yI w' h 1 Q∧yI w' h 2 U∧yI w' h 3 J∧w'.cell? ⟨h,4,none⟩=some (.bool lev)∧yI w' h 5 ca∧yI w' h 6 F∧yI w' h 7 I∧yI w' h 8 upto∧yI w' h 9 V∧yJ w' h 10 Z n3 c3)) X from fun X O=>⟨(hG.bel O).cell rfl,(hH.bel O).cell rfl,(hH.bel O).cell rfl,(hH.bel O).cell rfl,(hH.bel O).cell rfl,(hH.bel O).cell rfl,(hH.bel O).cell rfl,(hH.bel O).cell rfl,(hH.bel O).cell rfl,(hH.bel O).cell rfl,(hH.bel O).cell rfl,(hH.bel O).cell rfl⟩)
 have ba:(([]:List (List Value)).length+Y)*104≤140737488355328:=by simp;omega
 have bb:(L.length+1)*104≤140737488355328:=by rw[ab.out];omega
 have bE:=yh (fun X (O:yw W2 X)=>bD.bel (hb.trans (O.mono bl)));have HB:=yh hb;clear hb;have HG:=yh hG;clear hG;have HZ:=yh hZ;clear hZ;have HH:=yh hH;clear hH;go_upto_region 1 with(fail);go_cut [5] (fun p wx=>∃q cp xs W,W=Y+1∧p=.slice (some ⟨q,0,none⟩) W cp∧W2.heap.size≤q∧Own (ZS 11) 11 63 wx W2.heap.size (.slice (some ⟨q,0,none⟩) W cp) (L++[(Qj ⟨id,Q,U,J,lev,ca,F,I,upto,V,cc⟩ (.slice Z n3 c3)).toList]) xs∧yw W2 wx)
 case first=>
  have b9:yw W2 W2.drew:=(J4 _ W2).drew;refine yZ (S:=(fun w'=>yJ w' g 11 C Y cb∧(yI w' h 0 id∧yI w' h 1 Q∧yI w' h 2 U∧yI w' h 3 J∧w'.cell? ⟨h,4,none⟩=some (.bool lev)∧yI w' h 5 ca∧yI w' h 6 F∧yI w' h 7 I∧yI w' h 8 upto∧yI w' h 9 V∧yJ w' h 10 Z n3 c3))) (ai _ b9) fun aa=>?_;refine yT [1,2,4] ?_;iterate 3 (refine yS ?_;simp only[yU])
  focus
   refine yr2 0 5 (fun K k0=>?_) (fun K k5=>?_)
   repeat first
    |
     revert k0
     intro hK;go_simp;refine hK.out _ _ (ai _ (b9.alloc b9.size (.cells #[] 63))) fun aa=>?_;clear hK K
     try simp only[yU]
     (have ak:=Vub (ZS 11) 11 63 b9;(try replace hL:=fun g hg=>(hL g hg).bel (Qi _ (.cells #[] 63)));replace b9:=b9.alloc b9.size (.cells #[] 63))
     first
      | refine yt2 3 5 (fun K k3=>?_) (fun K k5=>?_)
      | refine yt1 3 (fun K k3=>?_)
    |
     revert k3
     intro hK
     (refine UY (v:=.slice (some ⟨_,0,none⟩) 0 0) (t:=30) (e:=63) (bytes:=104) (base:=W2.heap.size) (c:=ZS 11) (l:=[]) (xs:=[]) (l2:=L) (S:=All) rfl (.tmp 7) (.tmp 9) rfl VS (QU 11) rfl rfl (ak _ (by simp)) (bE _ b9) (fun _ _ hc=>hc) ba (by omega) b9.size ?_;intro v' w' b0 ac aI bP;(try replace hL:=fun g hg=>(hL g hg).grown aI (by subst hg;simp[Value.ownBlock]));replace b9:=QA b9 (ak _ (by simp)) aI b9.size;clear ak aI bP)
     refine hK.out _ _ (ai _ b9) fun aa=>?_;clear hK K
     try simp only[yU]
     first
      | refine yt1 5 (fun K k5=>?_)
      | rotate_left
    |
     revert k5
     intro hK;go_simp;refine hK.out _ _ (ai _ (b9.alloc b9.size (.cells (Qj ⟨id,Q,U,J,lev,ca,F,I,upto,V,cc⟩ (.slice Z n3 c3)) 63))) fun aa=>?_;clear hK K
     try simp only[yU]
     (have hL:=ZA b9 (Qj ⟨id,Q,U,J,lev,ca,F,I,upto,V,cc⟩ (.slice Z n3 c3)) 63;(try replace ak:=fun g hg=>(ak g hg).bel (Qi _ (.cells (Qj ⟨id,Q,U,J,lev,ca,F,I,upto,V,cc⟩ (.slice Z n3 c3)) 63)));(try replace ac:=ac.bel (Qi _ (.cells (Qj ⟨id,Q,U,J,lev,ca,F,I,upto,V,cc⟩ (.slice Z n3 c3)) 63)));replace b9:=b9.alloc b9.size (.cells (Qj ⟨id,Q,U,J,lev,ca,F,I,upto,V,cc⟩ (.slice Z n3 c3)) 63))
     first
      | refine yt1 0 (fun K k0=>?_)
      | refine yt1 3 (fun K k3=>?_)
      | rotate_left
   all_goals
    refine yR 6 fun K hK=>?_
    (refine UY (t:=30) (e:=63) (bytes:=104) (base:=W2.heap.size) (c:=ZS 11) (l:=L) (xs:=b0) (l2:=[(Qj ⟨id,Q,U,J,lev,ca,F,I,upto,V,cc⟩ (.slice Z n3 c3)).toList]) (S:=All) rfl (.tmp 10) (.tmp 12) rfl VS (QU 11) rfl rfl ac (QNc (hL _ (by simp)) rfl (Zaa _ _ _ _)) (fun _ _ hc=>hc) bb (by omega) b9.size ?_;intro v2 w2 b7 ar bf bQ;replace b9:=QA b9 ac bf b9.size;clear ac bf bQ hL)
    refine hK.out _ _ (ai _ b9) fun aa=>?_;clear hK K
    try simp only[yU]
    refine yT [7] ?_;iterate 1 (refine yS ?_;simp only[yU])
    refine yD ?_;obtain⟨q,cp,rfl,hq,_⟩:=ar.form (by simp)
    have bg:(L++[(Qj ⟨id,Q,U,J,lev,ca,F,I,upto,V,cc⟩ (.slice Z n3 c3)).toList]).length=Y+1:=by rw[J9,ab.out];rfl
    rw[bg]at ar ⊢;have bG:=yh ar;clear ar;clear bg;go_wp2_with fail;go_meet;exact⟨_,_,_,_,rfl,rfl,hq,bG,b9⟩
 obtain⟨q,cp,xs,W,bh,rfl,hq,hO,a6⟩:=hcut;obtain⟨W3,rfl⟩:=yE wc
 have bj:q≠g:=fun e=>by have:=HG.lt;omega
 have bk:q≠z:=fun e=>by have:=HZ.lt;omega
 obtain⟨bc,aw⟩:=yE ((Qj ⟨id,Q,U,J,lev,ca,F,I,upto,V,cc⟩ (.slice Z n3 c3)).toList);rw[←aw]at hO;have bu:=yh (show bc.length=11∧(∀u∈bc,u.oneCell'=true)∧bc[0]? = some (.int .i64 id)from by rw[aw];exact⟨rfl,Zaa _ _ _ _,rfl⟩);have bv:=yh aw;clear aw;have am:=yh a6;clear a6;have HO:=yh hO;clear hO
 have bZ:IntKind.i64.wrap ((W:Int) - 1)=(Y:Int):=by rw[IntKind.wrap_i64];omega
 have bF:=yh bh;clear bh;clear ba bb;go_wp2_with fail
 go_loopg [6] Y (fun gk i wr=>∃(k:Nat) (xs:List Value),k≤Y∧k≤gk∧i=.int .i64 k∧Own (ZS 11) 11 63 wr W2.heap.size (.slice (some ⟨q,0,none⟩) W cp) (L.take k++bc::L.drop k) xs∧Aside (∀(j:Nat) (c:Bkg),k≤j→x.bks[j]? = some c→id < c.id)∧Kept (fun b=>b=q) W3 wr)
 case atStart=>exact⟨Y,xs,J5 _,J5 _,by first | rfl | go_num,by rw[M1 (by rw[ab.out];exact J5 _),List.drop_eq_nil_of_le (by rw[ab.out];exact J5 _)];exact HO,fun j c hj hc=>absurd (J0.1 hc).1 (by rw[an.out];omega),Kept.refl _ _⟩
 case round=>
  obtain⟨k,b6,hk,b2,rfl,ac,HA,hK⟩:=hrel;obtain⟨tv,bp⟩:=yE (decide (0 < k) && decide (id < (x.bks.getD (k - 1) default).id));have cf:=yh bp;clear bp;have aT:=yh (show W=Y+1 from bF);have ao:=yh ac;clear ac;have aP:=yh hK;clear hK;clear bZ;go_upto_region 3 with(fail);go_cut [32] (fun p wx=>p=.bool tv∧yw wr wx)
  case first=>as_aux_lemma=>
   by_cases q0:k=0
   ·subst q0
    obtain rfl:tv=false:=by rw[cf.out];rfl
    go_quiet (fail);go_wp2_with fail;go_meet;exact⟨rfl,below_drewN (J4 _ _) _⟩
   ·obtain⟨j,hj⟩:∃j,j+1=k:=⟨k - 1,by omega⟩
    have aJ:j < x.bks.length:=by rw[an.out];omega
    have ax:j < L.length:=by rw[ab.out];omega
    have aG:=J1 aJ;have ad:=J1 ax;obtain⟨A9,n9,c9,cg,-,-⟩:=bC.el j _ _ ad aG
    have e1:(L.take k++bc::L.drop k)[k]? = some bc:=by
     rw[List.getElem?_append_right (by rw[J8];omega),J8,show k - min k L.length=0 by rw[ab.out];omega];rfl
    have e2:(L.take k++bc::L.drop k)[j]? = some L[j]:=by
     rw[List.getElem?_append_left (by rw[J8];omega),List.getElem?_take,M3 (by omega)];exact ad
    obtain⟨aV,⟨rfl,_,_⟩,_,af,_⟩:=ao.range e1;obtain⟨aW,⟨rfl,_,_⟩,_,ah,_⟩:=ao.range e2;have y1:yI wr q (k*11) id:=af 0 _ bu.2.2;have y2:wr.cell? ⟨q,j*11,none⟩=some (.int .i64 x.bks[j].id):=ah 0 _ (by rw[cg];rfl);obtain⟨cj,aH⟩:=yE (x.bks[j].id);rw[←aH]at y2;have hm:=aT.out
    obtain rfl:tv=decide (id < cj):=by
     rw[cf.out,J2 (show 0 < k by omega),Bool.true_and,J7,show k - 1=j by omega,aG,aH];rfl
    have d1:decide (0 < k)=true:=J2 (by omega)
    have d2:(0:Int)≤(k:Int):=by omega
    have d3:(k:Int) < (W:Int):=by omega
    have d4:(0:Int)≤(j:Int):=by omega
    have d5:(j:Int) < (W:Int):=by omega
    have d6:IntKind.i64.wrap ((k:Int) - 1)=(j:Int):=by rw[IntKind.wrap_i64];omega
    clear q0 hj aG ad cg e1 e2 af ah aH hm;go_quiet (fail);go_wp2_with fail;go_meet;exact⟨rfl,below_drewN (J4 _ _) _⟩
  obtain⟨rfl,aF⟩:=hcut;have al:=ao.bel aF;have ag:=aP.trans (Kept.of_below aF (fun k hk h2=>absurd h2 (by omega)));clear aF ao aP;cases tv
  ·have bw:=yh (bz k (by rw[an.out];exact hk) HA (fun c h0 hc=>by
    have h:=cf.out;rw[J2 h0,Bool.true_and,J7,hc]at h;have:=of_decide_eq_false h.symm;simp only[Option.getD_some]at this
    exact Int.not_lt.1 this))
   have aZ:=(HG.bel am).kept ag (fun e=>bj e.symm);have a4:=(HZ.bel am).kept ag (fun e=>bk e.symm);obtain⟨w9,rfl⟩:=yE wc;have a9:yw w w9:=(HB.trans (am.mono HB.size)).trans (ag.below (B:=w.heap.size) (HB.trans (am.mono HB.size)).size (fun k hk e=>by omega));have bX:=(al.lt q rfl).2;obtain⟨A8,n8,c8,bq,ay⟩:=al.sl (QU 11);simp only[Value.slice.injEq]at bq;obtain⟨rfl,rfl,rfl⟩:=bq;replace ay:=ay.all (QU 11) (by omega);have az:=yh aZ;clear aZ;have bN:=yh a4;clear a4;have ap:=yh ay;clear ay;have aO:=yh a9;clear a9;clear al ag;go_upto_region 6 with(fail);go_cut [2] (fun p wx=>yp p g∧Blk wx g (Qa (Q1 x ⟨id,Q,U,J,lev,ca,F,I,upto,V,cc⟩) ⟨A,n,cap,B,m,ae,D,nd,cd,E,ne,ce,(some ⟨q,0,none⟩),W,cp⟩) 32∧Kept (fun k=>k=g) w9 wx)
   case first=>as_aux_lemma=>
    have b5:yJ w9 g 11 C Y cb:=az.cell rfl;have mf:w9.frozen? ⟨g,11,none⟩=false:=az.free 11;go_wp2_with fail;go_meet;exact⟨rfl,az.set (j:=11) _,(Kept.refl (fun k=>k=g) _).setCell (p:=⟨g,11,none⟩) (.inl rfl) _⟩
   obtain⟨rfl,aY,aA⟩:=hcut;obtain⟨bs,rfl⟩:=yE wc;have a3:=bN.kept aA (fun e=>bT e.symm);have bx:=yh aY;have aU:=yh a3;have bA:=yh aA;clear aA;clear aY a3;go_wp2_with (first | (refine yV (.tmp 2) bx underlying32 ?_) | (refine yX 32 (.tmp 4) (.tmp 53) z (Qa (Q1 x ⟨id,Q,U,J,lev,ca,F,I,upto,V,cc⟩) ⟨A,n,cap,B,m,ae,D,nd,cd,E,ne,ce,(some ⟨q,0,none⟩),W,cp⟩) aU ?_));refine yq (.agg (Qa (Q1 x ⟨id,Q,U,J,lev,ca,F,I,upto,V,cc⟩) ⟨A,n,cap,B,m,ae,D,nd,cd,E,ne,ce,(some ⟨q,0,none⟩),W,cp⟩)) (k:=4) (aU.row _) underlying32 ?_;have aC:Kept (fun k=>k=g∨k=z) w9 (bs.setRow z (Qa (Q1 x ⟨id,Q,U,J,lev,ca,F,I,upto,V,cc⟩) ⟨A,n,cap,B,m,ae,D,nd,cd,E,ne,ce,(some ⟨q,0,none⟩),W,cp⟩)):=(bA.mono fun k _ hk=>.inl hk).setRow (.inl (.inr rfl)) _;have bR:yw w (bs.setRow z (Qa (Q1 x ⟨id,Q,U,J,lev,ca,F,I,upto,V,cc⟩) ⟨A,n,cap,B,m,ae,D,nd,cd,E,ne,ce,(some ⟨q,0,none⟩),W,cp⟩)):=aO.trans (aC.below (B:=w.heap.size) aO.size (fun k hk e=>by rcases e with e | e<;>omega));refine⟨q,⟨A,n,cap,B,m,ae,D,nd,cd,E,ne,ce,(some ⟨q,0,none⟩),W,cp⟩,rfl,Nat.le_trans bl hq,Nat.lt_of_lt_of_le bX aC.size,fun X O bW=>⟨(HS X O).cats,(HS X O).cabs,(HS X O).fares,?_⟩,bR⟩
   have bY:Sl (ZS 11) 11 X All (some ⟨q,0,none⟩) W cp (L.take k++bc::L.drop k):=by
    refine⟨ap.len,ap.le,ap.max,fun i y hy=>?_⟩;obtain⟨b',o',cs,aX,_,hc,hl,bS⟩:=ap.rd i y hy;simp only[Option.some.injEq,Addr.mk.injEq,and_true]at aX;obtain⟨rfl,rfl⟩:=aX;refine⟨q,0,cs,rfl,trivial,hc,hl,fun j u hu=>?_⟩;have h0:=bS j u hu;exact(World.cell?_of_block (bW.trans (aC.block q (ZO h0) (fun e=>e.elim bj bk)))).trans h0
   have bi:=bI X O
   show Sl ZJ 11 _ All (some ⟨q,0,none⟩) W cp (Xx x.bks ⟨id,Q,U,J,lev,ca,F,I,upto,V,cc⟩)
   rw[←bw.out];exact bY.unraw ((bi.take k).append ((Pts.one (c:=ZJ) (cs:=bc) (x:=⟨id,Q,U,J,lev,ca,F,I,upto,V,cc⟩) ⟨Z,n3,c3,bv,HF X O,HI⟩).append (bi.drop k)))
  ·have h9:=cf.out
   have h0:0 < k:=by
    by_cases h:0 < k
    ·exact h
    ·rw[J3 h]at h9;cases h9
   obtain⟨j,rfl⟩:∃j,k=j+1:=⟨k - 1,by omega⟩;rw[J2 h0,Bool.true_and,show j+1 - 1=j by omega]at h9;have aM:=of_decide_eq_true h9.symm
   have aJ:j < x.bks.length:=by rw[an.out];omega
   have ax:j < L.length:=by rw[ab.out];omega
   have ad:=J1 ax;obtain⟨aj,a5⟩:=yE (L[j]);rw[←a5]at ad
   have bt:Aside (∀(i:Nat) (c:Bkg),j≤i→x.bks[i]? = some c→id < c.id):=fun i c hi hc=>by
    rcases Nat.lt_or_ge j i with h | h
    ·exact HA i c h hc
    ·obtain rfl:i=j:=by omega
     rw[J7,hc]at aM;exact aM
   have e1:(L.take (j+1)++bc::L.drop (j+1))[j+1]? = some bc:=by
    rw[List.getElem?_append_right (by rw[J8];omega),J8,show j+1 - min (j+1) L.length=0 by omega];rfl
   have e2:(L.take (j+1)++bc::L.drop (j+1))[j]? = some aj:=by
    rw[List.getElem?_append_left (by rw[J8];omega),List.getElem?_take,M3 (by omega)];exact ad
   obtain⟨w9,rfl⟩:=yE wc;have a7:yw w9 w9.drew:=(J4 _ _).drew;have av:=al.bel a7;obtain⟨aV,⟨bd,l1,o1⟩,-,af,aN⟩:=av.range e1;obtain⟨aW,⟨be,l2,o2⟩,-,ah,bn⟩:=av.range e2;rw[bd]at af;rw[be]at ah;clear bd be aV aW
   have aL:(L.take (j+1)++bc::L.drop (j+1)).length=Y+1:=by
    rw[J9,List.length_cons,J8,List.length_drop];have:=ab.out;omega
   have aE:=av.setEl (QU 11) (i:=j+1) (x':=aj) (cs:=aj) (by rw[aL];omega) l2 ⟨rfl,l2,o2⟩;have au:=aE.setEl (QU 11) (i:=j) (x':=bc) (cs:=bc) (by rw[List.length_set,aL];omega) l1 ⟨rfl,l1,o1⟩;rw[VNb (by omega) ad]at au;have aB:Kept (fun b=>b=q) W3 ((w9.drew.setCells q ((j+1)*11) aj).setCells q (j*11) bc):=((ag.trans (Kept.of_below a7 (fun k hk h2=>absurd h2 (by omega)))).trans (UD q aj _ _)).trans (UD q bc _ _);have hm:=aT.out
   have d2:(0:Int)≤((j+1:Nat):Int):=by omega
   have d3:((j+1:Nat):Int) < (W:Int):=by omega
   have d4:(0:Int)≤(j:Int):=by omega
   have d5:(j:Int) < (W:Int):=by omega
   obtain⟨k,aK⟩:=yE (j+1);rw[←aK]at aE au aB af aN d2 d3 ⊢
   have d6:IntKind.i64.wrap ((k:Int) - 1)=(j:Int):=by rw[IntKind.wrap_i64];omega
   have a0:(Tryz.prog.info? 63).map (·.size)=some aj.length:=by rw[l2];kernel_rfl
   have a1:(Tryz.prog.info? 63).map (·.size)=some bc.length:=by rw[l1];kernel_rfl
   have bo:w9.drew.there q (j*11) bc.length:=by rw[l1];exact bn
   have bm:w9.drew.there q (k*11) aj.length:=by rw[l2];exact aN
   have bL:=yh bm;have bM:=yh (World.there_setCells bo q (k*11) aj);have bJ:=yh af;have bK:=yh ah;have aR:=yh a0;have aS:=yh a1;have bH:=yh au;clear au;have bB:=yh aB;clear aB;have aQ:=yh aK;clear aK;clear al ag HA h9 h0 aM aJ ax ad a5 e1 e2 av af ah aN bm bn bo l1 l2 aL aE hm a0 a1 cf;go_upto_region 5 with(fail);refine yZ (S:=(fun _=>True)) (trivial) fun aa=>?_;refine yT [0,1,2,3,4,5,6,7,8,10,11,12] ?_;iterate 12 (refine yS ?_;simp only[yU])
   focus
    refine yr2 9 13 (fun K k9=>?_) (fun K br=>?_)
    repeat first
     |
      revert k9
      intro hK
      (refine Vk rfl 63 (.tmp 43) rfl q (j*11) rfl aj _ bK underlying63 (by kernel_rfl) aR.out ?_)
      refine hK.out _ _ (trivial) fun aa=>?_;clear hK K
      try simp only[yU]
      first
       | refine yt1 13 (fun K br=>?_)
       | rotate_left
     |
      revert br
      intro hK
      (refine Vk rfl 63 (.tmp 47) rfl q (k*11) rfl bc _ bJ underlying63 (by kernel_rfl) aS.out ?_)
      refine hK.out _ _ (trivial) fun aa=>?_;clear hK K
      try simp only[yU]
      first
       | refine yt1 9 (fun K k9=>?_)
       | rotate_left
    all_goals
     refine yT [14] ?_;iterate 1 (refine yS ?_;simp only[yU])
     refine yR 15 fun K hK=>?_
     (refine YH rfl 63 (.tmp 49) (.tmp 44) rfl q (k*11) aj rfl rfl bL aR o2 ?_)
     refine hK.out _ _ (trivial) fun aa=>?_;clear hK K
     try simp only[yU]
     refine yT [16] ?_;iterate 1 (refine yS ?_;simp only[yU])
     refine yR 17 fun K hK=>?_
     (refine YH rfl 63 (.tmp 50) (.tmp 48) rfl q (j*11) bc rfl rfl bM aS o1 ?_)
     refine hK.out _ _ (trivial) fun aa=>?_;clear hK K
     try simp only[yU]
     refine yD ?_;go_wp2_with fail;go_roundg j
     case measure=>have:=aQ.out;omega
     case rel=>exact⟨j,_,by have:=aQ.out;omega,J5 _,by first | rfl | go_num,bH,bt,bB⟩
end Go.Proofs.YtjdcokpmgionjaaGreat
