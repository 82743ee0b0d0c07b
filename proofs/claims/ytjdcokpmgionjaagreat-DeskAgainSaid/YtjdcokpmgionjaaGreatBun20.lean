/-
  Words, laws and contracts: StockW, StockX, StockJ, StockU, StockH.
-/
import Derived.Test.YtjdcokpmgionjaaGreatBun15
import Derived.Test.YtjdcokpmgionjaaGreatBun19
set_option linter.unusedSimpArgs false
set_option linter.unusedVariables false
set_option maxRecDepth 100000
set_option maxHeartbeats 20000000
namespace Go.Proofs.YtjdcokpmgionjaaGreat
open Go.RowKit Go.Shelf
theorem Z4a {x:Sai}(h:QQ x=0):ZV x=false∧¬x.ship.souls < mx (QM x.bks x.ship.legs.toNat)∧Z9 (Z5 x).length (Zd x)=true:=by
 unfold QQ at h
 by_cases h1:ZV x=true
 ·rw[if_pos h1]at h;omega
 rw[if_neg h1]at h
 by_cases h2:x.ship.souls < mx (QM x.bks x.ship.legs.toNat)
 ·rw[if_pos h2]at h;omega
 rw[if_neg h2]at h
 by_cases h3:Z9 (Z5 x).length (Zd x)=true
 ·exact⟨Bool.eq_false_iff.2 h1,h2,h3⟩
 ·rw[if_neg h3]at h;omega
theorem V2a (x:Sai):∀(l:List Bkg) (i:Nat),∀e∈Zs x l i,(i:Int)≤e.lft
 | [],_,e,A=>by simp[Zs]at A
 | b::l,i,e,A=>by
  simp only[Zs,List.mem_append,List.mem_map]at A
  rcases A with⟨c,_,rfl⟩ | A
  ·exact Int.le_refl _
  ·have:=V2a x l (i+1) e A;omega
theorem Yeb {x:Sai}(h:Vc x=0):∀(i:Nat) (b:Bkg),x.bks[i]? = some b→ofE x.ship b=0:=by
 unfold Vc at h
 by_cases h1:16 < x.bks.length
 ·rw[if_pos h1]at h;omega
 rw[if_neg h1]at h
 by_cases A:Qh (Ua x) x.bks.length≠0
 ·rw[if_pos A]at h;exact absurd h A
 have A:Qh (Ua x) x.bks.length=0:=Decidable.not_not.1 A;intro i b E;have D:=UA A i (List.getElem?_eq_some_iff.1 E).1;rw[XD E]at D
 by_cases h4:ofE x.ship b≠0
 ·rw[if_pos h4]at D;exact absurd D h4
 ·exact Decidable.not_not.1 h4
theorem Xi {x:Sai}(h:Qp x=0):ZJ x.ship=0∧Vc x=0:=by
 unfold Qp at h
 by_cases h1:ZJ x.ship≠0
 ·rw[if_pos h1]at h;exact absurd h h1
 rw[if_neg h1]at h
 by_cases h2:Zq x.fares x.ship.cats.length x.ship.legs≠0
 ·rw[if_pos h2]at h;exact absurd h h2
 rw[if_neg h2]at h
 by_cases h3:(Qc x.day 0 9999 && Qc x.leaves 0 9999)=false
 ·rw[if_pos h3]at h;omega
 rw[if_neg h3]at h
 by_cases h4:Vc x≠0
 ·rw[if_pos h4]at h;exact absurd h h4
 ·exact⟨Decidable.not_not.1 h1,Decidable.not_not.1 h4⟩
def Zr (x:Sai) (l:List Bkg):Sai:={ x with bks:=l }
theorem XTb (l:List Bkg)(k:Nat):(Z0b l k).Sublist l:=by
 unfold Z0b
 conv=>rhs;rw[←List.take_append_drop k l]
 exact List.Sublist.append (List.Sublist.refl _) (List.drop_sublist_drop_left l (Nat.le_succ k))
theorem Vp {l:List Bkg} : Xe l↔l.Pairwise (fun a b=>a.id < b.id):=by
 constructor
 ·intro h
  exact List.pairwise_iff_getElem.2 fun i j A E D=>h i j _ _ D (List.getElem?_eq_getElem A) (List.getElem?_eq_getElem E)
 ·intro h i j a b D F I
  obtain⟨A,rfl⟩:=List.getElem?_eq_some_iff.1 F;obtain⟨E,rfl⟩:=List.getElem?_eq_some_iff.1 I;exact List.pairwise_iff_getElem.1 h i j A E D
theorem Xmb {x:Sai}{l:List Bkg}(E:OkBs x)(J:∀b∈x.bks,ofE x.ship b=0)(A:l.Sublist x.bks):Vc (Zr x l)=0:=by
 have Q:l.Pairwise (fun a b=>a.id < b.id):=(Vp.1 (Zc E.rise)).sublist A;have X:=A.length_le;have W:=E.len;unfold Vc
 rw[show(Zr x l).bks=l from rfl,if_neg (show ¬16 < l.length by omega),show Qh (Ua (Zr x l)) l.length=0 from VQ fun i D=>by
  have U:(Zr x l).bks[i]? = some l[i]:=List.getElem?_eq_getElem D;rw[XD U,show ofE (Zr x l).ship l[i]=0 from J _ (A.subset (List.getElem_mem D)),if_neg (by simp),if_neg];rintro⟨V,F⟩
  have O:(Zr x l).bks.getD (i - 1) default=l[i - 1]'(by omega):=by rw[List.getD_eq_getElem?_getD];show(l[i - 1]?).getD default=_;rw[List.getElem?_eq_getElem (by omega)];rfl
  rw[O]at F;have:=List.pairwise_iff_getElem.1 Q (i - 1) i (by omega) D (by omega);omega,if_neg (by simp),if_neg]
 rw[Bool.not_eq_true]
 refine List.any_eq_false.2 fun b I=>?_
 exact List.any_eq_false.1 E.bad b (A.subset I)
theorem VVb {x:Sai}{l:List Bkg}(J:OkBs x)(F:ZV x=false)(D:l.Sublist x.bks):ZV (Zr x l)=false:=by
 unfold ZV at F ⊢
 refine List.any_eq_false.2 fun c O=>?_
 have E:=List.any_eq_false.1 F c O
 have E:ZK x.bks (c:Int)=true:=by simpa using E
 unfold ZK at E;obtain⟨out,W⟩:=Option.isSome_iff_exists.1 E
 have I:∀q∈x.bks,q.frm < q.upto:=fun q A=>(Qva J.ship (J.bk q A)).2.1
 obtain⟨X,Y⟩:=Xx (fun s D=>by
  unfold spL at D;obtain⟨q,A,rfl⟩:=List.mem_map.1 D;exact I q (List.mem_filter.1 A).1) W
 have Z:out.Pairwise (fun s t=>Q2 s t=false):=Y.imp fun {s t} h=>by unfold Q2;simp;omega
 have Q:(spL x.bks c).Pairwise (fun s t=>Q2 s t=false):=(X.pairwise_iff (fun {s t} h=>by unfold Q2 at h ⊢;simp at h ⊢;omega)).1 Z;have U:(spL l c).Pairwise (fun s t=>Q2 s t=false):=Q.sublist ((D.filter _).map _)
 obtain⟨o,V⟩:=Zta (fun s h=>by
  unfold spL at h;obtain⟨q,A,rfl⟩:=List.mem_map.1 h;exact I q (D.subset (List.mem_filter.1 A).1)) U
 have:=(UL V).1
 show ¬(!ZK l (c:Int))=true
 rw[this];simp
theorem VKb {l E:List Bkg}(I:E.Sublist l)(A:∀b∈l,0≤b.gst)(k:Nat):Z4 E k≤Z4 l k:=by
 unfold Z4
 induction I with
 | slnil=>exact Int.le_refl _
 | cons b _ ih=>
  have F:=ih fun q D=>A q (List.mem_cons_of_mem _ D)
  have J:=A b (List.mem_cons_self ..);rw[List.map_cons,List.sum_cons]
  split<;>omega
 | cons_cons b _ ih=>
  have F:=ih fun q D=>A q (List.mem_cons_of_mem _ D)
  rw[List.map_cons,List.sum_cons,List.map_cons,List.sum_cons];omega
theorem Uwc {l:List Int}{n:Int}(h:∀x∈l,x≤n)(A : -1≤n):mx l≤n:=by
 rcases(QGa l (-1)).2.2 with e | e
 ·unfold mx;rw[e];exact A
 ·exact h _ e
theorem VLb {x:Sai}{l:List Bkg}(I:OkBs x)(h:¬x.ship.souls < mx (QM x.bks x.ship.legs.toNat))(J:l.Sublist x.bks):¬x.ship.souls < mx (QM l x.ship.legs.toNat):=by
 have D:=Uxc (QM x.bks x.ship.legs.toNat)
 have O:mx (QM l x.ship.legs.toNat)≤mx (QM x.bks x.ship.legs.toNat):=Uwc (fun y A=>by
  unfold QM at A;obtain⟨k,F,rfl⟩:=List.mem_map.1 A;have Q:=VKb J (fun b E=>by have:=(I.bk b E).gst;omega) k;have U:Z4 x.bks k≤mx (QM x.bks x.ship.legs.toNat):=Uuc (List.mem_map.2 ⟨k,F,rfl⟩);omega) D
 omega
theorem Yub {x:Sai}{l:List Bkg}(h:Qp x=0)(D:l.Sublist x.bks)(E:Z9 (Z5 (Zr x l)).length (Zd (Zr x l))=true):Qp (Zr x l)=0:=by
 have A:=Ze h;obtain⟨Q,F⟩:=Xi h;obtain⟨U,V,_⟩:=Z4a A.room
 have O:QQ (Zr x l)=0:=by
  unfold QQ;rw[if_neg (by rw[VVb A.bs U D];simp),if_neg (show ¬(Zr x l).ship.souls < mx (QM (Zr x l).bks (Zr x l).ship.legs.toNat)from VLb (x:=x) (l:=l) A.bs V D),if_pos E]
 unfold Qp
 rw[show ZJ (Zr x l).ship=0 from Q,if_neg (by simp),show Zq (Zr x l).fares (Zr x l).ship.cats.length (Zr x l).ship.legs=0 from A.fares,if_neg (by simp),if_neg (by
  show ¬(Qc x.day 0 9999 && Qc x.leaves 0 9999)=false
  rw[A.day,A.leaves];simp),Xmb A.bs (fun b I=>by
  obtain⟨i,J⟩:=List.getElem?_of_mem I
  exact Yeb F i b J) D,if_neg (by simp),O]
 rfl
theorem YLa (x:Sai):∀(F:List Bkg) (i:Nat) (e:Edg),e∈Zs x F i↔∃(d:Nat) (b:Bkg),F[d]? = some b∧e.lft=((i+d:Nat):Int)∧e.rgt∈Uj x b
 | [],_,e=>by simp[Zs]
 | b::F,i,e=>by
  simp only[Zs,List.mem_append,List.mem_map,YLa x F (i+1) e]
  constructor
  ·rintro(⟨c,I,rfl⟩ | ⟨d,q,D,A,E⟩)
   ·exact⟨0,b,rfl,rfl,I⟩
   ·exact⟨d+1,q,by simpa using D,by rw[A];congr 1;omega,E⟩
  ·rintro⟨d,q,D,A,E⟩
   rcases d with _ | d
   ·obtain rfl:b=q:=by simpa using D
    exact .inl ⟨e.rgt,E,by obtain⟨a,c⟩:=e;simp only at A ⊢;rw[A];rfl⟩
   ·exact .inr ⟨d,q,by simpa using D,by rw[A];congr 1;omega,E⟩
theorem Zma (x:Sai)(d c:Nat):c∈Ux (Zd x) d↔∃b,(QJ x)[d]? = some b∧(c:Int)∈Uj x b:=by
 unfold Ux Zd;simp only[List.mem_map,List.mem_filter,YLa,decide_eq_true_eq]
 constructor
 ·rintro⟨e,⟨⟨F,b,D,I,A⟩,J⟩,rfl⟩
  obtain rfl:F=d:=by omega
  refine⟨b,D,?_⟩;obtain⟨q,_,E⟩:=List.mem_map.1 A;rw[←E];rw[←E]at A;exact A
 ·rintro⟨b,D,A⟩
  exact⟨⟨d,c⟩,⟨⟨d,b,D,by simp,A⟩,rfl⟩,rfl⟩
def Sdr (x:Sai) (os:List Bkg):Prop:=∃ps:List (Bkg×Nat),ps.map (·.1)=os∧(ps.map (·.2)).Nodup∧∀p∈ps,(p.2:Int)∈Uj x p.1
theorem Yxb {x:Sai}(h:VWb (QJ x).length (Zd x)):Sdr x (QJ x):=by
 obtain⟨M,E,X⟩:=h
 have W:∀p∈M,p.1 < (QJ x).length:=fun p D=>by
  obtain⟨b,F,_⟩:=(Zma x p.1 p.2).1 (E.edge p D);exact(List.getElem?_eq_some_iff.1 F).1
 have O:∀i,i < (QJ x).length→∃c,(i,c)∈M:=fun i A=>by
  apply Classical.byContradiction
  intro Y
  have J:=Z0a (M.map (·.1)) ((List.range (QJ x).length).erase i) E.lefts (fun y Z=>by
   obtain⟨p,D,rfl⟩:=List.mem_map.1 Z;refine(List.mem_erase_of_ne (fun e=>Y ⟨p.2,?_⟩)).2 (List.mem_range.2 (W p D));rw[←e];exact D)
  rw[List.length_map,X,List.length_erase_of_mem (List.mem_range.2 A),List.length_range]at J;omega
 obtain⟨f,I⟩:∃f:Nat→Nat,∀i,i < (QJ x).length→(i,f i)∈M:=⟨fun i=>if h:i < (QJ x).length then (O i h).choose else 0,fun i A=>by simp only[A,dif_pos];exact(O i A).choose_spec⟩;refine⟨(List.range (QJ x).length).map (fun i=>((QJ x).getD i default,f i)),?_,?_,?_⟩
 ·rw[List.map_map]
  refine List.ext_getElem (by simp) fun i J Q=>?_
  simp[List.getD_eq_getElem?_getD,List.getElem?_eq_getElem Q]
 ·rw[List.map_map]
  refine UI List.nodup_range fun i A j V e=>?_
  have:=UY E.rights _ (I i (List.mem_range.1 A)) _ (I j (List.mem_range.1 V)) e;exact(Prod.mk.inj this).1
 ·intro p D
  obtain⟨i,A,rfl⟩:=List.mem_map.1 D;obtain⟨b,F,U⟩:=(Zma x i (f i)).1 (E.edge _ (I i (List.mem_range.1 A)));simp only;rw[List.getD_eq_getElem?_getD,F];exact U
theorem Yyb {x:Sai}(h:Sdr x (QJ x)):VWb (QJ x).length (Zd x):=by
 obtain⟨A,E,D,J⟩:=h
 have O:A.length=(QJ x).length:=by rw[←E,List.length_map]
 refine⟨(List.range (QJ x).length).map (fun i=>(i,(A.getD i default).2)),⟨?_,?_,?_⟩,by simp⟩
 ·intro p Q
  obtain⟨i,F,rfl⟩:=List.mem_map.1 Q;have F:=List.mem_range.1 F;have I:A[i]? = some (A[i]'(by omega)):=List.getElem?_eq_getElem (by omega);refine(Zma x i _).2 ⟨(A[i]'(by omega)).1,?_,?_⟩
  ·rw[←E,List.getElem?_map,I];rfl
  ·rw[List.getD_eq_getElem?_getD,I]
   exact J _ (List.getElem_mem _)
 ·rw[List.map_map]
  exact UI List.nodup_range fun i _ j _ e=>e
 ·rw[List.map_map]
  have:(List.range (QJ x).length).map ((fun p=>p.2) ∘ fun i=>(i,(A.getD i default).2))=A.map (·.2):=by
   refine List.ext_getElem (by simp[O]) fun i E D=>?_
   rw[List.length_map]at D
   simp[List.getD_eq_getElem?_getD,List.getElem?_eq_getElem D]
  rw[this];exact D
theorem Y8b {x:Sai}{l:List Bkg}(I:l.Sublist x.bks)(h:Z9 (Z5 x).length (Zd x)=true):Z9 (Z5 (Zr x l)).length (Zd (Zr x l))=true:=by
 have O:(Z5 x).length=(QJ x).length:=List.length_map _;have Q:(Z5 (Zr x l)).length=(QJ (Zr x l)).length:=List.length_map _;rw[O]at h;rw[Q];obtain⟨ps,U,V,W⟩:=Yxb (Qta.1 h)
 have aa:(QJ (Zr x l)).Sublist (ps.map (·.1)):=by rw[U];exact I.filter _
 obtain⟨qs,F,Z⟩:=List.sublist_map_iff.1 aa;refine Xf (Yyb ⟨qs,Z.symm,V.sublist (F.map _),fun p hp=>?_⟩);have E:=W p (F.subset hp);unfold Uj at E ⊢;obtain⟨c,Y,e⟩:=List.mem_map.1 E;refine List.mem_map.2 ⟨c,?_,e⟩;obtain⟨J,A⟩:=List.mem_filter.1 Y;refine List.mem_filter.2 ⟨J,?_⟩;have A:(Zp x.ship p.1 (c:Int) && QR x.bks c)=true:=A
 show(Zp x.ship p.1 (c:Int) && QR l c)=true
 rw[Bool.and_eq_true]at A ⊢;refine⟨A.1,?_⟩;have D:=A.2;unfold QR at D ⊢;rw[Bool.not_eq_true']at D ⊢
 exact List.any_eq_false.2 fun b X=>List.any_eq_false.1 D b (I.subset X)
theorem Qwb (x:Sai)(p:SaiV)(w:World)(h:SaiR w x p)(Y:OkShp x.ship)(hk:∀b∈x.bks,OkBk x.ship b)(ab:x.bks.length≤16) :
  Calls Tryz.prog 72 #[.agg (Qa x p)] w fun e w'=>e=.returned (.int .i64 (QQ x))∧yw w w':=by
 have aT:=yh (fun W h=>Usa x p W h Y hk ab);have HS:=yh h;obtain⟨A,n,cap,B,m,bc,D,nd,cd,E,ne,ce,C,J,O⟩:=p;have hl:Sl Vb 11 w All C J O x.bks:=h.bks;have hd:Sl ZW 4 w All B m bc x.ship.cabs:=h.cabs
 have a8:J≤16:=by rw[←hl.len];exact ab
 have a7:m≤12:=by rw[←hd.len];exact Y.cabs12
 have aV:=yh (fun(c:Int) W hW=>Zza C J O x.bks c W hW (YL Y hk));obtain⟨r,hr⟩:∃r,r=QQ x:=⟨_,rfl⟩;rw[←hr];have HR:=yh (show r=if (List.range m).any (fun c=>!ZK x.bks (c:Int))=true then 6 else if x.ship.souls < mx (QM x.bks x.ship.legs.toNat)then 8 else if Z9 (Z5 x).length (Zd x)=true then 0 else 9 by rw[hr,←hd.len];rfl);have HN:=yh hl.len;have HM:=yh hd.len;have HL:=yh hl;have ah:=yh Y;have HK:=yh hk;clear hk;have aQ:=yh ab;clear ab;clear h hl hd hr Y
 go_enter Tryz.func72,Tryz.ntmps72
 go_upto_region 0 with(fail)
 go_cut [1,2] (fun q _ wx=>∃g,q=.pointer (some ⟨g,0,none⟩)∧Blk wx g (Qa x ⟨A,n,cap,B,m,bc,D,nd,cd,E,ne,ce,C,J,O⟩) 32∧yw w wx)
 case first=>as_aux_lemma=>
  go_wp2_with fail
  go_meet
  exact⟨_,rfl,Za _ _,Qf _ _⟩
 obtain⟨g,rfl,hG,aH⟩:=hcut;obtain⟨W0,aW⟩:∃W,W=wc:=⟨_,rfl⟩;subst aW;have HG:=yh hG;clear hG;have aq:=yh aH;clear aH
 go_wp2_with fail
 go_loopg [3] m (fun gk i wr=>∃k:Nat,k≤m∧m - k≤gk∧i=.int .i64 k∧Aside (∀j,j < k→ZK x.bks (j:Int)=true)∧yw W0 wr)
 case atStart=>exact⟨0,Nat.zero_le _,by omega,rfl,fun j hj=>absurd hj (Nat.not_lt_zero _),Below.refl _ _⟩
 case round=>
  obtain⟨k,hk,a6,rfl,HE,hb⟩:=hrel;have hG:=HG.out.bel hb;have bb:=aq.out.trans (hb.mono aq.out.size);have s3:yJ wr g 3 B m bc:=hG.cell rfl
  by_cases an:k < m
  ·have ap:yJ wr g 11 C J O:=hG.cell rfl
   have am:=aV.out (k:Int) wr (HL.out.bel bb);obtain⟨q,Q⟩:∃q,q=ZK x.bks (k:Int):=⟨_,rfl⟩;rw[←Q]at am;have ag:=yh am;clear am;have HQ:=yh Q;clear Q;clear hG
   go_wp2_with fail
   refine ag.out.mono ?_;rintro e w2 ⟨v,xs,rfl,hO,ak⟩;obtain⟨A1,I,c1,rfl,_⟩:=hO.sl Ql;replace hb:=hb.trans (ak.mono hb.size);replace bb:=bb.trans (ak.mono bb.size);clear hO ak ap s3
   cases q
   ·obtain rfl:r=6:=by rw[HR.out,if_pos (VSa an (by show(!ZK x.bks (k:Int))=true;rw[←HQ.out];rfl))]
    go_wp2_with fail
    go_ret
    exact⟨rfl,bb⟩
   ·skip
    go_wp2_with fail
    go_roundg (m - (k+1))
    case measure=>omega
    case rel=>exact⟨k+1,by omega,by omega,by go_num,fun j hj=>by
     by_cases e:j=k
     ·subst e;exact HQ.out.symm
     ·exact HE j (by omega),hb⟩
  ·obtain rfl:k=m:=by omega
   have aw:=yh (HR.out.trans (if_neg (by
    rw[Qua (fun i U=>by show(!ZK x.bks (i:Int))=false;rw[HE i U];rfl)];simp)))
   have aY:=Yv ah.out;obtain⟨N,aC⟩:∃N:Nat,x.ship.legs=N:=⟨x.ship.legs.toNat,by omega⟩
   have ai:x.ship.legs.toNat=N:=by omega
   have af:=yh (fun W hW=>X9a N C J O x.bks W hW (by rw[←ai];exact ZEb ah.out HK.out) (by omega) (by omega));obtain⟨sl,Z⟩:∃q,q=QM x.bks N:=⟨_,rfl⟩;rw[←Z,←aC]at af;have aA:=yh (show sl.length=N by rw[Z];exact Uf _ _)
   have az:=yh (show ∀y∈sl,0≤y∧y≤4*J from fun y V=>by
    rw[Z]at V;obtain⟨i,U⟩:=List.getElem?_of_mem V
    have an:i < N:=by have:=(List.getElem?_eq_some_iff.1 U).1;rwa [Uf]at this
    rw[Xw _ _ _ an]at U
    injection U with U
    have:=QWa (l:=x.bks) (fun b hb=>(HK.out b hb).gst) i;have:=HN.out;omega)
   have aS:=yh (show 0 < N∧N≤7 from by omega);obtain⟨M,hM⟩:∃M,M=mst sl:=⟨_,rfl⟩;have a0:=Qj.1 ah.out.souls
   have aI:(x.ship.souls < mx sl)=(x.ship.souls < M):=by
    rw[hM];unfold mst;exact propext ⟨fun h=>by omega,fun h=>by omega⟩
   have ax:=yh (show r=if x.ship.souls < M then 8 else if Z9 (Z5 x).length (Zd x)=true then 0 else 9 by
    rw[aw.out,ai,←Z];simp only[aI])
   have aR:=yh hM;clear hM;have aa:=yh (show ∀X,yw wr X→(fun w'=>yI w' g 0 x.ship.legs∧yI w' g 1 x.ship.souls∧yJ w' g 11 C J O) X from fun X hX=>⟨(hG.bel hX).cell rfl,(hG.bel hX).cell rfl,(hG.bel hX).cell rfl⟩);have ar:=yh (HL.out.bel bb);clear aY aC ai Z HE aw HR aI a0
   go_upto_region 7 with(fail)
   go_cut [35] (fun t wx=>t=.bool (decide (x.ship.souls < M))∧yw wr wx)
   case first=>as_aux_lemma=>
    have F:yw wr wr.drew:=(Below.refl _ wr).drew;clear hG hb bb s3;refine wp_region_held_drew (S:=(fun w'=>yI w' g 0 x.ship.legs∧yI w' g 1 x.ship.souls∧yJ w' g 11 C J O)) (by kernel_rfl) (aa.out _ F) (fun aB=>?_);refine yT [0,1,2,3,4,7,8,9] (by kernel_rfl) (by assumption) ?_
    iterate 8 (refine yS (v:=?_) (gA rfl) (fun _ _ _ h=>h) rfl ?_ ?_;rotate_left;(focus (intro w aj;(try dsimp only at aj);go_simp<;>with_reducible rfl));simp only[yP,yA,yB,yC])
    refine yR 5 (by kernel_rfl) (gA rfl) fun K hK=>?_
    go_simp
    (go_at_call 151;refine(af.out _ (ar.out.bel F)).mono ?_;rintro e w3 ⟨G,rfl,a4,hR,aG⟩;have ao:=hR.own (base:=0) (by omega) (fun y V=>by have:=az.out y V;exact .of (by omega) (by omega)) (by have:=aA.out;have:=aS.out.2;omega);rw[aA.out]at ao;obtain⟨A4,n4,c4,aM,aL⟩:=ao.sl Qb;simp only[Value.slice.injEq]at aM;obtain⟨rfl,rfl,rfl⟩:=aM;have au:=yh (X6b _ _ _ sl w3 (aL.all Qb (by omega)) (fun y V=>by have:=az.out y V;omega));rw[←aR.out]at au;replace F:=F.trans (aG.mono F.size);clear aG ao aL hR)
    go_wp2_with fail
    refine hK.out _ _ (aa.out _ F) fun aB=>?_
    clear hK K
    try simp only[yP,yQ,yA,yB,yC]
    refine yR 6 (by kernel_rfl) (gA rfl) fun K hK=>?_
    go_simp
    (go_at_call 150;refine au.out.mono ?_;rintro e w4 ⟨rfl,q4,rfl⟩;replace F:=below_drewN F q4)
    go_wp2_with fail
    refine hK.out _ _ (aa.out _ F) fun aB=>?_
    clear hK K
    try simp only[yP,yQ,yA,yB,yC]
    refine yT [10] (by kernel_rfl) (by assumption) ?_
    iterate 1 (refine yS (v:=?_) (gA rfl) (fun _ _ _ h=>h) rfl ?_ ?_;rotate_left;(focus (intro w aj;(try dsimp only at aj);go_simp<;>with_reducible rfl));simp only[yP,yA,yB,yC])
    refine wpAnyH_done (by kernel_rfl) ?_ _
    go_wp2_with fail
    go_meet
    exact⟨rfl,F⟩
   obtain⟨rfl,ac⟩:=hcut;replace hG:=hG.bel ac;replace hb:=hb.trans (ac.mono hb.size);replace bb:=bb.trans (ac.mono bb.size);clear ac aa ar af s3
   by_cases h8:x.ship.souls < M
   ·obtain rfl:r=8:=by rw[ax.out,if_pos h8]
    clear hG
    go_wp2_with fail
    go_ret
    exact⟨rfl,bb⟩
   have aU:=yh (ax.out.trans (if_neg h8))
   have a3:M≤x.ship.souls:=by omega
   have ag:=yh (aT.out _ (HS.out.bel bb));have s0:yI wc g 0 x.ship.legs:=hG.cell rfl;have s1:yI wc g 1 x.ship.souls:=hG.cell rfl;have s2:yJ wc g 2 A n cap:=hG.cell rfl;have s3:yJ wc g 3 B k bc:=hG.cell rfl;have s4:yJ wc g 4 D nd cd:=hG.cell rfl;have s5:yI wc g 5 x.fares.alone:=hG.cell rfl;have s6:yI wc g 6 x.fares.third:=hG.cell rfl;have s7:yJ wc g 7 E ne ce:=hG.cell rfl;have s8:yI wc g 8 x.fares.down:=hG.cell rfl;have s9:yI wc g 9 x.day:=hG.cell rfl;have a1:yI wc g 10 x.leaves:=hG.cell rfl;have ap:yJ wc g 11 C J O:=hG.cell rfl;have a2:wc.cell? ⟨g,12,none⟩=some (.bool x.closed):=hG.cell rfl;have aO:=yh hG;clear hG h8
   go_wp2_with fail
   refine ag.out.mono ?_;rintro e w5 ⟨v1,v2,a9,ba,rfl,aD,aE,al⟩;obtain⟨A1,I,c1,rfl,aJ⟩:=aD.sl Qb;obtain⟨A2,n2,c2,rfl,aK⟩:=aE.sl Qx;have hG:=aO.out.bel al;have s3:yJ w5 g 3 B k bc:=hG.cell rfl;have ae:I=(Z5 x).length:=aJ.len.symm
   have aZ:I≤16:=by have:=ZZa x;rw[ae];have:=aQ.out;omega
   have ad:=XDa x;rw[←ae,HM.out]at ad;have aF:=V4b I k A2 n2 c2 (Zd x) w5 (aK.all Qx (by omega)) aZ (by omega) ad;obtain⟨q,Q⟩:∃q,q=Z9 I (Zd x):=⟨_,rfl⟩;have ay:=yh (show r=if q=true then 0 else 9 by rw[aU.out,Q,ae]);have aP:=yh ad;clear ad;have HQ:=yh Q;clear Q;have aN:=yh aF;clear aF;replace bb:=bb.trans (al.mono bb.size);clear al aD aE aJ aK ae s0 s1 s2 s4 s5 s6 s7 s8 s9 a1 ap a2 hG hb
   go_wp2_with fail
   refine aN.out.mono ?_;rintro e w6 ⟨a5,no,D,rfl,hA,aX⟩;replace bb:=bb.trans (aX.mono bb.size);have av:=yh (show q=decide (no.length=0)by rw[HQ.out,Uva hA aP.out]);clear hA
   by_cases h0:no.length=0
   ·obtain rfl:r=0:=by rw[ay.out,av.out,decide_eq_true h0];rfl
    have h1:(I:Int) - (no.length:Int)=I:=by omega
    rw[h1];clear h1 h0
    go_wp2_with fail
    go_ret
    exact⟨rfl,bb⟩
   ·obtain rfl:r=9:=by rw[ay.out,av.out,decide_eq_false h0];rfl
    have h1:(I:Int) - (no.length:Int) < I:=by omega
    obtain⟨z,hz⟩:∃z,z=(I:Int) - (no.length:Int):=⟨_,rfl⟩;rw[←hz]at h1;rw[←hz];clear hz h0
    go_wp2_with fail
    go_ret
    exact⟨rfl,bb⟩
theorem Ztc (x y:Edg)(W:World):(binOp .neq 94 (.agg #[.int .i64 x.lft,.int .i64 x.rgt]) (.agg #[.int .i64 y.lft,.int .i64 y.rgt])).run Tryz.prog W=.ok (.bool (decide (x≠y))) W:=by
 obtain⟨a,b⟩:=x;obtain⟨c,d⟩:=y;simp only[Edg.mk.injEq,ne_eq];go_simp
 repeat' split
 all_goals simp_all
theorem Voa (A B:Option Addr)(n cap m V:Nat)(l l2:List Edg)(w:World)(h:Sl UM 2 w All A n cap l)(h2:Sl UM 2 w All B m V l2) :
  Calls Tryz.prog 66 #[.slice A n cap,.slice B m V] w fun e w'=>e=.returned (.bool (decide (l=l2)))∧∃q,w'=w.drewN q:=by
 have aa:=h.bd;have X:=yh h.len;have Y:=yh h2.len
 by_cases hnm:n=m
 ·subst hnm
  go_enter Tryz.func66,Tryz.ntmps66
  go_wp2_with fail
  go_loopg [5] n (fun gk i wr=>∃k q:Nat,k≤n∧n - k≤gk∧i=.int .i64 k∧Aside (∀j,j < k→l[j]? = l2[j]?)∧wr=w.drewN q)
  case atStart=>exact⟨0,0,Nat.zero_le _,by omega,rfl,fun j F=>absurd F (by omega),rfl⟩
  case round=>
   obtain⟨k,q,hk,ab,rfl,Q,rfl⟩:=hrel
   by_cases hlt:k < n
   ·obtain⟨b,af,x,c0,c1,rfl,Z,D,g0,g1⟩:=h.at2 hlt
    obtain⟨D,hw⟩:=D;simp only[List.cons.injEq,and_true]at D;obtain⟨rfl,rfl⟩:=D;obtain⟨b',ag,y,d0,d1,rfl,hy,E,e0,e1⟩:=h2.at2 hlt;obtain⟨E,ae⟩:=E;simp only[List.cons.injEq,and_true]at E;obtain⟨rfl,rfl⟩:=E;have U:=yh Z;have O:=yh hy;clear Z hy
    have ad:=fun W=>Ztc x y W
    by_cases hxy:x=y
    ·have he:(decide (x≠y))=false:=by subst hxy;simp
     have J:=yh hxy;clear hxy
     go_wp2_with fail
     go_quiet (fail)
     go_wp2_with fail
     go_roundg (n - (k+1))
     case measure=>omega
     case rel=>
      refine⟨k+1,_,by omega,by omega,by go_num,(show Aside _ from fun j F=>?_),rfl⟩
      by_cases e:j=k
      ·subst e;rw[U.out,O.out,J.out]
      ·exact Q.out j (by omega)
    ·have he:(decide (x≠y))=true:=by simpa using hxy
     have J:=yh hxy;clear hxy
     go_wp2_with fail
     go_quiet (fail)
     go_wp2_with fail
     go_ret
     refine⟨ZN ?_,_,World.drewN_drewN _ _ _⟩
     symm
     rw[decide_eq_false_iff_not];intro ah;subst ah;rw[U.out]at O;exact J.out (by have:=O.out;injection this)
   ·obtain rfl:k=n:=by omega
    have ah:l=l2:=by
     apply List.ext_getElem?
     intro j
     by_cases F:j < k
     ·exact Q.out j F
     ·rw[List.getElem?_eq_none (by rw[X.out];omega),List.getElem?_eq_none (by rw[Y.out];omega)]
    have I:=yh ah;clear ah
    go_wp2_with fail
    go_ret
    exact⟨ZN (by rw[decide_eq_true I.out]),_,rfl⟩
 ·have ac:((n:Int) != (m:Int))=true:=by simp;omega
  have ah:¬l=l2:=fun e=>hnm (by rw[←X.out,←Y.out,e])
  have I:=yh ah;clear ah hnm
  go_enter Tryz.func66,Tryz.ntmps66
  go_wp2_with fail
  go_ret
  exact⟨ZN (by rw[decide_eq_false I.out]),0,rfl⟩
theorem ZLa (w:World):Calls Tryz.prog 86 #[] w fun e w'=>∃A n cap B m E,e=.returned (.agg #[.int .i64 QZ.legs,.int .i64 QZ.souls,.slice A n cap,.slice B m E])∧Sl Um 2 w' (fun b=>w.heap.size≤b) A n cap QZ.cats∧Sl ZW 4 w' (fun b=>w.heap.size≤b) B m E QZ.cabs∧yw w w':=by
 go_enter Tryz.func86,Tryz.ntmps86
 go_wp2_with fail
 refine bodyPost_ret (v:=.agg #[.int .i64 3,.int .i64 6,.slice (some ⟨w.heap.size+1+1+1,0,none⟩) 3 3,.slice (some ⟨w.heap.size+1+1+1+1,0,none⟩) 3 3]) (by simp[results,Tryz.results86,go_sem]) rfl ?_;refine⟨_,_,_,_,_,_,rfl,?_,?_,?_⟩
 ·refine Sl.ofBlk (l:=QZ.cats) (((Blk.new3 w _ _ _ _ _).old _)) (by decide) (by first | (show _≤_;omega) | (show _≤_;simp;omega)) fun i x F=>?_
  rcases i with _ | _ | _ | i
  ·obtain rfl:(⟨[73,78],[1]⟩:Cat)=x:=by simpa [QZ] using F
   exact⟨[Zb [73,78],.slice (some ⟨w.heap.size+1,0,none⟩) 1 1],⟨_,_,_,rfl,Sl.ofInts [1] ((((Blk.new1 w _ _ _).old _).old _).old _) (by decide) (by first | (show _≤_;omega) | (show _≤_;simp;omega)) (by decide),Vjb (by decide)⟩,rfl,fun j u D=>by rcases j with _ | _ | j<;>simp_all⟩
  ·obtain rfl:(⟨[79,85,84],[2]⟩:Cat)=x:=by simpa [QZ] using F
   exact⟨[Zb [79,85,84],.slice (some ⟨w.heap.size+1+1,0,none⟩) 1 1],⟨_,_,_,rfl,Sl.ofInts [2] (((Blk.new2 w _ _ _ _).old _).old _) (by decide) (by first | (show _≤_;omega) | (show _≤_;simp;omega)) (by decide),Vjb (by decide)⟩,rfl,fun j u D=>by rcases j with _ | _ | j<;>simp_all⟩
  ·obtain rfl:(⟨[83,85,73,84,69],[]⟩:Cat)=x:=by simpa [QZ] using F
   exact⟨[Zb [83,85,73,84,69],.slice none 0 0],⟨_,_,_,rfl,Sl.nil _ _ _ _,Vjb (by decide)⟩,rfl,fun j u D=>by rcases j with _ | _ | j<;>simp_all⟩
  ·simp[QZ]at F
 ·refine Sl.ofBlk (l:=QZ.cabs) (Blk.new4 w _ _ _ _ _ _) (by decide) (by first | (show _≤_;omega) | (show _≤_;simp;omega)) fun i x F=>?_
  rcases i with _ | _ | _ | i
  ·obtain rfl:(⟨[65,49],0,2,false⟩:Cab)=x:=by simpa [QZ] using F
   exact⟨[Zb [65,49],.int .i64 0,.int .i64 2,.bool false],⟨rfl,Vjb (by decide),.of (by decide) (by decide),.of (by decide) (by decide)⟩,rfl,fun j u D=>by rcases j with _ | _ | _ | _ | j<;>simp_all⟩
  ·obtain rfl:(⟨[66,49],1,4,true⟩:Cab)=x:=by simpa [QZ] using F
   exact⟨[Zb [66,49],.int .i64 1,.int .i64 4,.bool true],⟨rfl,Vjb (by decide),.of (by decide) (by decide),.of (by decide) (by decide)⟩,rfl,fun j u D=>by rcases j with _ | _ | _ | _ | j<;>simp_all⟩
  ·obtain rfl:(⟨[67,49],2,2,false⟩:Cab)=x:=by simpa [QZ] using F
   exact⟨[Zb [67,49],.int .i64 2,.int .i64 2,.bool false],⟨rfl,Vjb (by decide),.of (by decide) (by decide),.of (by decide) (by decide)⟩,rfl,fun j u D=>by rcases j with _ | _ | _ | _ | j<;>simp_all⟩
  ·simp[QZ]at F
 ·exact((Q8a w _ _ _).alloc (by simp;omega) _).alloc (by simp;omega) _
theorem Vea (w:World):Calls Tryz.prog 88 #[] w fun e w'=>∃A n cap B m E,e=.returned (.agg #[.slice A n cap,.int .i64 50,.int .i64 33,.slice B m E,.int .i64 20])∧Sl (slC QL 1) 1 w' (fun b=>w.heap.size≤b) A n cap Uk.leg∧Sl UH 2 w' (fun b=>w.heap.size≤b) B m E Uk.bands∧yw w w':=by
 go_enter Tryz.func88,Tryz.ntmps88
 go_wp2_with fail
 refine bodyPost_ret (v:=.agg #[.slice (some ⟨w.heap.size+1+1+1+1,0,none⟩) 3 3,.int .i64 50,.int .i64 33,.slice (some ⟨w.heap.size+1+1+1+1+1,0,none⟩) 2 2,.int .i64 20]) (by simp[results,Tryz.results88,go_sem]) rfl ?_;refine⟨_,_,_,_,_,_,rfl,?_,?_,?_⟩
 ·refine Sl.ofBlk (l:=Uk.leg) (((Blk.new4 w _ _ _ _ _ _).old _)) (by decide) (by first | (show _≤_;omega) | (show _≤_;simp;omega)) fun i x F=>?_
  rcases i with _ | _ | _ | i
  ·obtain rfl : [100,200,301]=x:=by simpa [Uk] using F
   exact⟨[.slice (some ⟨w.heap.size+1,0,none⟩) 3 3],⟨_,_,_,rfl,Sl.ofInts [100,200,301] (((((Blk.new1 w _ _ _).old _).old _).old _).old _) (by decide) (by first | (show _≤_;omega) | (show _≤_;simp;omega)) (by decide)⟩,rfl,fun j u D=>by rcases j with _ | j<;>simp_all⟩
  ·obtain rfl : [150,250,350]=x:=by simpa [Uk] using F
   exact⟨[.slice (some ⟨w.heap.size+1+1,0,none⟩) 3 3],⟨_,_,_,rfl,Sl.ofInts [150,250,350] ((((Blk.new2 w _ _ _ _).old _).old _).old _) (by decide) (by first | (show _≤_;omega) | (show _≤_;simp;omega)) (by decide)⟩,rfl,fun j u D=>by rcases j with _ | j<;>simp_all⟩
  ·obtain rfl : [500,500,500]=x:=by simpa [Uk] using F
   exact⟨[.slice (some ⟨w.heap.size+1+1+1,0,none⟩) 3 3],⟨_,_,_,rfl,Sl.ofInts [500,500,500] (((Blk.new3 w _ _ _ _ _).old _).old _) (by decide) (by first | (show _≤_;omega) | (show _≤_;simp;omega)) (by decide)⟩,rfl,fun j u D=>by rcases j with _ | j<;>simp_all⟩
  ·simp[Uk]at F
 ·refine Sl.ofBlk (l:=Uk.bands) (Blk.new5 w _ _ _ _ _ _ _) (by decide) (by first | (show _≤_;omega) | (show _≤_;simp;omega)) fun i x F=>?_
  rcases i with _ | _ | i
  ·simp[Uk]at F;subst F
   exact⟨_,⟨rfl,.of (by decide) (by decide),.of (by decide) (by decide)⟩,rfl,fun j u D=>by rcases j with _ | _ | j<;>simp_all⟩
  ·simp[Uk]at F;subst F
   exact⟨_,⟨rfl,.of (by decide) (by decide),.of (by decide) (by decide)⟩,rfl,fun j u D=>by rcases j with _ | _ | j<;>simp_all⟩
  ·simp[Uk]at F
 ·exact((Q8a w _ _ _).alloc (by simp;omega) _ |>.alloc (by simp;omega) _).alloc (by simp;omega) _
theorem Blk.neTy {w:World}{a z:Nat}{xs D:Array Value}{t u:TypeId}(h:Blk w a xs t)(A:Blk w z D u)(E:t≠u):a≠z:=fun e=>by
 subst e;have h:w.heap[a]? = some (.cells xs t (0,0)):=h;have A:w.heap[a]? = some (.cells D u (0,0)):=A;rw[h]at A;simp only[Option.some.injEq,Obj.cells.injEq]at A;exact E A.2.1
theorem Uyc {n:Nat}{a w:World}(_:Below n a w)(A:Array Value)(t:TypeId):Blk (w.alloc (.cells A t)) w.heap.size A t:=Blk.new w A t
def XO:Bkg:={ UVa with fol:=[⟨1,1,1200⟩] }
def UC:Bkg:={ Xu with fol:=[⟨1,1,1202⟩] }
def Qi:Sai:=⟨QZ,Uk,2,40,[XO,UC],false⟩
theorem Xja {w:World}{e:Nat}{a b c:Int}(h:Blk w e #[.int .i64 a,.int .i64 b,.int .i64 c] 140)(D:InI a)(E:InI b)(F:InI c):Sl Qw 3 w All (some ⟨e,0,none⟩) 1 1 [⟨a,b,c⟩]:=by
 refine Sl.ofBlk (l:=([⟨a,b,c⟩]:List Entry)) h (by simp) trivial fun i x A=>?_
 rcases i with _ | i
 ·obtain rfl:(⟨a,b,c⟩:Entry)=x:=by simpa using A
  exact⟨[.int .i64 a,.int .i64 b,.int .i64 c],⟨rfl,D,E,F⟩,rfl,fun j u I=>by rcases j with _ | _ | _ | j<;>simp_all⟩
 ·simp at A
theorem Xkb {b:Bkg}{f:List Entry}(h:BkIn b):BkIn { b with fol:=f }:=⟨h.id,h.kind,h.state,h.gst,h.cab,h.cat,h.frm,h.upto,h.til⟩
theorem ZWb {n:Nat}{a w:World}(_:Below n a w)(z:Nat)(A:Array Value):Kept (fun k=>k=z) w (w.setRow z A):=(Kept.refl (fun k=>k=z) w).setRow (.inl rfl) A
theorem VFb {w:World}{q A D:Nat}(J:Blk w q #[.int .i64 7,.int .i64 1,.int .i64 2,.int .i64 3,.bool false,.int .i64 1,.int .i64 0,.int .i64 1,.int .i64 3,.int .i64 0,.slice (some ⟨A,0,none⟩) 1 1,.int .i64 9,.int .i64 2,.int .i64 1,.int .i64 2,.bool false,.int .i64 (-1),.int .i64 0,.int .i64 0,.int .i64 3,.int .i64 4,.slice (some ⟨D,0,none⟩) 1 1] 63)(F:Blk w A #[.int .i64 1,.int .i64 1,.int .i64 1200] 140)(I:Blk w D #[.int .i64 1,.int .i64 1,.int .i64 1202] 140):Sl Vb 11 w All (some ⟨q,0,none⟩) 2 2 [XO,UC]:=by
 refine Sl.ofBlk (l:=[XO,UC]) J (by decide) trivial fun i x E=>?_
 rcases i with _ | _ | i
 ·obtain rfl:XO=x:=by simpa using E
  exact⟨[.int .i64 7,.int .i64 1,.int .i64 2,.int .i64 3,.bool false,.int .i64 1,.int .i64 0,.int .i64 1,.int .i64 3,.int .i64 0,.slice (some ⟨A,0,none⟩) 1 1],⟨_,_,_,rfl,Xja F (.of (by decide) (by decide)) (.of (by decide) (by decide)) (.of (by decide) (by decide)),Xkb (Yha UVa (by simp[ZJb])).1⟩,rfl,fun j u O=>by rcases j with _ | _ | _ | _ | _ | _ | _ | _ | _ | _ | _ | j<;>simp_all⟩
 ·obtain rfl:UC=x:=by simpa using E
  exact⟨[.int .i64 9,.int .i64 2,.int .i64 1,.int .i64 2,.bool false,.int .i64 (-1),.int .i64 0,.int .i64 0,.int .i64 3,.int .i64 4,.slice (some ⟨D,0,none⟩) 1 1],⟨_,_,_,rfl,Xja I (.of (by decide) (by decide)) (.of (by decide) (by decide)) (.of (by decide) (by decide)),Xkb (Yha Xu (by simp[ZJb])).1⟩,rfl,fun j u O=>by rcases j with _ | _ | _ | _ | _ | _ | _ | _ | _ | _ | _ | j<;>simp_all⟩
 ·simp at E
theorem QMb {w F w6:World}{A:Option Addr}{n cap:Nat}{B:Option Addr}{m U:Nat}{D:Option Addr}{nd V:Nat}{E:Option Addr}{ne W z q X Y:Nat}{zs:Array Value}(hz:w.heap.size≤z)(hb:yw w F)(ab:yw F w6)
  (Z:Blk w6 q #[.int .i64 7,.int .i64 1,.int .i64 2,.int .i64 3,.bool false,.int .i64 1,.int .i64 0,.int .i64 1,.int .i64 3,.int .i64 0,.slice (some ⟨X,0,none⟩) 1 1,.int .i64 9,.int .i64 2,.int .i64 1,.int .i64 2,.bool false,.int .i64 (-1),.int .i64 0,.int .i64 0,.int .i64 3,.int .i64 4,.slice (some ⟨Y,0,none⟩) 1 1] 63) (hc:Sl Um 2 w6 (fun b=>b≠z) A n cap QZ.cats) (hd:Sl ZW 4 w6 (fun b=>b≠z) B m U QZ.cabs) (hf:Sl (slC QL 1) 1 w6 (fun b=>b≠z) D nd V Uk.leg) (hg:Sl UH 2 w6 (fun b=>b≠z) E ne W Uk.bands)
  (I:Blk F X #[.int .i64 1,.int .i64 1,.int .i64 1200] 140) (J:Blk F Y #[.int .i64 1,.int .i64 1,.int .i64 1202] 140) (hZ:Blk F z zs 32) (Q:Array Value) :
  SaiR (w6.setRow z Q) Qi ⟨A,n,cap,B,m,U,D,nd,V,E,ne,W,some ⟨q,0,none⟩,2,2⟩∧yw w (w6.setRow z Q):=by
 have hK:=ZWb ab z Q;have O:=hZ.bel ab;have I:=I.bel ab;have J:=J.bel ab;exact⟨⟨(hc.kept hK (fun b _ hb e=>hb e)).all ZB (by omega),(hd.kept hK (fun b _ hb e=>hb e)).all Zg (by omega),⟨(hf.keep (S':=All) (Zt Qb (by omega)) (by omega) (fun b hb aa=>⟨hK.block b aa hb,trivial⟩)),(hg.kept hK (fun b _ hb e=>hb e)).all Qs (by omega),.of (by decide) (by decide),.of (by decide) (by decide),.of (by decide) (by decide)⟩,VFb (Z.rowOther (Z.neTy O (by decide)) _) (I.rowOther (I.neTy O (by decide)) _) (J.rowOther (J.neTy O (by decide)) _)⟩,(hb.trans (ab.mono hb.size)).trans (hK.below (B:=w.heap.size) (Nat.le_trans hb.size ab.size) (fun k hk e=>by omega))⟩
theorem VB (w:World):Calls Tryz.prog 62 #[] w fun e w'=>∃p,e=.returned (.agg (Qa Qi p))∧SaiR w' Qi p∧yw w w':=by
 go_enter Tryz.func62,Tryz.ntmps62
 go_wp2_with fail
 refine(Q7b _).mono ?_;rintro e w1 ⟨rfl,Q⟩;have O:=(Blk.new w #[.int .i64 0,.int .i64 0,.slice none 0 0,.slice none 0 0,.slice none 0 0,.int .i64 0,.int .i64 0,.slice none 0 0,.int .i64 0,.int .i64 0,.int .i64 0,.slice none 0 0,.bool false] 32).bel Q;have hb:=(Qf w (.cells #[.int .i64 0,.int .i64 0,.slice none 0 0,.slice none 0 0,.slice none 0 0,.int .i64 0,.int .i64 0,.slice none 0 0,.int .i64 0,.int .i64 0,.int .i64 0,.slice none 0 0,.bool false] 32)).trans (Q.mono (by simp));clear Q
 go_wp2_with fail
 refine(YY _).mono ?_;rintro e w2 ⟨rfl,Q⟩;replace O:=O.bel Q;replace hb:=hb.trans (Q.mono hb.size);clear Q;have hs:=hb.size;have aa:=O.lt
 go_upto_region 3 with(fail)
 go_cut [0,1,2] (fun p p1 p2 W=>∃z a b e e',p=.pointer (some ⟨z,0,none⟩)∧p1=.pointer (some ⟨a,0,none⟩)∧p2=.pointer (some ⟨b,0,none⟩)∧a≠b∧a≠z∧b≠z∧w.heap.size≤z∧w.heap.size≤a∧w.heap.size≤b∧Blk W z #[.int .i64 0,.int .i64 0,.slice none 0 0,.slice none 0 0,.slice none 0 0,.int .i64 0,.int .i64 0,.slice none 0 0,.int .i64 0,.int .i64 0,.int .i64 0,.slice none 0 0,.bool false] 32∧Blk W a (Qz UVa (.slice (some ⟨e,0,none⟩) 1 1)) 63∧Blk W b (Qz Xu (.slice (some ⟨e',0,none⟩) 1 1)) 63∧Blk W e #[.int .i64 1,.int .i64 1,.int .i64 1200] 140∧Blk W e' #[.int .i64 1,.int .i64 1,.int .i64 1202] 140∧yw w W)
 case first=>
  go_wp2_with fail
  go_meet
  exact⟨_,_,_,_,_,rfl,rfl,rfl,by omega,by omega,by omega,Nat.le_refl _,by omega,by omega,((((O.old _).old _).old _).old _),(((Blk.new w2 _ _).old _).old _).old _,((Blk.new1 w2 _ _ _).old _).old _,(Blk.new2 w2 _ _ _ _).old _,Blk.new3 w2 _ _ _ _ _,(((hb.alloc hb.size _).alloc (by simp;omega) _).alloc (by simp;omega) _).alloc (by simp;omega) _⟩
 obtain⟨z,a,b,I,J,rfl,rfl,rfl,au,aq,ar,hz,ha,av,O,hA,hB,ag,ah,hb⟩:=hcut;obtain⟨W4,ap⟩:∃V,V=wc:=⟨_,rfl⟩;subst ap;have aa:=O.lt;have ae:=yh (show ∀X,Blk X a (Qz UVa (.slice (some ⟨I,0,none⟩) 1 1)) 63→Blk X b (Qz Xu (.slice (some ⟨J,0,none⟩) 1 1)) 63→(fun w'=>(yI w' a 0 7∧yI w' a 1 1∧yI w' a 2 2∧yI w' a 3 3∧w'.cell? ⟨a,4,none⟩=some (.bool false)∧yI w' a 5 1∧yI w' a 6 0∧yI w' a 7 1∧yI w' a 8 3∧yI w' a 9 0∧yJ w' a 10 (some ⟨I,0,none⟩) 1 1)∧(yI w' b 0 9∧yI w' b 1 2∧yI w' b 2 1∧yI w' b 3 2∧w'.cell? ⟨b,4,none⟩=some (.bool false)∧yI w' b 5 (-1)∧yI w' b 6 0∧yI w' b 7 0∧yI w' b 8 3∧yI w' b 9 4∧yJ w' b 10 (some ⟨J,0,none⟩) 1 1)) X from fun X hX F=>⟨⟨hX.cell rfl,hX.cell rfl,hX.cell rfl,hX.cell rfl,hX.cell rfl,hX.cell rfl,hX.cell rfl,hX.cell rfl,hX.cell rfl,hX.cell rfl,hX.cell rfl⟩,⟨F.cell rfl,F.cell rfl,F.cell rfl,F.cell rfl,F.cell rfl,F.cell rfl,F.cell rfl,F.cell rfl,F.cell rfl,F.cell rfl,F.cell rfl⟩⟩);have HA:=yh (fun X (hX:yw W4 X)=>ae.out X (hA.bel hX) (hB.bel hX));have HZ:=yh O;clear O;have HB:=yh hb;clear hb;have al:=yh ag;clear ag;have am:=yh ah;clear ah;have aj:=yh hA;clear hA;have ak:=yh hB;clear hB
 go_wp2_with fail
 have aw:yw W4 W4.drew:=(Below.refl _ W4).drew;refine wp_region_held_drew (S:=(fun w'=>(yI w' a 0 7∧yI w' a 1 1∧yI w' a 2 2∧yI w' a 3 3∧w'.cell? ⟨a,4,none⟩=some (.bool false)∧yI w' a 5 1∧yI w' a 6 0∧yI w' a 7 1∧yI w' a 8 3∧yI w' a 9 0∧yJ w' a 10 (some ⟨I,0,none⟩) 1 1)∧(yI w' b 0 9∧yI w' b 1 2∧yI w' b 2 1∧yI w' b 3 2∧w'.cell? ⟨b,4,none⟩=some (.bool false)∧yI w' b 5 (-1)∧yI w' b 6 0∧yI w' b 7 0∧yI w' b 8 3∧yI w' b 9 4∧yJ w' b 10 (some ⟨J,0,none⟩) 1 1))) (by kernel_rfl) (HA.out _ aw) (fun ab=>?_);refine yT [2,3] (by kernel_rfl) (by assumption) ?_
 iterate 2 (refine yS (v:=?_) (gA rfl) (fun _ _ _ h=>h) rfl ?_ ?_;rotate_left;(focus (intro w ac;(try dsimp only at ac);go_simp<;>with_reducible rfl));simp only[yP,yA,yB,yC])
 focus
  refine Qja 0 4 (by kernel_rfl) (gA rfl) (gA rfl) (fun K k0=>?_) (fun K k4=>?_)
  repeat first
   |
    revert k0
    intro hK;go_simp
    (go_at_call 86;refine(ZLa _).mono ?_;rintro e w5 ⟨A,n,cap,B,m,af,rfl,U,hd,ad⟩;(try replace hL:=hL.bel ad);replace U:=U.keep (S':=fun b=>b≠z) ZB (by omega) (fun b hb _=>⟨rfl,Ne.symm (Nat.ne_of_lt (Nat.lt_of_lt_of_le aa (Nat.le_trans aw.size hb)))⟩);replace hd:=hd.keep (S':=fun b=>b≠z) Zg (by omega) (fun b hb _=>⟨rfl,Ne.symm (Nat.ne_of_lt (Nat.lt_of_lt_of_le aa (Nat.le_trans aw.size hb)))⟩);replace aw:=aw.trans (ad.mono aw.size);clear ad)
    go_wp2_with fail
    refine hK.out _ _ (HA.out _ aw) fun ab=>?_
    clear hK K
    try simp only[yP,yQ,yA,yB,yC]
    first
     | refine Qja 1 4 (by(fail_if_success (fail_if_success decide +kernel));kernel_rfl) (gA rfl) (gA rfl) (fun K k1=>?_) (fun K k4=>?_)
     | refine UF 1 (by(fail_if_success (fail_if_success decide +kernel));kernel_rfl) (gA rfl) (fun K k1=>?_)
   |
    revert k1
    intro hK;go_simp
    (go_at_call 88;refine(Vea _).mono ?_;rintro e w6 ⟨D,nd,cd,E,ne,ce,rfl,Z,hg,Y⟩;(try replace hL:=hL.bel Y);replace U:=U.bel Y;replace hd:=hd.bel Y;replace Z:=Z.keep (S':=fun b=>b≠z) (Zt Qb (by omega)) (by omega) (fun b hb _=>⟨rfl,Ne.symm (Nat.ne_of_lt (Nat.lt_of_lt_of_le aa (Nat.le_trans aw.size hb)))⟩);replace hg:=hg.keep (S':=fun b=>b≠z) Qs (by omega) (fun b hb _=>⟨rfl,Ne.symm (Nat.ne_of_lt (Nat.lt_of_lt_of_le aa (Nat.le_trans aw.size hb)))⟩);replace aw:=aw.trans (Y.mono aw.size);clear Y)
    go_wp2_with fail
    refine hK.out _ _ (HA.out _ aw) fun ab=>?_
    clear hK K
    try simp only[yP,yQ,yA,yB,yC]
    first
     | refine UF 4 (by(fail_if_success (fail_if_success decide +kernel));kernel_rfl) (gA rfl) (fun K k4=>?_)
     | rotate_left
   |
    revert k4
    intro hK;go_simp
    refine hK.out _ _ (HA.out _ (aw.alloc aw.size (.cells #[.int .i64 7,.int .i64 1,.int .i64 2,.int .i64 3,.bool false,.int .i64 1,.int .i64 0,.int .i64 1,.int .i64 3,.int .i64 0,.slice (some ⟨I,0,none⟩) 1 1,.int .i64 9,.int .i64 2,.int .i64 1,.int .i64 2,.bool false,.int .i64 (-1),.int .i64 0,.int .i64 0,.int .i64 3,.int .i64 4,.slice (some ⟨J,0,none⟩) 1 1] 63))) fun ab=>?_
    clear hK K
    try simp only[yP,yQ,yA,yB,yC]
    ((try replace U:=U.bel (Qf _ (.cells #[.int .i64 7,.int .i64 1,.int .i64 2,.int .i64 3,.bool false,.int .i64 1,.int .i64 0,.int .i64 1,.int .i64 3,.int .i64 0,.slice (some ⟨I,0,none⟩) 1 1,.int .i64 9,.int .i64 2,.int .i64 1,.int .i64 2,.bool false,.int .i64 (-1),.int .i64 0,.int .i64 0,.int .i64 3,.int .i64 4,.slice (some ⟨J,0,none⟩) 1 1] 63)));(try replace hd:=hd.bel (Qf _ (.cells #[.int .i64 7,.int .i64 1,.int .i64 2,.int .i64 3,.bool false,.int .i64 1,.int .i64 0,.int .i64 1,.int .i64 3,.int .i64 0,.slice (some ⟨I,0,none⟩) 1 1,.int .i64 9,.int .i64 2,.int .i64 1,.int .i64 2,.bool false,.int .i64 (-1),.int .i64 0,.int .i64 0,.int .i64 3,.int .i64 4,.slice (some ⟨J,0,none⟩) 1 1] 63)));(try replace Z:=Z.bel (Qf _ (.cells #[.int .i64 7,.int .i64 1,.int .i64 2,.int .i64 3,.bool false,.int .i64 1,.int .i64 0,.int .i64 1,.int .i64 3,.int .i64 0,.slice (some ⟨I,0,none⟩) 1 1,.int .i64 9,.int .i64 2,.int .i64 1,.int .i64 2,.bool false,.int .i64 (-1),.int .i64 0,.int .i64 0,.int .i64 3,.int .i64 4,.slice (some ⟨J,0,none⟩) 1 1] 63)));(try replace hg:=hg.bel (Qf _ (.cells #[.int .i64 7,.int .i64 1,.int .i64 2,.int .i64 3,.bool false,.int .i64 1,.int .i64 0,.int .i64 1,.int .i64 3,.int .i64 0,.slice (some ⟨I,0,none⟩) 1 1,.int .i64 9,.int .i64 2,.int .i64 1,.int .i64 2,.bool false,.int .i64 (-1),.int .i64 0,.int .i64 0,.int .i64 3,.int .i64 4,.slice (some ⟨J,0,none⟩) 1 1] 63)));have hL:=Uyc aw #[.int .i64 7,.int .i64 1,.int .i64 2,.int .i64 3,.bool false,.int .i64 1,.int .i64 0,.int .i64 1,.int .i64 3,.int .i64 0,.slice (some ⟨I,0,none⟩) 1 1,.int .i64 9,.int .i64 2,.int .i64 1,.int .i64 2,.bool false,.int .i64 (-1),.int .i64 0,.int .i64 0,.int .i64 3,.int .i64 4,.slice (some ⟨J,0,none⟩) 1 1] 63;replace aw:=aw.alloc aw.size (.cells #[.int .i64 7,.int .i64 1,.int .i64 2,.int .i64 3,.bool false,.int .i64 1,.int .i64 0,.int .i64 1,.int .i64 3,.int .i64 0,.slice (some ⟨I,0,none⟩) 1 1,.int .i64 9,.int .i64 2,.int .i64 1,.int .i64 2,.bool false,.int .i64 (-1),.int .i64 0,.int .i64 0,.int .i64 3,.int .i64 4,.slice (some ⟨J,0,none⟩) 1 1] 63))
    first
     | refine UF 0 (by(fail_if_success (fail_if_success decide +kernel));kernel_rfl) (gA rfl) (fun K k0=>?_)
     | refine UF 1 (by(fail_if_success (fail_if_success decide +kernel));kernel_rfl) (gA rfl) (fun K k1=>?_)
     | rotate_left
  all_goals
   have ai:=HZ.out.bel aw;have an:=aj.out.bel aw;have ao:=ak.out.bel aw;refine yT [5] (by kernel_rfl) (by assumption) ?_
   iterate 1 (refine yS (v:=?_) (gA rfl) (fun _ _ _ h=>h) rfl ?_ ?_;rotate_left;(focus (intro w ac;(try dsimp only at ac);go_simp<;>with_reducible rfl));simp only[yP,yA,yB,yC])
   refine yR 6 (by kernel_rfl) (gA rfl) fun K hK=>?_
   (refine wp_store_row 32 (.tmp 0) (.tmp 16) rfl z (Qa Qi ⟨A,n,cap,B,m,af,D,nd,cd,E,ne,ce,some ⟨_,0,none⟩,2,2⟩) rfl rfl 32 _ ai (by kernel_rfl) rfl (by simp[Value.oneCell']) ?_)
   refine hK.out _ _ (ae.out _ (an.rowOther aq _) (ao.rowOther ar _)) fun ab=>?_
   clear hK K
   try simp only[yP,yQ,yA,yB,yC]
   refine wpAnyH_done (by kernel_rfl) ?_ _
   go_wp2_with fail
   refine bodyPost_ret (v:=.agg (Qa Qi ⟨A,n,cap,B,m,af,D,nd,cd,E,ne,ce,some ⟨_,0,none⟩,2,2⟩)) ((ai.row _).ret (k:=0) (by kernel_rfl) rfl Tryz.underlying32 (by kernel_rfl) (by kernel_rfl)) rfl ?_;exact⟨_,rfl,QMb hz HB.out aw hL U hd Z hg al.out am.out HZ.out _⟩
theorem Xra (x:Sai)(p:SaiV)(w:World)(h:SaiR w x p) :
  Calls Tryz.prog 41 #[.agg (Qa x p)] w fun e w'=>∃v1 v2 aa ab,e=.returned (.tuple #[v1,v2,.int .i64 (Qp x)])∧Own QL 1 3 w' w.heap.size v1 (okL (Qp x) (Z5 x)) aa∧Own UM 2 94 w' w.heap.size v2 (okL (Qp x) (Zd x)) ab∧yw w w':=by
 have J:=yh (fun W h=>Q8 x p W h);have ac:=yh (fun W h (Y:OkBs x)=>Ura x p W h Y.ship Y.bk Y.len);have HS:=yh h;obtain⟨A,n,cap,B,m,O,D,nd,U,E,ne,V,C,nb,Q⟩:=p;obtain⟨r,I⟩:∃r,r=Qp x:=⟨_,rfl⟩;rw[←I]at J;rw[←I];have HR:=yh I;clear I;clear h
 go_enter Tryz.func41,Tryz.ntmps41
 go_upto_region 0 with(fail)
 go_cut [1,2,3,4] (fun q _ _ _ wx=>∃g,q=.pointer (some ⟨g,0,none⟩)∧Blk wx g (Qa x ⟨A,n,cap,B,m,O,D,nd,U,E,ne,V,C,nb,Q⟩) 32∧yw w wx)
 case first=>as_aux_lemma=>
  go_wp2_with fail
  go_meet
  exact⟨_,rfl,Za _ _,Qf _ _⟩
 obtain⟨g,rfl,hG,am⟩:=hcut;have s0:yI wc g 0 x.ship.legs:=hG.cell rfl;have s1:yI wc g 1 x.ship.souls:=hG.cell rfl;have s2:yJ wc g 2 A n cap:=hG.cell rfl;have s3:yJ wc g 3 B m O:=hG.cell rfl;have s4:yJ wc g 4 D nd U:=hG.cell rfl;have s5:yI wc g 5 x.fares.alone:=hG.cell rfl;have s6:yI wc g 6 x.fares.third:=hG.cell rfl;have s7:yJ wc g 7 E ne V:=hG.cell rfl;have s8:yI wc g 8 x.fares.down:=hG.cell rfl;have s9:yI wc g 9 x.day:=hG.cell rfl;have ae:yI wc g 10 x.leaves:=hG.cell rfl;have af:yJ wc g 11 C nb Q:=hG.cell rfl;have ag:wc.cell? ⟨g,12,none⟩=some (.bool x.closed):=hG.cell rfl;have F:=yh (J.out wc (HS.out.bel am))
 go_wp2_with fail
 refine F.out.mono ?_;rintro e w2 ⟨rfl,Z⟩;replace hG:=hG.bel Z;replace am:=am.trans (Z.mono am.size);clear Z s0 s1 s2 s3 s4 s5 s6 s7 s8 s9 ae af ag F J
 by_cases h0:r=0
 rotate_left
 ·have al:(r != 0)=true:=by simpa using h0
  have H0:=yh h0;clear h0 hG
  go_wp2_with fail
  go_ret3
  exact⟨_,_,[],[],rfl,Own.nilE H0.out,Own.nilE H0.out,am⟩
 subst h0;have aj:=yh (Ze HR.out.symm);have s0:yI w2 g 0 x.ship.legs:=hG.cell rfl;have s1:yI w2 g 1 x.ship.souls:=hG.cell rfl;have s2:yJ w2 g 2 A n cap:=hG.cell rfl;have s3:yJ w2 g 3 B m O:=hG.cell rfl;have s4:yJ w2 g 4 D nd U:=hG.cell rfl;have s5:yI w2 g 5 x.fares.alone:=hG.cell rfl;have s6:yI w2 g 6 x.fares.third:=hG.cell rfl;have s7:yJ w2 g 7 E ne V:=hG.cell rfl;have s8:yI w2 g 8 x.fares.down:=hG.cell rfl;have s9:yI w2 g 9 x.day:=hG.cell rfl;have ae:yI w2 g 10 x.leaves:=hG.cell rfl;have af:yJ w2 g 11 C nb Q:=hG.cell rfl;have ag:w2.cell? ⟨g,12,none⟩=some (.bool x.closed):=hG.cell rfl;have F:=yh (ac.out w2 (HS.out.bel am) aj.out.bs);have ad:=am.size;clear hG ac
 go_wp2_with fail
 refine F.out.mono ?_;rintro e w3 ⟨v1,v2,aa,ab,rfl,an,X,ak⟩;obtain⟨A1,n1,c1,rfl,_⟩:=an.sl Qb;obtain⟨A2,n2,c2,rfl,_⟩:=X.sl Qx;have ah:=yh (an.mono Qb ad);have ai:=yh (X.mono Qx ad);clear an X
 go_wp2_with fail
 go_ret3
 exact⟨_,_,aa,ab,rfl,ah.out,ai.out,am.trans (ak.mono am.size)⟩
noncomputable def YGa (x:Sai) (c:Int):Int:=if Qp x≠0 then Qp x else if Qc c 0 ((x.ship.cabs.length:Int) - 1)=false then 3 else 0
theorem VDa (x:Sai)(p:SaiV)(c:Int)(w:World)(h:SaiR w x p) :
  Calls Tryz.prog 42 #[.agg (Qa x p),.int .i64 c] w fun e w'=>∃v xs,e=.returned (.tuple #[v,.int .i64 (YGa x c)])∧Own Ug 2 51 w' w.heap.size v (okL (YGa x c) (V4a (YB x.bks c) x.ship.legs)) xs∧yw w w':=by
 have az:=yh (fun W h=>Q8 x p W h);have HS:=yh h;obtain⟨A,n,cap,B,m,O,D,nd,cd,E,ne,ce,C,I,F⟩:=p;have hl:Sl Vb 11 w All C I F x.bks:=h.bks;have hd:Sl ZW 4 w All B m O x.ship.cabs:=h.cabs;have ad:=yh (fun W hW (Z:OkBs x)=>VOa C I F x.bks c W hW (YL Z.ship Z.bk) (by have:=Z.len;rw[hl.len]at this;omega));have av:=hd.bd;obtain⟨r,hr⟩:∃r,r=YGa x c:=⟨_,rfl⟩;rw[←hr];obtain⟨V,Q⟩:∃q,q=Qp x:=⟨_,rfl⟩;have HR:=yh (show r=if V≠0 then V else if Qc c 0 ((m:Int) - 1)=false then 3 else 0 by rw[hr,Q,←hd.len];rfl);rw[←Q]at az;have al:=yh Q;clear Q;obtain⟨tl,U⟩:∃q,q=YB x.bks c:=⟨_,rfl⟩;rw[←U]at ad;rw[←U];have am:=yh U;clear U;have HL:=yh hl;clear h hl hd hr
 go_enter Tryz.func42,Tryz.ntmps42
 go_upto_region 0 with(fail)
 go_cut [2,4,5] (fun q _ _ wx=>∃g,q=.pointer (some ⟨g,0,none⟩)∧Blk wx g (Qa x ⟨A,n,cap,B,m,O,D,nd,cd,E,ne,ce,C,I,F⟩) 32∧yw w wx)
 case first=>as_aux_lemma=>
  go_wp2_with fail
  go_meet
  exact⟨_,rfl,Za _ _,Qf _ _⟩
 obtain⟨g,rfl,hG,ax⟩:=hcut;have s0:yI wc g 0 x.ship.legs:=hG.cell rfl;have s1:yI wc g 1 x.ship.souls:=hG.cell rfl;have s2:yJ wc g 2 A n cap:=hG.cell rfl;have s3:yJ wc g 3 B m O:=hG.cell rfl;have s4:yJ wc g 4 D nd cd:=hG.cell rfl;have s5:yI wc g 5 x.fares.alone:=hG.cell rfl;have s6:yI wc g 6 x.fares.third:=hG.cell rfl;have s7:yJ wc g 7 E ne ce:=hG.cell rfl;have s8:yI wc g 8 x.fares.down:=hG.cell rfl;have s9:yI wc g 9 x.day:=hG.cell rfl;have ap:yI wc g 10 x.leaves:=hG.cell rfl;have ac:yJ wc g 11 C I F:=hG.cell rfl;have aq:wc.cell? ⟨g,12,none⟩=some (.bool x.closed):=hG.cell rfl;have ay:=yh (az.out wc (HS.out.bel ax))
 go_wp2_with fail
 refine ay.out.mono ?_;rintro e w2 ⟨rfl,aa⟩;replace hG:=hG.bel aa;replace ax:=ax.trans (aa.mono ax.size);clear aa s0 s1 s2 s3 s4 s5 s6 s7 s8 s9 ap ac aq ay az
 by_cases h0:V=0
 rotate_left
 ·obtain rfl:r=V:=by rw[HR.out,if_pos h0]
  have au:(r != 0)=true:=by simpa using h0
  have H0:=yh h0;clear h0 hG
  go_wp2_with fail
  go_ret2
  exact⟨_,[],rfl,Own.nilE H0.out,ax⟩
 have X:=yh (HR.out.trans (if_neg (by rw[h0];simp)));have J:=yh (Ze (al.out.symm.trans h0));subst h0;have s3:yJ w2 g 3 B m O:=hG.cell rfl
 by_cases hc0:c < 0
 ·obtain rfl:r=3:=X.out.trans (if_pos (QH (.inl hc0)))
  clear hG
  go_wp2_with fail
  go_ret2
  exact⟨_,[],rfl,Own.nilE (by decide),ax⟩
 by_cases hc1:(m:Int)≤c
 ·obtain rfl:r=3:=X.out.trans (if_pos (QH (.inr (by omega))))
  clear hG
  go_wp2_with fail
  go_ret2
  exact⟨_,[],rfl,Own.nilE (by decide),ax⟩
 obtain rfl:r=0:=X.out.trans (if_neg (by rw[QX (by omega) (by omega)];simp));have ac:yJ w2 g 11 C I F:=hG.cell rfl;have ay:=yh (ad.out w2 (HL.out.bel ax) J.out.bs);have ah:=ax.size;have aj:=yh hG;clear hG
 go_wp2_with fail
 refine ay.out.mono ?_;rintro e w3 ⟨v1,aw,rfl,ae,ab⟩;obtain⟨A1,n1,c1,rfl,ag⟩:=ae.sl Ql;have hG:=aj.out.bel ab;replace ax:=ax.trans (ab.mono ax.size);have s0:yI w3 g 0 x.ship.legs:=hG.cell rfl;have ao:=Yv J.out.bs.ship
 have af:tl.length≤1000:=by
  rw[am.out];unfold YB
  cases hq:spF (spL x.bks c)with
  | none=>simp
  | some o=>
   have:=(Uob (XYa (YL J.out.bs.ship J.out.bs.bk)) hq).1;simp only[Option.getD_some];omega
 have ai:=yh (VZb A1 n1 c1 tl x.ship.legs w3 (ag.all Ql (by omega)) af (.of (by omega) (by omega)));clear ae ag ab ay ao af hG s3 ac;have ah:=ax.size
 go_wp2_with fail
 refine ai.out.mono ?_;rintro e w4 ⟨v2,ar,rfl,Y,an⟩;obtain⟨A2,n2,c2,rfl,_⟩:=Y.sl Ql;have ak:=yh (Y.mono Ql ah);clear Y
 go_wp2_with fail
 go_ret2
 exact⟨_,ar,rfl,ak.out,ax.trans (an.mono ax.size)⟩
end Go.Proofs.YtjdcokpmgionjaaGreat
