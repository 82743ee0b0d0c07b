/-
  Words, laws and contracts: VoyA, VoyB.
-/
import Derived.Test.YtjdcokpmgionjaaGreatBun26
import Derived.BigQuiet
set_option linter.unusedSimpArgs false
set_option linter.unusedVariables false
set_option maxRecDepth 100000
set_option maxHeartbeats 20000000
namespace Go.Proofs.YtjdcokpmgionjaaGreat
open Go.RowKit Go.Shelf
def Xo (day:Int) (b:Bkg):Bool:=decide (b.state=1) && decide (b.til < day)
def VU (x:Sai) (day:Int) (b:Bkg):Bkg:=if Vf x b day=0 then Yk x b day else { b with state:=3,til:=0 }
def U7 (x:Sai) (day:Int) (b:Bkg):Bkg:=if Xo day b=true then VU x day b else b
def UE (x:Sai) (day:Int):Sai:={ x with day:=day,bks:=x.bks.map (U7 x day) }
def Qnb (x:Sai) (day:Int):List Int:=(x.bks.filter (Xo day)).map (·.id)
def Zv (x:Sai) (day:Int) (k:Nat):Sai:={ x with day:=day,bks:=(x.bks.take k).map (U7 x day)++x.bks.drop k }
def Zia (x:Sai) (day:Int) (k:Nat):List Int:=((x.bks.take k).filter (Xo day)).map (·.id)
theorem VRb (x:Sai)(day:Int):Zv x day x.bks.length=UE x day:=by
 unfold Zv UE;rw[List.take_length,List.drop_length,List.append_nil]
theorem XKb (x:Sai)(day:Int):Zia x day x.bks.length=Qnb x day:=by
 unfold Zia Qnb;rw[List.take_length]
theorem VSb (x:Sai)(day:Int)(k:Nat):(Zv x day k).bks.length=x.bks.length:=by
 show((x.bks.take k).map (U7 x day)++x.bks.drop k).length=_
 rw[List.length_append,List.length_map,List.length_take,List.length_drop];omega
section
variable {x:Sai} {day:Int} {k:Nat} {b:Bkg}
theorem U8 (A:x.bks[k]? = some b):(Zv x day k).bks[k]? = some b:=by
 have D:=(List.getElem?_eq_some_iff.1 A).1
 show((x.bks.take k).map (U7 x day)++x.bks.drop k)[k]? = some b
 rw[List.getElem?_append_right (by rw[List.length_map,List.length_take];omega),List.length_map,List.length_take,List.getElem?_drop,show k+(k - min k x.bks.length)=k by omega];exact A
theorem Vfa (A:x.bks[k]? = some b):Zv x day (k+1)=Zx (Zv x day k) k (U7 x day b):=by
 have E:=(List.getElem?_eq_some_iff.1 A).1
 have D:x.bks.drop k=b::x.bks.drop (k+1):=by rw[List.drop_eq_getElem_cons E];rw[(List.getElem?_eq_some_iff.1 A).2]
 unfold Zv Zx;simp only
 congr 1
 rw[D,Qn A,List.map_append,List.set_append_right _ _ (by rw[List.length_map,List.length_take];omega),List.length_map,List.length_take,show k - min k x.bks.length=0 by omega]
 simp
theorem Zzb (A:x.bks[k]? = some b)(h:Xo day b=false):Zv x day (k+1)=Zv x day k∧Zia x day (k+1)=Zia x day k:=by
 have D:U7 x day b=b:=by unfold U7;rw[h];rfl
 refine⟨?_,?_⟩
 ·rw[Vfa A,D]
  unfold Zx
  rw[show(Zv x day k).bks.set k b=(Zv x day k).bks from by
   refine List.ext_getElem? fun i=>?_
   by_cases hi:i=k
   ·subst hi
    rw[List.getElem?_set_self (List.getElem?_eq_some_iff.1 (U8 A)).1,U8 A]
   ·rw[List.getElem?_set_ne (fun e=>hi e.symm)]]
 ·unfold Zia
  rw[Qn A,List.filter_append]
  simp[h]
theorem Zyb (A:x.bks[k]? = some b)(h:Xo day b=true):Zv x day (k+1)=Zx (Zv x day k) k (VU x day b)∧Zia x day (k+1)=Zia x day k++[b.id]:=by
 have D:U7 x day b=VU x day b:=by unfold U7;rw[h];rfl
 refine⟨by rw[Vfa A,D],?_⟩;unfold Zia;rw[Qn A,List.filter_append,List.map_append]
 simp[h]
end
section
variable {w0:World} {b0:Nat} {w w':World} {base:Nat} {x:Sai} {p:SaiV}
theorem SaiW.blkB {g:Nat}(h:SaiW w0 b0 w base x p)(I:p.C=some ⟨g,0,none⟩):∃E,Blk w g E 63:=by
 obtain⟨O,Q,U,V,W,xs,D⟩:=h;rw[I]at D
 rcases D.row.2 with⟨A,_⟩ | ⟨Y,X,F,A,Z,J,_⟩
 ·cases A
 ·injection A with e1
  injection e1 with e1
  injection e1 with e1
  subst e1;exact⟨F,J⟩
theorem SaiW.grownI {B:Nat}{v:Value}{l:List Int}{xs:List Value}(h:SaiW w0 b0 w base x p)(I:Own QL 1 3 w B v l xs)(U:w0.heap.size≤B)(A:w.grownBy w' v.ownBlock):SaiW w0 b0 w' base x p:=by
 rcases I.row.2 with⟨E,_⟩ | ⟨z,Q,F,E,V,J,_⟩
 ·refine h.bel ⟨A.os,A.tape,A.output,A.size,fun j D=>A.block j D (by rw[E];simp[Value.ownBlock])⟩
 ·exact h.keepZ (z:=z) (zs:=F) (t:=3) J (by decide) (by decide) (by omega) ⟨A.os,A.tape,A.output,A.size,fun j D O=>A.block j D (by rw[E];intro e;injection e with e;exact O e)⟩
end
theorem YUb (E:World)(b0:Nat)(x:Sai)(p:SaiV)(y:Nat)(base:Nat)(day:Int)(w:World)(D:SaiW E b0 w base x p)(A:Blk w y (Qa x p) 162)(ba:E.heap.size≤y)(ho:OkSai x)(hd:0≤day∧day≤9999) :
  Calls Tryz.prog 105 #[.pointer (some ⟨y,0,none⟩),.int .i64 day] w fun e w'=>∃v xs,e=.returned v∧Own QL 1 3 w' w.heap.size v (Qnb x day) xs∧SaiW E b0 w' base (UE x day) p∧Blk w' y (Qa (UE x day) p) 162∧Kept (fun j=>E.heap.size≤j) w w':=by
 have aN:=yh (fun k g b V D hC A hb a7=>VMa E b0 (Zv x day k) p k g y b day base V D hC A hb ho.fares ho.leaves (by rw[VSb];exact ho.bs.len) a7 hd);have aH:=yh (fun b (hb:b∈x.bks)=>(ho.bs.bk b hb).fol);have ac:=yh (show x.bks.length=p.nb from D.sai.bks.len);have aV:=ho.bs.len
 have bm:p.nb≤16:=by have:=ac.out;omega
 have ay:∀k,Qa (Zv x day k) p=Qa (Zv x day 0) p:=fun k=>rfl
 have bd:=yh ay;have ap:=yh (show ∀V,SaiW E b0 V base x p→SaiW E b0 V base (Zv x day 0) p from fun V ⟨a1,a2,a3,a4,a5,xs,a6⟩=>⟨a1,a2,a3,a4,⟨a5.cats,a5.cabs,a5.leg,a5.bands,a5.a,a5.t,a5.d⟩,xs,a6⟩)
 have bq:E.heap.size≤w.heap.size:=by obtain⟨_,_,a3,_⟩:=D;exact a3
 have be:base≤E.heap.size:=by obtain⟨a1,a2,_⟩:=D;omega
 have y9:yI w y 9 x.day:=A.cell rfl;have f9:=A.free 9;have bt:=A.lt;have O:=yh D;have F:=yh A;clear ay D A ho hd aV
 go_enter Tryz.func105,Tryz.ntmps105
 go_upto_region 2 with(fail)
 go_cut [] (fun X=>SaiW E b0 X base (Zv x day 0) p∧Blk X y (Qa (Zv x day 0) p) 162∧Kept (fun j=>j=y) w X)
 case first=>
  go_wp2_with fail
  go_meet
  have hk:=QMa w y [(9,.int .i64 day)];exact⟨ap.out _ (O.out.keepZ F.out (by decide) (by decide) ba hk),F.out.set (j:=9) _,hk⟩
 obtain⟨D,A,aj⟩:=hcut;obtain⟨U,a0⟩:∃V,V=wc:=⟨_,rfl⟩;subst a0;have a9:w.heap.size≤U.heap.size:=aj.size;have bu:=A.lt;have ai:yJ U y 11 p.C p.nb p.cb:=A.cell rfl;have aQ:=yh D;have aT:=yh A;have aL:=yh (show Kept (fun j=>E.heap.size≤j) w U from aj.mono fun k _ e=>by omega);clear D A aj y9 f9 O F ap
 go_wp2_with fail
 go_loopg [5,19] p.nb (fun gk v i wr=>∃(k:Nat) (xs:List Value) (vo:Value),k≤p.nb∧p.nb - k≤gk∧i=.int .i64 k∧vo=v∧Own QL 1 3 wr U.heap.size vo (Zia x day k) xs∧SaiW E b0 wr base (Zv x day k) p∧Blk wr y (Qa (Zv x day k) p) 162∧Kept (fun j=>E.heap.size≤j) U wr)
 case atStart=>exact⟨0,[],_,Nat.zero_le _,by omega,rfl,rfl,Own.nil _ _ _ _ _,aQ.out,aT.out,Kept.refl _ _⟩
 case round=>
  clear ai;obtain⟨k,xs,vo,hk,bg,rfl,rfl,hO,D,A,hK⟩:=hrel;have br:=hK.size
  by_cases hlt:k < p.nb
  ·have aD:k < x.bks.length:=by have:=ac.out;omega
   obtain⟨b,hb⟩:∃b,x.bks[k]? = some b:=⟨_,List.getElem?_eq_getElem aD⟩;obtain⟨g,A3,n3,c3,hC,bf,bh,J,ab,hF,hI,_⟩:=D.at (U8 (day:=day) hb)
   have ai:wr.cell? ⟨y,11,none⟩=some (.slice (some ⟨g,0,none⟩) p.nb p.cb):=by rw[←hC];exact A.cell rfl
   obtain⟨st,al⟩:∃q,q=b.state:=⟨_,rfl⟩;obtain⟨ti,am⟩:∃q,q=b.til:=⟨_,rfl⟩
   have c2:wr.cell? ⟨g,k*11+2,none⟩=some (.int .i64 st):=by rw[al];exact J 2 _ rfl
   have c9:wr.cell? ⟨g,k*11+9,none⟩=some (.int .i64 ti):=by rw[am];exact J 9 _ rfl
   have bj:(0:Int)≤(k:Int):=Int.natCast_nonneg _
   have bl:(k:Int) < (p.nb:Int):=by omega
   obtain⟨V1,aX⟩:∃V,V=wr:=⟨_,rfl⟩;subst aX;obtain⟨lo,ak⟩:∃q,q=Xo day b:=⟨_,rfl⟩;have ah:=yh (show lo=(decide (st=1) && decide (ti < day))by rw[ak,al,am];rfl);have ao:=yh ak;clear ak;have Q:=yh hb;clear hb;have HO:=yh hO;clear hO;have O:=yh D;clear D;have F:=yh A;clear A;have HK:=yh hK;clear hK;have Y:=yh hC;clear hC;have aK:=yh hI.id;clear al am J ab hF hI aD
   go_upto_region 7 with(fail)
   go_cut [41] (fun q X=>q=.bool (!lo)∧V1=X)
   case first=>as_aux_lemma=>
    by_cases q1:st=1
    ·by_cases q2:ti < day
     ·obtain rfl:lo=true:=by rw[ah.out,decide_eq_true q1,decide_eq_true q2];rfl
      have q3:decide (day≤ti)=false:=decide_eq_false (by omega);subst q1
      go_wp2_with fail
      go_meet
      exact⟨rfl,rfl⟩
     ·obtain rfl:lo=false:=by rw[ah.out,decide_eq_true q1,decide_eq_false q2];rfl
      have q3:decide (day≤ti)=true:=decide_eq_true (by omega);subst q1
      go_wp2_with fail
      go_meet
      exact⟨rfl,rfl⟩
    ·obtain rfl:lo=false:=by rw[ah.out,decide_eq_false q1];rfl
     have q3:(st != 1)=true:=by simpa using q1
     clear q1
     go_wp2_with fail
     go_meet
     exact⟨rfl,rfl⟩
   obtain⟨rfl,rfl⟩:=hcut;clear c2 c9
   cases lo
   ·obtain⟨e1,e2⟩:=Zzb Q.out ao.out.symm
    go_wp2_with fail
    go_roundg (p.nb - (k+1))
    case measure=>omega
    case rel=>exact⟨k+1,xs,vo,by omega,by omega,by go_num,rfl,by rw[e2];exact HO.out,by rw[e1];exact O.out,by rw[e1];exact F.out,HK.out⟩
   obtain⟨e1,e2⟩:=Zyb Q.out ao.out.symm
   have aB:¬y=g:=fun h=>O.out.neB Y.out F.out (by decide) h.symm
   have ag:=yh (aN.out k g b V1 O.out Y.out (fun j u hu=>F.out.cell hu) (U8 Q.out) (aH.out b (List.mem_of_getElem? Q.out)));obtain⟨E',hE⟩:∃q,q=Vf (Zv x day k) b day:=⟨_,rfl⟩;rw[←hE]at ag
   have aJ:=yh (show E'=0→YV (Zv x day k) k b day=Zv x day (k+1)from fun h=>by
    rw[UNa (hE.symm.trans h),e1];unfold VU;rw[if_pos (show Vf x b day=0 from hE.symm.trans h)]
    rfl)
   have aI:=yh (show ¬E'=0→YV (Zv x day k) k b day=Zv x day k∧Zv x day (k+1)=Zx (Zv x day k) k { b with state:=3,til:=0 }from fun h=>by
    have h2:¬Vf (Zv x day k) b day=0:=fun h3=>h (hE.trans h3)
    refine⟨YHa h2,?_⟩;rw[e1];unfold VU;rw[if_neg (show ¬Vf x b day=0 from h2)])
   have aF:=yh e1;have aG:=yh e2;clear e1 e2 hE
   go_wp2_with fail
   refine ag.out.mono ?_;rintro e w2 ⟨rfl,au,af⟩;have aw:=F.out.kept af aB;have bo:=af.size;have aq:=yh au;clear au;have bz:=yh aw;clear aw;have an:=yh af;clear af;clear ag ai;obtain⟨V2,aY⟩:∃V,V=w2:=⟨_,rfl⟩;subst aY
   go_upto_if 48 with(fail)
   go_cut [] (fun X=>SaiW E b0 X base (Zv x day (k+1)) p∧Kept (fun j=>j=g) V1 X)
   case first=>
    by_cases q1:E'=0
    ·have q2:(E' != 0)=false:=by simpa using q1
     have h:=aJ.out q1;have HH:=yh h;clear q1 h
     go_wp2_with fail
     go_meet
     exact⟨by rw[←HH.out];exact aq.out,an.out⟩
    ·have q2:(E' != 0)=true:=by simpa using q1
     obtain⟨h1,h2⟩:=aI.out q1;have W:=aq.out;rw[h1]at W;obtain⟨g',A4,n4,c4,aa,_,_,J,ab,_,_,_⟩:=W.at (U8 (day:=day) Q.out)
     obtain rfl:g=g':=by have:=Y.out;rw[this]at aa;injection aa with h;injection h
     have c2:yI V2 g (k*11+2) b.state:=J 2 _ rfl;have c9:yI V2 g (k*11+9) b.til:=J 9 _ rfl;have f2:=ab (k*11+2);have f9:=ab (k*11+9);have aR:=yh W;have H2:=yh h2;clear q1 h1 h2 W aa J ab
     go_wp2_with fail
     go_meet
     have bv:=aR.out.put Y.out (U8 Q.out) (j:=2) (by omega) (u:=.int .i64 3) (fun cs h=>Y2 h (.of (by decide) (by decide)));have av:=bv.put Y.out (XS (U8 Q.out)) (j:=9) (by omega) (u:=.int .i64 0) (fun cs h=>UBa h (.of (by decide) (by decide)));rw[set_set]at av;exact⟨by rw[H2.out];exact av,an.out.trans (QMa V2 g [(k*11+2,.int .i64 3),(k*11+9,.int .i64 0)])⟩
   obtain⟨W,ad⟩:=hcut;obtain⟨I,aZ⟩:∃V,V=wc:=⟨_,rfl⟩;subst aZ;have bp:=ad.size;have ax:=F.out.kept ad aB;obtain⟨bc,az⟩:=O.out.blkB Y.out;have ar:Own QL 1 3 I U.heap.size vo (Zia x day k) xs:=HO.out.keepB ZD (fun j hj=>ad.block j (HO.out.lt j hj).2 (fun e=>HO.out.neTy az (by decide) (by rw[hj,e])));obtain⟨g',A4,n4,c4,aa,_,_,J,ab,_,_,_⟩:=W.at (show(Zv x day (k+1)).bks[k]? = some (VU x day b)by rw[aF.out];exact XS (U8 Q.out))
   obtain rfl:g=g':=by have:=Y.out;rw[this]at aa;injection aa with h;injection h
   have aC:(VU x day b).id=b.id:=by unfold VU;split<;>rfl
   have c0:I.cell? ⟨g,k*11,none⟩=some (.int .i64 b.id):=by rw[←aC];exact J 0 _ rfl
   have bi:(Zia x day k).length≤16:=by
    unfold Zia;rw[List.length_map];have:=List.length_filter_le (Xo day) (x.bks.take k);rw[List.length_take]at this;have:=ac.out;omega
   have bx:((Zia x day k).length+1)*8≤140737488355328:=by omega
   have ae:=yh (ar.bel (Qf I (.cells #[.int .i64 b.id] 3)));have aS:=yh (W.bel (Qf I (.cells #[.int .i64 b.id] 3)));have aU:=yh ((show Blk I y (Qa (Zv x day (k+1)) p) 162 from ax).bel (Qf I (.cells #[.int .i64 b.id] 3)));have aM:=yh (HK.out.trans (ad.mono fun j _ e=>by omega))
   have bn:U.heap.size≤I.heap.size:=by omega
   have a8:U.heap.size≤(I.alloc (.cells #[.int .i64 b.id] 3)).heap.size:=by simp;omega
   have aP:=yh (Zsa I All b.id 3 aK.out trivial);clear ar W ax ad aa J ab aC az
   go_wp2_with (at_builtin;refine QC (t:=70) (e:=3) (bytes:=8) rfl (.tmp 55) (.tmp 60) rfl Ur Qb rfl ae.out rfl aP.out (fun _ _ hc=>hc) bx (by omega) a8 ?_;intro v' w' bb aE aA bw;have aO:=yh aE;have Z:=yh aA;clear aE aA bw)
   go_roundg (p.nb - (k+1))
   case measure=>omega
   case rel=>
    have aW:Kept (fun j=>E.heap.size≤j) (I.alloc (.cells #[.int .i64 b.id] 3)) w':=⟨Z.out.os,Z.out.tape,Z.out.output,Z.out.size,fun j hj hn=>Z.out.block j hj (fun e=>hn (by have:=(ae.out.lt j e.symm).1;omega))⟩;exact⟨k+1,bb,v',by omega,by omega,by go_num,rfl,by rw[aG.out];exact aO.out,aS.out.grownI ae.out (by omega) Z.out,aU.out.grown Z.out (fun e=>by have:=(ae.out.lt y e.symm).1;omega),(aM.out.alloc _).trans aW⟩
  ·obtain rfl:k=p.nb:=by omega
   rw[←ac.out,VRb]at D A;rw[←ac.out,XKb]at hO;have HO:=yh hO;clear hO;have O:=yh D;clear D;have F:=yh A;clear A;have HK:=yh hK;clear hK
   go_wp2_with fail
   go_ret
   exact⟨_,xs,rfl,HO.out.mono Qb a9,O.out,F.out,aL.out.trans HK.out⟩
theorem QVa {D:Func}{p u v:Tmp}{ty:TypeId}(h:D.results=#[.cell p ty,.tmp u,.tmp v])(A:Array Value)(P:Program)(w:World) :
  (results D A).run P w=((asAddr (A.getD p undef)).run P w).andThen fun a E=>((loadVar ty a).run P E).andThen fun x F=>.ok (.tuple #[x,A.getD u undef,A.getD v undef]) F:=by
 simp only[results,h]
 simp[Sem.run_bind,Result.andThen]
theorem Blk.ret3 {E:Func}{k u v:Tmp}{ty t:TypeId}(O:E.results=#[.cell k ty,.tmp u,.tmp v]){D:Array Value}{w:World}{g:Nat}{A:Array Value}{d:TypeDesc}(U:Blk w g A t)(W:D.getD k undef=.pointer (some ⟨g,0,none⟩)){e f:Value}(J:D.getD u undef=e)(Q:D.getD v undef=f)
  (X:Tryz.prog.underlying ty=some d) (I:(match d with | .struct _ | .array _ _=>true | _=>false)=true) (V:(Tryz.prog.info? ty).map (·.size)=some A.size):(results E D).run Tryz.prog w=.ok (.tuple #[.agg A,e,f]) w:=by
 have F:w.heap[g]? = some (.cells A t (0,0)):=U;rw[QVa (p:=k) (u:=u) (v:=v) (ty:=ty) O,W,J,Q]
 cases d<;>first | simp[asAddr,run_loadVar_row w g t ty A (0,0) _ F X rfl V,Sem.run_pure] | simp at I
noncomputable def Xa (x:Sai) (day:Int):Int:=if Qp x≠0 then Qp x else if Qc day 0 9999=false then 3 else if day≤x.day then 4 else 0
def ZQc (w':World) (base:Nat) (E:Int) (X:Sai) (l:List Int) (e:Ending):Prop:=∃y p' v xs,e=.returned (.tuple #[.agg (Qa y p'),v,.int .i64 E])∧y=okS E X∧SaiO w' base y p'∧Own QL 1 3 w' base v (okL E l) xs
theorem V7b (x:Sai)(p:SaiV)(day:Int)(w:World)(hS:SaiR w x p) :
  Calls Tryz.prog 38 #[.agg (Qa x p),.int .i64 day] w fun e w'=>ZQc w' w.heap.size (Xa x day) (UE x day) (Qnb x day) e∧yw w w':=by
 have ad:=yh (fun X hX=>Q8 x p X hX);have aj:=yh (fun X h ho=>ZU x p X h ho);have am:=yh (fun Q Z p y base X hW hY ah ho hd=>YUb Q Z x p y base day X hW hY ah ho hd);obtain⟨r,hr⟩:∃r,r=Qp x:=⟨_,rfl⟩;obtain⟨R,hR⟩:∃r,r=Xa x day:=⟨_,rfl⟩;have HR:=yh (show R=if r≠0 then r else if Qc day 0 9999=false then 3 else if day≤x.day then 4 else 0 by rw[hR,hr];rfl);have az:=yh hr;rw[←hr]at ad;rw[←hR];have HS:=yh hS;clear hr hR hS;obtain⟨A,n,cap,B,m,aC,D,nd,cd,E,ne,ce,C,nb,cb⟩:=p
 go_enter Tryz.func38,Tryz.ntmps38
 go_upto_region 0 with(fail)
 go_cut [2,4,5,6] (fun p p2 F p4 wx=>∃g z,p=.pointer (some ⟨g,0,none⟩)∧p2=.pointer (some ⟨z,0,none⟩)∧F=.slice none 0 0∧p4=.int .i64 0∧w.heap.size≤z∧Blk wx g (Qa x ⟨A,n,cap,B,m,aC,D,nd,cd,E,ne,ce,C,nb,cb⟩) 32∧Blk wx z #[.int .i64 0,.int .i64 0,.slice none 0 0,.slice none 0 0,.slice none 0 0,.int .i64 0,.int .i64 0,.slice none 0 0,.int .i64 0,.int .i64 0,.int .i64 0,.slice none 0 0,.bool false] 32∧yw w wx)
 case first=>as_aux_lemma=>
  go_wp2_with fail
  go_meet
  exact⟨_,_,rfl,rfl,rfl,rfl,by omega,QA _ _ _,QB _ _ _,Zh _ _ _⟩
 obtain⟨g,z,rfl,rfl,rfl,rfl,hz,hG,hZ,ab⟩:=hcut;obtain⟨I,aF⟩:∃V,V=wc:=⟨_,rfl⟩;subst aF;have U:=yh (fun X (hX:yw I X)=>ab.trans (hX.mono ab.size));have HG:=yh (fun X (hX:yw I X)=>hG.bel hX);have HZ:=yh (fun X (hX:yw I X)=>hZ.bel hX);have al:=yh (fun X (hX:yw I X)=>HS.out.bel (U.out X hX))
 have Y:=yh (show ∀(E':Int) V,¬E'=0→yw I V→ZQc (V.setRow z (Qa Qr Qv)) w.heap.size E' (UE x day) (Qnb x day) (.returned (.tuple #[.agg (Qa Qr Qv),.slice none 0 0,.int .i64 E']))∧yw w (V.setRow z (Qa Qr Qv))from fun E' V h0 hX=>by
  have ac:yw w (V.setRow z (Qa Qr Qv)):=((U.out V hX).trans (((Kept.refl (fun k=>k=z) V).setRow (.inl rfl) _).below (B:=w.heap.size) (U.out V hX).size (fun k hk e=>by omega)));exact⟨⟨Qr,Qv,_,[],rfl,(Qca h0 _).symm,Vx _ _ ac.size,by rw[Yq h0];exact Own.nil _ _ _ _ _⟩,ac⟩)
 have hb:yw I I:=Below.refl _ _;have aL:=hZ.lt;have aJ:=ab.size;clear hG hZ ab;have O:=yh (ad.out _ (al.out _ hb))
 go_wp2_with (refine wpList_load_row rfl 32 (.tmp 2) rfl g rfl 32 _ (0,0) _ (HG.out _ hb) Tryz.underlying32 rfl (by kernel_rfl) ?_)
 refine O.out.mono ?_;rintro e w1 ⟨rfl,ax⟩;replace hb:=hb.trans (ax.mono hb.size);clear ax O ad
 by_cases q0:r=0
 rotate_left
 ·obtain rfl:R=r:=by rw[HR.out,if_pos q0]
  have q1:(R != 0)=true:=by simpa using q0
  have Q0:=yh q0;clear q0;have aM:=HZ.out _ hb
  go_wp2_with (refine wpList_store_row rfl 32 (.tmp 4) (.tmp 29) rfl z (Qa Qr Qv) rfl rfl 32 _ aM (by kernel_rfl) rfl (by simp[Value.oneCell']) ?_)
  refine bodyPost_ret (v:=.tuple #[.agg (Qa Qr Qv),.slice none 0 0,.int .i64 R]) ((aM.row _).ret3 (k:=4) (u:=5) (v:=6) (by kernel_rfl) rfl rfl rfl Tryz.underlying32 (by kernel_rfl) (by kernel_rfl)) rfl ?_;exact Y.out _ _ Q0.out hb
 have ai:=yh (Ze (az.out.symm.trans q0));have af:=yh (HR.out.trans (if_neg (by rw[q0];simp)));subst q0;have g9:yI w1 g 9 x.day:=(HG.out _ hb).cell rfl
 by_cases d1:day < 0
 ·obtain rfl:R=3:=by rw[af.out,if_pos (QH (.inl d1))]
  have an:decide (day < 0)=true:=decide_eq_true d1;clear d1;have aM:=HZ.out _ hb
  go_wp2_with (refine wpList_store_row rfl 32 (.tmp 4) (.tmp 29) rfl z (Qa Qr Qv) rfl rfl 32 _ aM (by kernel_rfl) rfl (by simp[Value.oneCell']) ?_)
  refine bodyPost_ret (v:=.tuple #[.agg (Qa Qr Qv),.slice none 0 0,.int .i64 3]) ((aM.row _).ret3 (k:=4) (u:=5) (v:=6) (by kernel_rfl) rfl rfl rfl Tryz.underlying32 (by kernel_rfl) (by kernel_rfl)) rfl ?_;exact Y.out _ _ (by decide) hb
 have an:decide (day < 0)=false:=decide_eq_false d1
 by_cases d2:9999 < day
 ·obtain rfl:R=3:=by rw[af.out,if_pos (QH (.inr d2))]
  have ao:decide (9999 < day)=true:=decide_eq_true d2;clear d1 d2;have aM:=HZ.out _ hb
  go_wp2_with (refine wpList_store_row rfl 32 (.tmp 4) (.tmp 29) rfl z (Qa Qr Qv) rfl rfl 32 _ aM (by kernel_rfl) rfl (by simp[Value.oneCell']) ?_)
  refine bodyPost_ret (v:=.tuple #[.agg (Qa Qr Qv),.slice none 0 0,.int .i64 3]) ((aM.row _).ret3 (k:=4) (u:=5) (v:=6) (by kernel_rfl) rfl rfl rfl Tryz.underlying32 (by kernel_rfl) (by kernel_rfl)) rfl ?_;exact Y.out _ _ (by decide) hb
 have ao:decide (9999 < day)=false:=decide_eq_false d2;have ak:=yh (af.out.trans (if_neg (by rw[QX (by omega) (by omega)];simp)))
 by_cases d3:day≤x.day
 ·obtain rfl:R=4:=by rw[ak.out,if_pos d3]
  have ap:decide (day≤x.day)=true:=decide_eq_true d3;clear d1 d2 d3;have aM:=HZ.out _ hb
  go_wp2_with (refine wpList_store_row rfl 32 (.tmp 4) (.tmp 29) rfl z (Qa Qr Qv) rfl rfl 32 _ aM (by kernel_rfl) rfl (by simp[Value.oneCell']) ?_)
  refine bodyPost_ret (v:=.tuple #[.agg (Qa Qr Qv),.slice none 0 0,.int .i64 4]) ((aM.row _).ret3 (k:=4) (u:=5) (v:=6) (by kernel_rfl) rfl rfl rfl Tryz.underlying32 (by kernel_rfl) (by kernel_rfl)) rfl ?_;exact Y.out _ _ (by decide) hb
 have ap:decide (day≤x.day)=false:=decide_eq_false d3
 obtain rfl:R=0:=by rw[ak.out,if_neg d3]
 have HD:=yh (show 0≤day∧day≤9999 from⟨by omega,by omega⟩);have O:=yh (aj.out _ (al.out _ hb) ai.out);have aH:=hb.size;clear d1 d2 d3
 go_wp2_with (refine wpList_load_row rfl 32 (.tmp 2) rfl g rfl 32 _ (0,0) _ (HG.out _ hb) Tryz.underlying32 rfl (by kernel_rfl) ?_)
 refine O.out.mono ?_;rintro e J ⟨F,rfl,aD,ay⟩;obtain⟨Q,Z,aa⟩:=aD;replace hb:=hb.trans (ay.mono hb.size);have au:=aa.bel (Qf J (.cells (Qa x F) 162))
 have ah:Q.heap.size≤J.heap.size:=by obtain⟨_,_,a3,_⟩:=aa;exact a3
 have aK:w1.heap.size≤Q.heap.size:=by obtain⟨a1,a2,_⟩:=aa;omega
 have O:=yh (am.out Q Z F J.heap.size _ _ au (Blk.new J (Qa x F) 162) ah ai.out HD.out);have HB:=yh (hb.trans ((Qf J (.cells (Qa x F) 162)).mono hb.size));clear aa au ay aj am g9 an ao ap hb
 go_wp2_with fail
 refine O.out.mono ?_;rintro e W ⟨v,xs,rfl,ar,av,aw,aq⟩;have aG:=HB.out.size;have hb:yw I W:=HB.out.trans (aq.below (B:=I.heap.size) aG (fun k hk e=>by omega));have aM:=HZ.out _ hb
 have aI:J.heap.size < (J.alloc (.cells (Qa x F) 162)).heap.size:=by simp
 have ae:=yh ar;clear ar;have aA:=yh av;clear av;have aB:=yh aw;clear aq aw O
 go_wp2_with (first | (refine wpList_load_row rfl 32 (.tmp 40) rfl J.heap.size rfl 162 _ (0,0) _ aB.out Tryz.underlying32 rfl (by kernel_rfl) ?_) | (refine wpList_store_row rfl 32 (.tmp 4) (.tmp 41) rfl z (Qa (UE x day) F) rfl rfl 32 _ aM (by kernel_rfl) rfl (by simp[Value.oneCell']) ?_))
 refine bodyPost_ret (v:=.tuple #[.agg (Qa (UE x day) F),v,.int .i64 0]) ((aM.row _).ret3 (k:=4) (u:=5) (v:=6) (by kernel_rfl) rfl rfl rfl Tryz.underlying32 (by kernel_rfl) (by kernel_rfl)) rfl ?_;have ag:Kept (fun k=>k=z) W (W.setRow z (Qa (UE x day) F)):=(Kept.refl (fun k=>k=z) W).setRow (.inl rfl) _;have ac:=((U.out _ hb).trans (ag.below (B:=w.heap.size) (U.out _ hb).size (fun k hk e=>by omega)));have aE:SaiO W w1.heap.size (UE x day) F:=⟨Q,Z,aA.out⟩;exact⟨⟨UE x day,F,v,xs,rfl,(UJ _).symm,(aE.kept ag (fun k hk e=>by omega)).mono (by omega),by rw[QG];exact(ae.out.keepB ZD (fun j hj=>ag.block j (ae.out.lt j hj).2 (by have:=(ae.out.lt j hj).1;omega))).mono Qb (by omega)⟩,ac⟩
end Go.Proofs.YtjdcokpmgionjaaGreat
