/-
  Laws and contracts.
-/
import Derived.Test.YtjdcokpmgionjaaGreatBun21
set_option linter.unusedSimpArgs false
set_option linter.unusedVariables false
set_option maxRecDepth 100000
set_option maxHeartbeats 20000000
namespace Go.Proofs.YtjdcokpmgionjaaGreat
open Proofs.Tryz Go.RowKit Go.Shelf
theorem Uqa {a:Ask}(h:QS a=0):YB a:=by
 obtain⟨E,F⟩:=UPa h
 have Q:1≤a.number∧a.number≤65535:=by
  unfold QS at h;cases h2:Qc a.number 1 65535
  ·rw[h2]at h;by_cases h1:Qc a.kind 1 8=false
   ·rw[M3 h1]at h;omega
   ·rw[M2 h1,M3 rfl]at h;omega
  ·exact Ql.1 h2
 obtain⟨D,I⟩:=Zxa h;have D:=of_decide_eq_true D;obtain⟨no,A,id,Y,Z,V,W,X,up,ti,U⟩:=a
 have J:A=1∨A=2∨A=3∨A=4∨A=5∨A=6∨A=7∨A=8:=by dsimp only at E F;omega
 have O:(default:Ask)=⟨0,0,0,0,false,0,0,0,0,0,0⟩:=rfl;clear h E F;dsimp only at Q;unfold YB;dsimp only;rcases J with rfl|rfl|rfl|rfl|rfl|rfl|rfl|rfl<;>simp[O,Va,Qr,zf,Y2,XU,fld,VO,Ql,pId,VC,XV,Z9a,pTo,VN,ZJa,Vu,Yv]at D I<;>exact⟨.of (by omega) (by omega),.of (by omega) (by omega),.of (by omega) (by omega),.of (by omega) (by omega),.of (by omega) (by omega),.of (by omega) (by omega),.of (by omega) (by omega),.of (by omega) (by omega),.of (by omega) (by omega),.of (by omega) (by omega)⟩
theorem QAc {w:World}{e:Nat}{d:Don}(h:Blk w e (Vk d) 106)(D:V2a d):Sl ZX 13 w All (some ⟨e,0,none⟩) 1 1 [d]:=
 Sl.ofBlk (c:=ZX) (size:=13) h ([d]:List Don) (by simp) trivial fun i x A=>by
  rcases i with _|i
  ·simp at A;subst A;exact⟨(Vk d).toList,⟨rfl,D⟩,rfl,fun j u E=>by simpa using E⟩
  ·simp at A
theorem U4c {α:Type}{c:Cod α}{size:Nat}{e:TypeId}{a A V:World}(h:yw a A)(D:V=A.alloc (.cells #[] e)):yw A V∧yw a V∧Own c size e V a.heap.size (.slice (some ⟨A.heap.size,0,none⟩) 0 0) [] []:=by
 subst D;exact⟨Qi _ _,h.alloc h.size _,QTb c size e h _ rfl⟩
theorem Zoc {α:Type}{c:Cod α}{size:Nat}{e:TypeId}{w:World}{base:Nat}{v:Value}{l:List α}{xs:List Value}(h:Own c size e w base v l xs):some w.heap.size≠v.ownBlock:=fun e=>by
 have:=(h.lt _ e.symm).2;omega
theorem Zpc {w:World}{d:Nat}{cs:Array Value}{t:TypeId}(h:Blk w d cs t):some d≠(Value.slice (some ⟨w.heap.size,0,none⟩) 0 0).ownBlock:=fun e=>by
 have:=h.lt;simp[Value.ownBlock]at e;omega
def SoR (w':World) (V:List Don×Int×Ans×Int) (e:Ending):Prop:=∃A n cap,e=.returned (.tuple #[.agg #[.slice A n cap,.int .i64 V.2.1],.agg (Qt V.2.2.1),.int .i64 V.2.2.2])∧Sl ZX 13 w' All A n cap V.1
theorem Unb {l:List Don}{k:Nat}{d:Don}{a:Ask}(h:(l.take k).any (QQ a)=false)(A:l[k]? = some d)(D:QQ a d=true):l.any (QQ a)=true∧l.getD (UD (QQ a) l).toNat default=d:=by
 have E:l.any (QQ a)=true:=List.any_eq_true.2 ⟨d,J6 A,D⟩;refine⟨E,?_⟩;unfold UD;rw[E];have J:=(J0.1 A)
 have e:l.findIdx (QQ a)=k:=by
  obtain⟨Q,I⟩:=J;refine(List.findIdx_eq Q).2 ⟨by rw[I];exact D,fun j O=>?_⟩;have F:=List.any_eq_false.1 h (l[j]'(by omega)) (J6 (i:=j) (by rw[List.getElem?_take,M3 O];exact J1 (by omega)))
  simpa using F
 simp only[if_true,e];rw[show((k:Int)).toNat=k from rfl,J7,A]
 rfl
theorem QBb (x:Sai)(p:SaiV)(A:Option Addr)(n cap:Nat)(l:List Don)(J:Int)(s:List UInt8)(w:World)(hS:SaiR w x p)(hl:Sl ZX 13 w All A n cap l)(bT:s.length≤maxLen) :
  Calls prog 55 #[.agg (Qa x p),.agg #[.slice A n cap,.int .i64 J],.string ⟨s.toArray⟩] w fun e w'=>SoR w' (XK mkA x l J s) e∧yw w w':=by
 have a3:=yh (fun X h1 h2=>UIa x p A n cap l J X h1 h2);have aQ:=yh (fun X=>Uqb s X bT);have aK:=yh (show(Ue s).2=0→QS (Ue s).1=0 from fun h=>(ZZb h).1);obtain⟨R,hR⟩:=yE (US mkA x l J);obtain⟨X,hX⟩:=yE (XH mkA x l);obtain⟨V,F⟩:=yE (XK mkA x l J s);obtain⟨Q,hQ⟩:=yE (Ue s);have HV:=yh (show V=if R≠0 then ([],0,⟨0,0⟩,R)else Qua mkA X l J Q by rw[F,hR,hX,hQ];rfl)
 have aY:=yh (show R=0→n≤30 from fun h=>by
  rw[hR]at h;unfold US at h;rw[←hl.len];by_cases h1:QD x≠0
  ·rw[M3 h1]at h;exact absurd h h1
  rw[M2 h1]at h;by_cases h2:30<l.length
  ·rw[M3 h2]at h;omega
  ·omega)
 rw[←hR,←hX]at a3;rw[←hQ]at aQ aK;rw[←F];have HS:=yh hS;have Y:=yh hl;clear hR hX F hQ hS hl bT;obtain⟨AA,nn,cE,B,m,cD,D,nd,cd,E,ne,ce,C,nb,cb⟩:=p;go_enter func55,ntmps55;go_upto_region 0 with(fail)
 go_cut [3,4,6,7,8] (fun p p2 p3 p4 p5 wx=>∃g h z q,yp p g∧yp p2 h∧yp p3 z∧yp p4 q∧p5=.int .i64 0∧w.heap.size≤z∧w.heap.size≤q∧z≠q∧h<z∧h<q∧
  Blk wx g (Qa x ⟨AA,nn,cE,B,m,cD,D,nd,cd,E,ne,ce,C,nb,cb⟩) 32∧Blk wx h #[.slice A n cap,.int .i64 J] 39∧Blk wx z #[.slice none 0 0,.int .i64 0] 39∧Blk wx q #[.int .i64 0,.int .i64 0] 55∧yw w wx)
 case first=>
  clear a3 aQ aK HV HS Y aY;go_wp2_with fail;go_meet;exact⟨_,_,_,_,rfl,rfl,rfl,rfl,rfl,by omega,by omega,by omega,by omega,by omega,((Blk.new w _ _).old _).old _ |>.old _,((Blk.new1 w _ _ _).old _).old _,(Blk.new2 w _ _ _ _).old _,Blk.new3 w _ _ _ _ _,(X0 _ _ _ _).alloc (by simp;omega) _⟩
 obtain⟨g,h,z,q,rfl,rfl,rfl,rfl,rfl,hz,hq,aq,ck,cj,hG,hH,hZ,hQ,aU⟩:=hcut;obtain⟨W1,rfl⟩:=yE wc;have HT:=yh (fun X (hX:yw W1 X)=>aU.trans (hX.mono aU.size));have HG:=yh (fun X (hX:yw W1 X)=>hG.bel hX);have HH:=yh (fun X (hX:yw W1 X)=>hH.bel hX);have HZ:=yh (fun X (hX:yw W1 X)=>hZ.bel hX);have HQ:=yh (fun X (hX:yw W1 X)=>hQ.bel hX);have ag:=yh (fun X (hX:yw W1 X)=>Y.bel (HT X hX));have cw:=hZ.lt;have cm:=hQ.lt;have cp:=aU.size
 have ac:=yh (show ∀V u u2,yw W1 V→yw w ((V.setRow z u).setRow q u2)from fun V u u2 hX=>
  ((HT V hX).trans ((((yj z q V).setRow (.inl (.inl rfl)) u).setRow (.inl (.inr rfl)) u2).below (B:=w.heap.size) (HT V hX).size (fun k hk e=>by omega))))
 have am:=yh (show ∀(E':Int) V U,yw W1 V→U=([],0,⟨0,0⟩,E')→SoR ((V.setRow z #[.slice none 0 0,.int .i64 0]).setRow q #[.int .i64 0,.int .i64 0]) U (.returned (.tuple #[.agg #[.slice none 0 0,.int .i64 0],.agg #[.int .i64 0,.int .i64 0],.int .i64 E']))∧yw w ((V.setRow z #[.slice none 0 0,.int .i64 0]).setRow q #[.int .i64 0,.int .i64 0])from fun E' V U hX hU=>
  ⟨⟨none,0,0,by rw[hU],by rw[hU];exact Sl.nil _ _ _ _⟩,ac V _ _ hX⟩)
 have ah:=yh (show ∀V U (N:Ans),yw W1 V→U=(l,J,N,0)→SoR ((V.setRow z #[.slice A n cap,.int .i64 J]).setRow q (Qt N)) U (.returned (.tuple #[.agg #[.slice A n cap,.int .i64 J],.agg (Qt N),.int .i64 0]))∧yw w ((V.setRow z #[.slice A n cap,.int .i64 J]).setRow q (Qt N))from fun V U N hX hU=>
  ⟨⟨A,n,cap,by rw[hU],by rw[hU];exact Y.bel (ac V _ _ hX)⟩,ac V _ _ hX⟩)
 have HC:=yh (a3 _ (HS.bel aU) (Y.bel aU));clear hG hH hZ hQ aU a3 HS;go_upto_region 1 with(fail);go_cut [9,10] (fun q1 e wx=>e=.int .i64 R∧∃o y p5,yp q1 o∧Blk wx o (Qa y p5) 32∧y=okS R X∧(R=0→QD y=0)∧SaiR wx y p5∧yw W1 wx)
 case first=>
  have hb:yw W1 W1:=J4 _ _;have hh:=HH _ hb;clear aQ aK HV Y aY ag ac am ah HT HZ HQ;go_wp2_with (first|(refine yV (.tmp 3) (HG _ hb) underlying32 ?_)|(refine yV (.tmp 4) hh underlying39 ?_));refine HC.mono ?_;rintro e w2 ⟨⟨y,p5,rfl,hy,hO,aW⟩,ax⟩;have HO:=yh hO;have HY:=yh hy;have ad:=yh aW;have ab:=yh ax;have hn:=Blk.new w2 M9 32;clear hO hy aW ax HC HG HH hh;go_wp2_with (refine wpList_store_row rfl 32 (.tmp 9) (.tmp 20) rfl w2.heap.size (Qa y p5) rfl rfl 32 _ hn (by kernel_rfl) rfl (by simp[Qa,Value.oneCell']) ?_);go_meet;have a9:yw w2 ((w2.alloc (.cells M9 32)).setRow w2.heap.size (Qa y p5)):=M5 (Qi w2 _) (J5 _) _;exact⟨rfl,_,y,p5,rfl,hn.row _,HY,ad,HO.bel a9,ab.trans (a9.mono ab.size)⟩
 obtain⟨rfl,o,y,p5,rfl,hO,hy,aW,bp,ax⟩:=hcut;obtain⟨W2,rfl⟩:=yE wc;by_cases h0:R=0;rotate_left
 ·have cF:(R !=0)=true:=by simpa using h0
  have aN:=yh (HV.trans (M3 h0));have ab:=yh ax;have af:=HZ _ (ax);have au:=HQ _ (ax);have ae:=Zd au (Ne.symm aq) #[.slice none 0 0,.int .i64 0];have av:=Zd (af.row #[.slice none 0 0,.int .i64 0]) aq #[.int .i64 0,.int .i64 0];clear h0 hO hy aW bp ax HC HG HH HT ag Y aY aQ aK HV ah;go_wp2_with (first|(refine yX 39 (.tmp 6) (.tmp 24) z #[.slice none 0 0,.int .i64 0] af ?_)|(refine wpList_store_row rfl 55 (.tmp 7) (.tmp 25) rfl q #[.int .i64 0,.int .i64 0] rfl rfl 55 _ ae (by kernel_rfl) rfl (by simp[Qt,Value.oneCell']) ?_));refine yq4 (.tuple #[.agg #[.slice none 0 0,.int .i64 0],.agg #[.int .i64 0,.int .i64 0],.int .i64 R]) (k:=6) (l:=7) (u:=8) av (ae.row #[.int .i64 0,.int .i64 0]) underlying39 underlying55 ?_;exact am _ _ _ ab aN
 have cF:(R !=0)=false:=by simpa using h0
 have cM:y=X:=by rw[hy,h0];rfl
 subst cM;have aN:=yh (HV.trans (M2 (by simpa using h0)));have HN:=yh (aY h0);have ad:=yh (aW h0);have HO:=yh (fun V (F:yw W2 V)=>hO.bel F);have an:=yh (fun V (F:yw W2 V)=>bp.bel F);have ab:=yh (fun V (F:yw W2 V)=>ax.trans (F.mono ax.size));subst h0;clear hO hy aW bp ax HC HV aY;go_upto_region 4 with(fail);go_cut [11,10] (fun p r wx=>r=.int .i64 Q.2∧∃c,yp p c∧Blk wx c (QY Q.1) 53∧yw W2 wx)
 case first=>
  clear HT HG HH HZ HQ ag ac am ah aN HN ad HO an ab Y;go_wp2_with fail;refine yM (aQ _) fun w4 aP=>?_;have O:=yh aP;have hn:=Blk.new w4 M7 53;clear aP;go_wp2_with (refine wpList_store_row rfl 53 (.tmp 11) (.tmp 30) rfl w4.heap.size (QY Q.1) rfl rfl 53 _ hn (by kernel_rfl) rfl (by simp[QY,Value.oneCell']) ?_);go_meet;exact⟨rfl,_,rfl,hn.row _,O.trans ((M5 (Qi w4 _) (J5 _) _).mono O.size)⟩
 obtain⟨rfl,c,rfl,hC,aP⟩:=hcut;obtain⟨W4,rfl⟩:=yE wc;have ak:=yh (fun X (hX:yw W4 X)=>hC.bel hX);have ai:=yh (fun X (hX:yw W4 X)=>aP.trans (hX.mono aP.size));have O:=yh (fun X (hX:yw W4 X)=>ab X (ai X hX));have ct:=aP.size;have cq:=(ab _ (J4 _ _)).size;clear hC aP aQ;have hb:=J4 W4.heap.size W4;have hh:=HH _ (O _ hb);by_cases e0:Q.2=0;rotate_left
 ·have e1:(Q.2 !=0)=true:=by simpa using e0
  have ap:=yh (show V=(l,J,⟨Q.2,0⟩,0)by rw[aN.out];unfold Qua;rw[M3 e0]);have HB:=yh (O _ hb);have af:=HZ _ (O _ hb);have au:=HQ _ (O _ hb);have ae:=Zd au (Ne.symm aq) #[.slice A n cap,.int .i64 J];have av:=Zd (af.row #[.slice A n cap,.int .i64 J]) aq #[.int .i64 Q.2,.int .i64 0];clear e0 aN ak ai O aK HT HG HH HZ HQ ag ac am HN ad HO an ab Y hb;go_wp2_with (first|(refine yV (.tmp 4) hh underlying39 ?_)|(refine yX 39 (.tmp 6) (.tmp 34) z #[.slice A n cap,.int .i64 J] af ?_)|(refine wpList_store_row rfl 55 (.tmp 7) (.tmp 36) rfl q #[.int .i64 Q.2,.int .i64 0] rfl rfl 55 _ ae (by kernel_rfl) rfl (by simp[Qt,Value.oneCell']) ?_));refine yq4 (.tuple #[.agg #[.slice A n cap,.int .i64 J],.agg #[.int .i64 Q.2,.int .i64 0],.int .i64 0]) (k:=6) (l:=7) (u:=8) av (ae.row #[.int .i64 Q.2,.int .i64 0]) underlying39 underlying55 ?_;exact ah _ _ ⟨Q.2,0⟩ HB ap
 have e1:(Q.2 !=0)=false:=by simpa using e0
 have ap:=yh (show V=if l.any (QQ Q.1)=true then (if (l.getD (UD (QQ Q.1) l).toNat default).ask=Q.1 then (l,J,(l.getD (UD (QQ Q.1) l).toNat default).ans,0)else (l,J,⟨6,0⟩,0))else if l.length=30 then ([],0,⟨0,0⟩,2)else (l++[⟨Q.1,doA mkA y Q.1⟩],(l.length:Int)+1,doA mkA y Q.1,0)by rw[aN.out];unfold Qua;rw[M2 (fun c=>c e0)]);have aw:=yh (aK e0);have bI:=Y.len;have ay:=Y.bd;clear e0 aN aK hh;go_wp2_with fail
 go_loopg [12] n (fun gk i wr=>∃k:Nat,k≤n∧n-k≤gk∧i=.int .i64 (k:Int)∧Hid ((l.take k).any (QQ Q.1)=false)∧yw W4 wr)
 case atStart=>exact⟨0,M0 _,by omega,rfl,yh (by simp),hb⟩
 case round=>
  clear hb;obtain⟨k,hk,bu,rfl,ar,a8⟩:=hrel;obtain⟨W5,rfl⟩:=yE wr;have aj:=yh (O _ a8);have aa:=yh a8;have hh:=HH _ (O _ a8);have c0:yJ W5 h 0 A n cap:=hh.cell rfl;clear a8;by_cases hlt:k<n;rotate_left
  ·have bv:l.any (QQ Q.1)=false:=by
    have:=ar.out
    rwa [M1 (by omega)]at this
   have aA:=yh (ap.trans (M2 (by rw[bv];simp)));have d1:decide ((k:Int)<(n:Int))=false:=J3 (by omega);by_cases q30:n=30
   ·have cf:((n:Int)==30)=true:=by rw[q30];rfl
    have aB:=yh (aA.trans (M3 (by rw[bI];exact q30)));have af:=HZ _ (aj.out);have au:=HQ _ (aj.out);have ae:=Zd au (Ne.symm aq) #[.slice none 0 0,.int .i64 0];have av:=Zd (af.row #[.slice none 0 0,.int .i64 0]) aq #[.int .i64 0,.int .i64 0];clear q30 bv ap aA ak ai O HT HG HH HZ HQ ag ac ah HN ad HO an ab Y ar aa aw;go_wp2_with (first|(refine yX 39 (.tmp 6) (.tmp 75) z #[.slice none 0 0,.int .i64 0] af ?_)|(refine wpList_store_row rfl 55 (.tmp 7) (.tmp 76) rfl q #[.int .i64 0,.int .i64 0] rfl rfl 55 _ ae (by kernel_rfl) rfl (by simp[Qt,Value.oneCell']) ?_));refine yq4 (.tuple #[.agg #[.slice none 0 0,.int .i64 0],.agg #[.int .i64 0,.int .i64 0],.int .i64 2]) (k:=6) (l:=7) (u:=8) av (ae.row #[.int .i64 0,.int .i64 0]) underlying39 underlying55 ?_;exact am _ _ _ aj aB
   have cf:((n:Int)==30)=false:=by
    have:¬(n:Int)=30:=by omega
    simpa using this
   have aB:=yh (aA.trans (M2 (by rw[bI];exact q30)));have a6:=Uqa aw;have br:=ZMb ad (Qza ad a6 aw);obtain⟨L,bK,bJ⟩:=(an _ (J4 _ _)).bks.raw Xa;have a2:=yh (fun V (F:yw W2 V)=>VFb (fun V=>yw W2 V) y p5 Q.1 L V (fun V V' h1 h2=>h1.trans (h2.mono h1.size)) an (fun V F=>Pts.bel (size:=11) bJ F) F (bK.bel F) ad a6 aw);obtain⟨N,hN⟩:=yE (doA mkA y Q.1);obtain⟨DX,bH⟩:=yE (doX mkA y Q.1);rw[←hN,←bH]at a2;rw[←hN]at aB br;have cz:V2a ⟨Q.1,N⟩:=⟨a6,br⟩;have al:=yh cz;clear bv ap aA hN bH a6 br cz bK bJ q30 ar aw;go_upto_region 16 with(fail);go_cut [14] (fun p wx=>∃r,yp p r∧W5.heap.size≤r∧Blk wx r (Qt N) 55∧yw W5 wx)
   case first=>
    have ho:=HO _ (ai _ aa);have hc:=ak _ aa;have HD:=yh (a2 _ (ai _ aa));clear HT HG HH HZ HQ ag ac am ah HN ad HO an ab Y aB ak ai O aj aa al hh c0 a2;go_wp2_with (first|(refine yV (.tmp 9) ho underlying32 ?_)|(refine yV (.tmp 11) hc underlying53 ?_));refine HD.mono ?_;rintro e w3 ⟨⟨p2,rfl,-⟩,bM⟩;have be:=yh bM;have bY:=yh (show ∀g,g=w3.heap.size→Blk ((w3.alloc (.cells M9 32)).alloc (.cells #[.int .i64 0,.int .i64 0] 55)) g M9 32 from fun g hg=>by subst hg;exact(Blk.new w3 _ _).old _);have bA:=yh (show ∀g,g=w3.heap.size+1→Blk (((w3.alloc (.cells M9 32)).alloc (.cells #[.int .i64 0,.int .i64 0] 55)).setRow w3.heap.size (Qa DX p2)) g #[.int .i64 0,.int .i64 0] 55 from fun g hg=>by subst hg;exact(Blk.new1 w3 _ _ _).rowOther (by omega) _);clear bM HD ho hc;go_wp2_with (first|(refine wpList_store_row rfl 32 (.tmp 13) (.tmp 81) rfl w3.heap.size (Qa DX p2) rfl rfl 32 _ (bY _ rfl) (by kernel_rfl) rfl (by simp[Qa,Value.oneCell']) ?_)|(refine wpList_store_row rfl 55 (.tmp 14) (.tmp 82) rfl (w3.heap.size+1) (Qt N) rfl rfl 55 _ (bA _ rfl) (by kernel_rfl) rfl (by simp[Qt,Value.oneCell']) ?_));go_meet;have a9:yw w3 ((((w3.alloc (.cells M9 32)).alloc (.cells #[.int .i64 0,.int .i64 0] 55)).setRow w3.heap.size (Qa DX p2)).setRow (w3.heap.size+1) (Qt N)):=M5 (M5 (Zo w3 _ _) (J5 _) _) (by omega) _;exact⟨_,rfl,Nat.le_succ_of_le be.size,(bA _ rfl).row _,be.trans (a9.mono be.size)⟩
   obtain⟨r,rfl,cn,bl,aI⟩:=hcut;obtain⟨W6,rfl⟩:=yE wc;have aJ:=yh (fun X (hX:yw W6 X)=>(aa.trans (aI.mono aa.size)).trans (hX.mono (aa.trans (aI.mono aa.size)).size));have aX:=yh (fun X (hX:yw W6 X)=>bl.bel hX)
   have aF:=yh (show ∀V,yw W6 V→(fun w'=>yJ w' h 0 A n cap∧yI w' c 0 Q.1.number∧yI w' c 1 Q.1.kind∧yI w' c 2 Q.1.id∧yI w' c 3 Q.1.guests∧w'.cell? ⟨c,4,none⟩=some (.bool Q.1.level)∧yI w' c 5 Q.1.cabin∧yI w' c 6 Q.1.category∧yI w' c 7 Q.1.frm∧yI w' c 8 Q.1.upto∧yI w' c 9 Q.1.til∧yI w' c 10 Q.1.amount∧yI w' r 0 N.errno∧yI w' r 1 N.owed) V from fun V F=>by
    have h4:=aJ V F;obtain⟨c0,c1,c2,c3,c4,c5,c6,c7,c8,c9,bi⟩:=AskAt.all (show AskAt V c Q.1 from ak _ h4);have ha:=aX V F
    exact⟨(HH _ (O _ h4)).cell rfl,c0,c1,c2,c3,c4,c5,c6,c7,c8,c9,bi,ha.cell rfl,ha.cell rfl⟩)
   have bB:=yh (fun V (F:yw W6 V)=>ag V (O _ (aJ V F)));have co:=bl.lt;have a7:=(aJ _ (J4 _ _)).size;clear bl aI a2 c0 hh;go_upto_region 17 with(fail);go_cut [15] (fun p wx=>∃t A9 n9 c9 xs,yp p t∧W6.heap.size≤t∧Blk wx t #[.slice A9 n9 c9,.int .i64 0] 39∧Own ZX 13 106 wx W6.heap.size (.slice A9 n9 c9) (l++[⟨Q.1,N⟩]) xs∧yw W6 wx)
   case first=>
    have I:yw W6 W6.drew:=(J4 _ W6).drew;have cz:=al.out;have cl:=HN.out
    have ca:(([]:List Don).length+n)*104≤140737488355328:=by simp;omega
    have cK:(l.length+1)*104≤140737488355328:=by omega
    clear HT HG HH HZ HQ ag ac am ah HN ad HO an ab Y aB ak ai O aj aa al aJ aX;refine yZ (S:=(fun w'=>yJ w' h 0 A n cap∧yI w' c 0 Q.1.number∧yI w' c 1 Q.1.kind∧yI w' c 2 Q.1.id∧yI w' c 3 Q.1.guests∧w'.cell? ⟨c,4,none⟩=some (.bool Q.1.level)∧yI w' c 5 Q.1.cabin∧yI w' c 6 Q.1.category∧yI w' c 7 Q.1.frm∧yI w' c 8 Q.1.upto∧yI w' c 9 Q.1.til∧yI w' c 10 Q.1.amount∧yI w' r 0 N.errno∧yI w' r 1 N.owed)) (aF _ I) fun Z=>?_;refine yT [1,2,4,5,6] ?_;iterate 5 (refine yS ?_;simp only[yU])
    clear Z
    revert I
    generalize W6.drew=V0
    intro I
    focus
     refine yr3 0 7 10 (fun K k0=>?_) (fun K k7=>?_) (fun K aE=>?_)
     repeat first
      |
       revert k0
       intro hK
       ((try clear Z);(focus go_simp);refine yO fun V F=>?_;obtain⟨ao,aH,aC⟩:=U4c (c:=ZX) (size:=13) I F;(try have bn:=Zpc hD);(try replace hD:=hD.bel ao);(try replace hM:=hM.bel ao);replace I:=aH;clear F ao aH)
       refine hK.out _ _ (aF _ I) fun Z=>?_;clear hK K
       try simp only[yU]
       first
        | refine yt3 3 7 10 (fun K k3=>?_) (fun K k7=>?_) (fun K aE=>?_)
        | refine yt2 3 10 (fun K k3=>?_) (fun K aE=>?_)
        | refine yt2 3 7 (fun K k3=>?_) (fun K k7=>?_)
        | refine yt1 3 (fun K k3=>?_)
      |
       revert k3
       intro hK
       ((try clear Z);refine Uy (v:=.slice (some ⟨_,0,none⟩) 0 0) (t:=37) (e:=106) (bytes:=104) (base:=W6.heap.size) (c:=ZX) (l:=[]) (xs:=[]) (l2:=l) (S:=All) rfl (.tmp 83) (.tmp 85) rfl Q1a Qp rfl rfl aC (bB _ I) (fun _ _ hc=>hc) ca (by omega) I.size ?_;intro v' w' cg aG bb cI;(try replace hD:=hD.grown bb bn);(try replace hM:=hM.grown bb (fun e=>aC.neTy hM (by decide) e.symm));replace I:=QA I aC bb I.size;(try clear bn);clear aC bb cI)
       refine hK.out _ _ (aF _ I) fun Z=>?_;clear hK K
       try simp only[yU]
       first
        | refine yt2 7 10 (fun K k7=>?_) (fun K aE=>?_)
        | refine yt2 8 10 (fun K k8=>?_) (fun K aE=>?_)
        | refine yt1 7 (fun K k7=>?_)
        | refine yt1 8 (fun K k8=>?_)
      |
       revert k7
       intro hK
       ((try clear Z);(focus go_simp);refine yO fun V F=>?_;obtain⟨ao,aH,hD,-⟩:=Qic (cs:=Vk ⟨Q.1,N⟩) I F;(try have bn:=Zoc aC);(try replace hM:=hM.bel ao);(try replace aC:=aC.bel ao);(try replace aG:=aG.bel ao);replace I:=aH;clear F ao aH)
       refine hK.out _ _ (aF _ I) fun Z=>?_;clear hK K
       try simp only[yU]
       first
        | refine yt2 0 10 (fun K k0=>?_) (fun K aE=>?_)
        | refine yt2 3 10 (fun K k3=>?_) (fun K aE=>?_)
        | refine yt2 8 10 (fun K k8=>?_) (fun K aE=>?_)
        | refine yt1 0 (fun K k0=>?_)
        | refine yt1 3 (fun K k3=>?_)
        | refine yt1 8 (fun K k8=>?_)
      |
       revert k8
       intro hK
       ((try clear Z);refine Uy (t:=37) (e:=106) (bytes:=104) (base:=W6.heap.size) (c:=ZX) (l:=l) (xs:=cg) (l2:=[⟨Q.1,N⟩]) (S:=All) rfl (.tmp 86) (.tmp 90) rfl Q1a Qp rfl rfl aG (QAc hD cz) (fun _ _ hc=>hc) cK (by omega) I.size ?_;intro v2 w2 ch a0 bs cJ;(try replace hM:=hM.grown bs (fun e=>aG.neTy hM (by decide) e.symm));replace I:=QA I aG bs I.size;obtain⟨A9,n9,c9,cL,-⟩:=a0.sl Qp;subst cL;clear aG bs cJ hD)
       refine hK.out _ _ (aF _ I) fun Z=>?_;clear hK K
       try simp only[yU]
       refine yT [9] ?_;iterate 1 (refine yS ?_;simp only[yU])
       first
        | refine yt1 10 (fun K aE=>?_)
        | rotate_left
      |
       revert aE
       intro hK
       ((try clear Z);(focus go_simp);refine yO fun V F=>?_;obtain⟨ao,aH,hM,bt⟩:=Qic I F;(try replace hD:=hD.bel ao);(try replace aC:=aC.bel ao);(try replace aG:=aG.bel ao);(try replace a0:=a0.bel ao);replace I:=aH;clear F ao aH)
       refine hK.out _ _ (aF _ I) fun Z=>?_;clear hK K
       try simp only[yU]
       first
        | refine yt2 0 7 (fun K k0=>?_) (fun K k7=>?_)
        | refine yt2 3 7 (fun K k3=>?_) (fun K k7=>?_)
        | refine yt1 0 (fun K k0=>?_)
        | refine yt1 7 (fun K k7=>?_)
        | refine yt1 3 (fun K k3=>?_)
        | refine yt1 8 (fun K k8=>?_)
        | rotate_left
     all_goals
      refine yR 11 fun K hK=>?_
      (refine yY 39 (.tmp 15) (.tmp 92) _ #[.slice A9 n9 c9,.int .i64 0] hM ?_)
      refine hK.out _ _ (aF _ (M5 I bt _)) fun Z=>?_;clear hK K
      try simp only[yU]
      refine yD ?_;go_wp2_with fail;go_meet;exact⟨_,A9,n9,c9,ch,rfl,bt,hM.row _,a0.keepB Zy (fun j hj=>setRow_other _ _ _ _ (fun e=>a0.neTy hM (by decide) (e ▸ hj))),M5 I bt _⟩
   obtain⟨t,A9,n9,c9,bW,rfl,ht,aO,a5,aV⟩:=hcut;obtain⟨W7,rfl⟩:=yE wc;have cv:=aO.lt
   have bQ:l.length+1=n9:=by
    obtain⟨_,_,_,e1,e2⟩:=a5.sl Qp;injection e1 with _ e1 _;have:=e2.len;rw[J9]at this;rw[e1,←this]
    rfl
   have t0:yJ W7 t 0 A9 n9 c9:=aO.cell rfl;have t1:=aO.free 1;have t2:yI W7 t 1 0:=aO.cell rfl;have bD:=yh aO;have bg:=yh a5;have cu:=aV.size;have bf:=yh aV;have bC:=yh (show ∀j,(Value.slice A9 n9 c9).ownBlock=some j→¬j=t from fun j hj e=>a5.neTy aO (by decide) (by rw[hj,e]));have bZ:=yh bQ;clear aO a5 aV bQ aF bB;go_upto_region 18 with(fail);go_cut [] (fun wx=>Blk wx t #[.slice A9 n9 c9,.int .i64 (n9:Int)] 39∧Kept (fun j=>j=t) W7 wx)
   case first=>
    clear HT HG HH HZ HQ ag ac am ah HN ad HO an ab Y aB ak ai O aj aa al aJ aX;go_wp2_with fail;go_meet;exact⟨bD.set (j:=1) _,VX W7 t [(1,.int .i64 (n9:Int))]⟩
   obtain⟨bq,bm⟩:=hcut;obtain⟨W8,rfl⟩:=yE wc;have bk:yw W6 W8:=bf.trans (bm.below (B:=W6.heap.size) bf.size (fun j hj e=>by omega));have bx:=aX _ bk;have bL:Own ZX 13 106 W8 W6.heap.size (.slice A9 n9 c9) (l++[⟨Q.1,N⟩]) bW:=bg.keepB Zy (fun j hj=>bm.block j (bg.lt j hj).2 (bC j hj))
   have bV:¬(t=z∨t=q):=by omega
   have bN:=O _ (aJ _ bk);have bG:=aj.out;have cr:W1.heap.size≤W5.heap.size:=bG.size
   have bS:¬(r=z∨r=q):=by omega
   clear bG;have HK:=yh (show ∀X,Kept (fun j=>j=z∨j=q) W8 X→(fun w'=>yJ w' t 0 A9 n9 c9∧yI w' t 1 (n9:Int)∧yI w' r 0 N.errno∧yI w' r 1 N.owed) X from fun X hX=>⟨(bq.kept hX bV).cell rfl,(bq.kept hX bV).cell rfl,(bx.kept hX bS).cell rfl,(bx.kept hX bS).cell rfl⟩);have ay:=bN.drew;have af:=HZ _ ay;have au:=HQ _ ay;have ae:=Zd au (Ne.symm aq) #[.slice A9 n9 c9,.int .i64 (n9:Int)];have av:=Zd (af.row #[.slice A9 n9 c9,.int .i64 (n9:Int)]) aq (Qt N)
   have bh:=yh (show SoR ((W8.drew.setRow z #[.slice A9 n9 c9,.int .i64 (n9:Int)]).setRow q (Qt N)) V (.returned (.tuple #[.agg #[.slice A9 n9 c9,.int .i64 (n9:Int)],.agg (Qt N),.int .i64 0]))∧yw w ((W8.drew.setRow z #[.slice A9 n9 c9,.int .i64 (n9:Int)]).setRow q (Qt N))from by
    have hK:=(((yj z q W8.drew).setRow (.inl (.inl rfl)) #[.slice A9 n9 c9,.int .i64 (n9:Int)]).setRow (.inl (.inr rfl)) (Qt N));have bo:Own ZX 13 106 W8.drew W6.heap.size (.slice A9 n9 c9) (l++[⟨Q.1,N⟩]) bW:=bL.keepB Zy (fun _ _=>rfl);have cH:=bo.keepB Zy (fun j hj=>hK.block j (bo.lt j hj).2 (by have:=(bo.lt j hj).1;omega))
    have e:(n9:Int)=(l.length:Int)+1:=by rw[←bZ.out];rfl
    refine⟨⟨A9,n9,c9,by simp only[aB.out,e],?_⟩,ac _ _ _ ay⟩;rw[aB.out]
    exact cH.slAll Qp Qp (by omega) (fun h=>h) rfl)
   have aD:=yj z q W8;clear bq bm bx bL bN ay bk t0 t1 t2;go_upto_region 19 with(fail);clear HT HG HH HZ HQ ag ac am ah HN ad HO an ab Y aB ak ai O aj aa al aJ aX bD bg bf bC;refine yZ (S:=(fun w'=>yJ w' t 0 A9 n9 c9∧yI w' t 1 (n9:Int)∧yI w' r 0 N.errno∧yI w' r 1 N.owed)) (HK _ aD.drew) fun Z=>?_;refine yT [0,1] ?_;iterate 2 (refine yS ?_;simp only[yU])
   refine yR 2 fun K hK=>?_
   (refine yY 39 (.tmp 6) (.tmp 97) _ #[.slice A9 n9 c9,.int .i64 (n9:Int)] af ?_)
   refine hK.out _ _ (HK _ (aD.drew.setRow (.inl (.inl rfl)) _)) fun Z=>?_;clear hK K
   try simp only[yU]
   refine yR 3 fun K hK=>?_
   (refine yY 55 (.tmp 7) (.tmp 98) _ (Qt N) ae ?_)
   refine hK.out _ _ (HK _ ((aD.drew.setRow (.inl (.inl rfl)) _).setRow (.inl (.inr rfl)) _)) fun Z=>?_;clear hK K
   try simp only[yU]
   refine yT [4] ?_;iterate 1 (refine yS ?_;simp only[yU])
   refine yD ?_;clear HK aD;go_wp2_with fail;refine yq4 (.tuple #[.agg #[.slice A9 n9 c9,.int .i64 (n9:Int)],.agg (Qt N),.int .i64 0]) (k:=6) (l:=7) (u:=8) av (ae.row (Qt N)) underlying39 underlying55 ?_;exact bh
  obtain⟨ba,cy,d,rfl,hd,-,bO⟩:=(ag _ aj).don hlt;have al:=yh hd;have d1:decide ((k:Int)<(n:Int))=true:=J2 (by omega);have d3:decide (0≤(k:Int))=true:=J2 (by omega);have d4:decide ((k:Int)<0)=false:=J3 (by omega)
  have ci:ba<w.heap.size:=by
   obtain⟨b2,o2,x2,cG,-,-,cc⟩:=Y.don hlt;have h1:=ZT (Q0a cc).1;injection cG with hA3;injection hA3 with hA4;omega
  have aL:=yh (show ∀V,yw W5 V→∀j u,(Vk d).toList[j]? = some u→V.cell? ⟨ba,cy+k*13+j,none⟩=some u from fun V F j u hu=>Qh F (bO j u hu));have H5:=yh (fun V (F:yw W5 V)=>aa.trans (F.mono aa.size));have bw:=fun W=>XQa d.ask Q.1 W;simp only[QY]at bw;obtain⟨tv,bz⟩:=yE (UBb d.ask Q.1);rw[←bz]at bw;have aM:=yh bz;have bP:=bu;clear hd bO bz hh bu;have aR:=yh bP;clear bP
  have aS:=yh (show ∀V,yw W5 V→(fun w'=>yJ w' h 0 (some ⟨ba,cy,none⟩) n cap∧yI w' ba (cy+k*13) d.ask.number∧yI w' ba (cy+k*13+1) d.ask.kind∧yI w' ba (cy+k*13+2) d.ask.id∧yI w' ba (cy+k*13+3) d.ask.guests∧w'.cell? ⟨ba,cy+k*13+4,none⟩=some (.bool d.ask.level)∧yI w' ba (cy+k*13+5) d.ask.cabin∧yI w' ba (cy+k*13+6) d.ask.category∧yI w' ba (cy+k*13+7) d.ask.frm∧yI w' ba (cy+k*13+8) d.ask.upto∧yI w' ba (cy+k*13+9) d.ask.til∧yI w' ba (cy+k*13+10) d.ask.amount∧yI w' c 0 Q.1.number∧yI w' c 1 Q.1.kind∧yI w' c 2 Q.1.id∧yI w' c 3 Q.1.guests∧w'.cell? ⟨c,4,none⟩=some (.bool Q.1.level)∧yI w' c 5 Q.1.cabin∧yI w' c 6 Q.1.category∧yI w' c 7 Q.1.frm∧yI w' c 8 Q.1.upto∧yI w' c 9 Q.1.til∧yI w' c 10 Q.1.amount) V from fun V F=>by
   obtain⟨b0,b1,b2,b3,b4,b5,b6,b7,b8,b9,cC,bE,bF⟩:=Q0a (aL V F);obtain⟨c0,c1,c2,c3,c4,c5,c6,c7,c8,c9,bi⟩:=AskAt.all (show AskAt V c Q.1 from ak _ (H5 V F))
   exact⟨(HH _ (O _ (H5 V F))).cell rfl,b0,b1,b2,b3,b4,b5,b6,b7,b8,b9,cC,c0,c1,c2,c3,c4,c5,c6,c7,c8,c9,bi⟩)
  go_upto_region 10 with(fail);go_cut [51] (fun p wx=>p=.bool tv∧yw W5 wx)
  case first=>
   have I:yw W5 W5.drew:=(J4 _ W5).drew;clear HT HG HH HZ HQ ag ac am ah HN ad HO an ab Y ap ak ai O aj aa aL H5 aM ar aR al aw c0;refine yZ (S:=(fun w'=>yJ w' h 0 (some ⟨ba,cy,none⟩) n cap∧yI w' ba (cy+k*13) d.ask.number∧yI w' ba (cy+k*13+1) d.ask.kind∧yI w' ba (cy+k*13+2) d.ask.id∧yI w' ba (cy+k*13+3) d.ask.guests∧w'.cell? ⟨ba,cy+k*13+4,none⟩=some (.bool d.ask.level)∧yI w' ba (cy+k*13+5) d.ask.cabin∧yI w' ba (cy+k*13+6) d.ask.category∧yI w' ba (cy+k*13+7) d.ask.frm∧yI w' ba (cy+k*13+8) d.ask.upto∧yI w' ba (cy+k*13+9) d.ask.til∧yI w' ba (cy+k*13+10) d.ask.amount∧yI w' c 0 Q.1.number∧yI w' c 1 Q.1.kind∧yI w' c 2 Q.1.id∧yI w' c 3 Q.1.guests∧w'.cell? ⟨c,4,none⟩=some (.bool Q.1.level)∧yI w' c 5 Q.1.cabin∧yI w' c 6 Q.1.category∧yI w' c 7 Q.1.frm∧yI w' c 8 Q.1.upto∧yI w' c 9 Q.1.til∧yI w' c 10 Q.1.amount)) (aS _ I) fun Z=>?_;refine yT [0,1,2,3,4,5,6,7] ?_;iterate 8 (refine yS ?_;simp only[yU])
   refine yD ?_;go_wp2_with fail;go_meet;exact⟨rfl,I⟩
  obtain⟨rfl,aI⟩:=hcut;obtain⟨W6,rfl⟩:=yE wc;have a7:=H5 _ aI;have hb:=O _ a7;have hh:=HH _ hb;have az:=yh aI;clear bw c0;cases tv;rotate_left
  ·have aT:d.ask=Q.1:=of_decide_eq_true aM.out.symm;obtain⟨hm,hg⟩:=Unb ar al (show QQ Q.1 d=true by unfold QQ;rw[aT];simp);have aA:=yh (show V=(l,J,d.ans,0)by rw[ap.out,M3 hm,hg,M3 aT])
   have HK:=yh (show ∀X,Kept (fun j=>j=z∨j=q) W6 X→(fun w'=>yJ w' h 0 (some ⟨ba,cy,none⟩) n cap∧yI w' h 1 J∧yI w' ba (cy+k*13+11) d.ans.errno∧yI w' ba (cy+k*13+12) d.ans.owed) X from fun X hX=>by
    have hn:=hh.kept hX (by omega);obtain⟨-,-,-,-,-,-,-,-,-,-,-,bE,bF⟩:=Q0a (aL _ az)
    exact⟨hn.cell rfl,hn.cell rfl,Z2a hX (show ¬(ba=z∨ba=q)by omega) bE,Z2a hX (show ¬(ba=z∨ba=q)by omega) bF⟩)
   have ay:=hb.drew;have af:=HZ _ ay;have au:=HQ _ ay;have ae:=Zd au (Ne.symm aq) #[.slice (some ⟨ba,cy,none⟩) n cap,.int .i64 J];have av:=Zd (af.row #[.slice (some ⟨ba,cy,none⟩) n cap,.int .i64 J]) aq (Qt d.ans);have bh:=yh (ah W6.drew V d.ans ay aA);have aD:=yj z q W6;clear hm hg aT hb ay a7 hh aI aA;go_upto_region 11 with(fail);clear HT HG HH HZ HQ ag ac am ah HN ad HO an ab Y ap ak ai O aj aa aL H5 aM ar aR al aw aS az;refine yZ (S:=(fun w'=>yJ w' h 0 (some ⟨ba,cy,none⟩) n cap∧yI w' h 1 J∧yI w' ba (cy+k*13+11) d.ans.errno∧yI w' ba (cy+k*13+12) d.ans.owed)) (HK _ aD.drew) fun Z=>?_;refine yT [0,1,2,3,4,5,6] ?_;iterate 7 (refine yS ?_;simp only[yU])
   refine yR 7 fun K hK=>?_
   (refine yY 39 (.tmp 6) (.tmp 52) _ #[.slice (some ⟨ba,cy,none⟩) n cap,.int .i64 J] af ?_)
   refine hK.out _ _ (HK _ (aD.drew.setRow (.inl (.inl rfl)) _)) fun Z=>?_;clear hK K
   try simp only[yU]
   refine yR 8 fun K hK=>?_
   (refine yY 55 (.tmp 7) (.tmp 58) _ (Qt d.ans) ae ?_)
   refine hK.out _ _ (HK _ ((aD.drew.setRow (.inl (.inl rfl)) _).setRow (.inl (.inr rfl)) _)) fun Z=>?_;clear hK K
   try simp only[yU]
   refine yT [9] ?_;iterate 1 (refine yS ?_;simp only[yU])
   refine yD ?_;clear HK aD;go_wp2_with fail;refine yq4 (.tuple #[.agg #[.slice (some ⟨ba,cy,none⟩) n cap,.int .i64 J],.agg (Qt d.ans),.int .i64 0]) (k:=6) (l:=7) (u:=8) av (ae.row (Qt d.ans)) underlying39 underlying55 ?_;exact bh
  have aT:¬d.ask=Q.1:=of_decide_eq_false aM.out.symm;have a1:=yh aT;obtain⟨tw,bU⟩:=yE (d.ask.number==Q.1.number);have aZ:=yh bU;clear aT bU hb a7 aI;go_upto_region 12 with(fail);go_cut [68] (fun p wx=>p=.bool tw∧yw W6 wx)
  case first=>
   have I:yw W6 W6.drew:=(J4 _ W6).drew;have bc:=aS _ (az.trans (I.mono az.size));have cB:=yh (show(fun w'=>yJ w' h 0 (some ⟨ba,cy,none⟩) n cap∧yI w' ba (cy+k*13) d.ask.number∧yI w' c 0 Q.1.number) W6.drew from⟨bc.1,bc.2.1,bc.2.2.2.2.2.2.2.2.2.2.2.2.1⟩);clear HT HG HH HZ HQ ag ac am ah HN ad HO an ab Y ap ak ai O aj aa aL H5 aM ar aR al aw aS a1 az bc hh;refine yZ (S:=(fun w'=>yJ w' h 0 (some ⟨ba,cy,none⟩) n cap∧yI w' ba (cy+k*13) d.ask.number∧yI w' c 0 Q.1.number)) (cB.out) fun Z=>?_;refine yT [0,1,2,3,4,5,6,7,8,9] ?_;iterate 10 (refine yS ?_;simp only[yU])
   refine yD ?_;go_wp2_with fail;go_meet;exact⟨by rw[aZ.out],I⟩
  obtain⟨rfl,aV⟩:=hcut;obtain⟨W7,rfl⟩:=yE wc;have bj:=az.trans (aV.mono az.size);have a4:=H5 _ bj;clear hh aV;cases tw
  ·have bR:(l.take (k+1)).any (QQ Q.1)=false:=by
    rw[Qu al.out,ar.out];unfold QQ;rw[←aZ.out]
    rfl
   have cA:=yh bR;have bX:=yh a4;have bu:=aR.out;clear bR a4 bj HT HG HH HZ HQ ag ac am ah HN ad HO an ab Y ap ak ai O aj aa aL H5 aM ar aR al aw aS a1 az aZ;go_wp2_with fail;go_roundg (n-(k+1))
   case measure=>omega
   case rel=>exact⟨k+1,by omega,by omega,by go_num,cA,bX⟩
  ·obtain⟨hm,hg⟩:=Unb ar al (show QQ Q.1 d=true by unfold QQ;exact aZ.symm);have aA:=yh (show V=(l,J,⟨6,0⟩,0)by rw[ap.out,M3 hm,hg,M2 a1.out]);have hb:=O _ a4;have hh:=HH _ hb;have HB:=yh hb;have af:=HZ _ (HB.out);have au:=HQ _ (HB.out);have ae:=Zd au (Ne.symm aq) #[.slice (some ⟨ba,cy,none⟩) n cap,.int .i64 J];have av:=Zd (af.row #[.slice (some ⟨ba,cy,none⟩) n cap,.int .i64 J]) aq #[.int .i64 6,.int .i64 0];clear hm hg hb a4 bj HT HG HH HZ HQ ag ac am HN ad HO an ab Y ap ak ai O aj aa aL H5 aM ar aR al aw aS a1 az aZ;go_wp2_with (first|(refine yV (.tmp 4) hh underlying39 ?_)|(refine yX 39 (.tmp 6) (.tmp 69) z #[.slice (some ⟨ba,cy,none⟩) n cap,.int .i64 J] af ?_)|(refine wpList_store_row rfl 55 (.tmp 7) (.tmp 70) rfl q #[.int .i64 6,.int .i64 0] rfl rfl 55 _ ae (by kernel_rfl) rfl (by simp[Qt,Value.oneCell']) ?_));refine yq4 (.tuple #[.agg #[.slice (some ⟨ba,cy,none⟩) n cap,.int .i64 J],.agg #[.int .i64 6,.int .i64 0],.int .i64 0]) (k:=6) (l:=7) (u:=8) av (ae.row #[.int .i64 6,.int .i64 0]) underlying39 underlying55 ?_;exact ah _ _ ⟨6,0⟩ HB aA
end Go.Proofs.YtjdcokpmgionjaaGreat
