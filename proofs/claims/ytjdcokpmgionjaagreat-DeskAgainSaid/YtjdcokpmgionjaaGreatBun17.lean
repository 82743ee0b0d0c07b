/-
  Words, laws and contracts: StockG, StockM, StockN, StockO.
-/
import Derived.Test.YtjdcokpmgionjaaGreatBun1
import Derived.Test.YtjdcokpmgionjaaGreatBun16
import Derived.Laws.Rows
set_option linter.unusedSimpArgs false
set_option linter.unusedVariables false
set_option maxRecDepth 100000
set_option maxHeartbeats 20000000
namespace Go.Proofs.YtjdcokpmgionjaaGreat
open Go.RowKit Go.Shelf
structure OkSai (x:Sai):Prop where
 bs:OkBs x
 fares:Zq x.fares x.ship.cats.length x.ship.legs=0
 day:Qc x.day 0 9999=true
 leaves:Qc x.leaves 0 9999=true
 room:QQ x=0
theorem Ze {x:Sai}(h:Qp x=0):OkSai x:=by
 unfold Qp at h
 by_cases h1:ZJ x.ship≠0
 ·rw[if_pos h1]at h;exact absurd h h1
 rw[if_neg h1]at h
 by_cases h2:Zq x.fares x.ship.cats.length x.ship.legs≠0
 ·rw[if_pos h2]at h;exact absurd h h2
 rw[if_neg h2]at h
 by_cases h3:(Qc x.day 0 9999 && Qc x.leaves 0 9999)=false
 ·rw[if_pos h3]at h;omega
 rw[if_neg h3]at h
 by_cases h4:Vc x≠0
 ·rw[if_pos h4]at h;exact absurd h h4
 rw[if_neg h4]at h
 by_cases h5:QQ x=8
 ·rw[if_pos h5]at h;omega
 rw[if_neg h5]at h;obtain⟨A,D⟩:=XB h3;exact⟨QAb (U6a (Decidable.not_not.1 h1)) (Decidable.not_not.1 h4),Decidable.not_not.1 h2,A,D,h⟩
theorem Zw {c:Prop}[Decidable c]{a b:Int}(h:a≤7)(A:b≤7):(if c then a else b)≤7:=by split<;>assumption
theorem Yj {f:Nat→Int}(h:∀i,f i≤7):∀n,Qh f n≤7
 | 0=>by show(0:Int)≤7;decide
 | n+1=>Zw (Yj h n) (h n)
theorem XJ {f:Nat→Int}(h:∀i,f i≤7):∀n,Qo f n≤7
 | 0=>by show(0:Int)≤7;decide
 | n+1=>Zw (h n) (XJ h n)
theorem Zhc {l:List (List UInt8)}{f:Nat→Int}(h:∀i,f i≤7)(k:Nat):nmE l f k≤7:=Zw (by decide) (Zw (by decide) (h k))
theorem QVc (x:Shp):ZJ x≤7:=by
 have A:∀k,Qh (nmE (Qu x.cats) (VY x.cats)) k≤7:=Yj (Zhc fun i=>Yj (fun j=>Zw (by decide) (Zw (by decide) (by decide))) _);have D:∀k,Qh (nmE (Qt x.cabs) (fun k=>Y4 x.cats.length (x.cabs.getD k default))) k≤7:=Yj (Zhc fun i=>Zw (by decide) (by decide));exact Zw (by decide) (Zw (by decide) (Zw (by decide) (Zw (A _) (Zw (by decide) (D _)))))
theorem Qhc (x:Fares)(c A:Int):Zq x c A≤7:=by
 have D:Z3 x.leg c A≤7:=Zw (by decide) (Zw (by decide) (by decide));have E:Uh x.bands≤7:=Zw (by decide) (XJ (fun i=>Zw (by decide) (Zw (by decide) (by decide))) _);exact Zw (by decide) (Zw D (Zw (by decide) E))
theorem XAa (l:List Entry):Qe l≤7:=by
 have A:∀n,Qo (Zk l) n≤7:=XJ fun i=>by
  unfold Zk
  first | exact Zw (Zw (by decide) (Zw (by decide) (Zw (by decide) (by decide)))) (Zw (by decide) (by decide)) | (repeat' split)<;>first | decide | (unfold Zj at *;(repeat' split)<;>first | decide | omega) | omega
 have D:∀n,Qo (Uz l) n≤7:=XJ fun i=>by
  unfold Uz
  (repeat' split)<;>decide
 exact Zw (by decide) (Zw (A _) (D _))
theorem Q1c (s:Span)(n:Int):Vg s n≤7:=Zw (by decide) (Zw (by decide) (by decide))
theorem Qqc (x:Shp)(b:Bkg):kindE x b≤7:=Zw (Zw (by decide) (Zw (by decide) (Zw (by decide) (Zw (by decide) (by decide))))) (Zw (by decide) (Zw (by decide) (Zw (by decide) (by decide))))
theorem Uzc (x:Shp)(b:Bkg):ofE x b≤7:=Zw (by decide) (Zw (by decide) (Zw (Q1c _ _) (Zw (Qqc _ _) (Zw (by decide) (Zw (by decide) (XAa _))))))
theorem Znc (x:Sai):Vc x≤7:=Zw (by decide) (Zw (Yj (fun i=>Zw (Uzc _ _) (Zw (by decide) (by decide))) _) (Zw (by decide) (by decide)))
theorem Q8 (x:Sai)(p:SaiV)(w:World)(h:SaiR w x p) :
  Calls Tryz.prog 19 #[.agg (Qa x p)] w fun e w'=>e=.returned (.int .i64 (Qp x))∧yw w w':=by
 have az:=yh (fun W h ho=>Xxa x p W h ho);have aD:=yh (fun W h (hb:OkBs x)=>Uta x p W h hb.ship hb.bk hb.len);have HS:=yh h;obtain⟨A,n,cap,B,m,ac,D,nd,cd,E,ne,ce,C,nb,cb⟩:=p;have hc:Sl Um 2 w All A n cap x.ship.cats:=h.cats;have hd:Sl ZW 4 w All B m ac x.ship.cabs:=h.cabs;have hf:FareR w D nd cd x.fares E ne ce:=h.fares;obtain⟨r,I⟩:∃r,r=Qp x:=⟨_,rfl⟩;rw[←I]
 have au:=fun W F h2=>Vza x.ship A n cap B m ac W F h2
 have aq:=fun W F=>YU D nd cd x.fares E ne ce (n:Int) x.ship.legs W F
 obtain⟨se,ae⟩:∃q,q=ZJ x.ship:=⟨_,rfl⟩;obtain⟨fe,ah⟩:∃q,q=Zq x.fares (n:Int) x.ship.legs:=⟨_,rfl⟩;obtain⟨be,ad⟩:∃q,q=Vc x:=⟨_,rfl⟩;obtain⟨re,ar⟩:∃q,q=QQ x:=⟨_,rfl⟩;obtain⟨d1,ao⟩:∃q,q=Qc x.day 0 9999:=⟨_,rfl⟩;obtain⟨d2,ap⟩:∃q,q=Qc x.leaves 0 9999:=⟨_,rfl⟩;have HR:=yh (show r=if se≠0 then se else if fe≠0 then fe else if (d1 && d2)=false then 3 else if be≠0 then be else if re=8 then 2 else re by rw[I,ae,ah,ad,ar,ao,ap,←hc.len];rfl)
 have aw:=fun W=>ZQb x.day W
 have ax:=fun W=>ZQb x.leaves W
 rw[←ao]at aw;rw[←ap]at ax;rw[←ae]at au;rw[←ah]at aq;rw[←ad]at az;rw[←ar]at aD;have aE:=yh au;clear au;have aB:=yh aq;clear aq;have aI:=yh aw;clear aw;have aJ:=yh ax;clear ax;have aS:=yh (show se≤7 by rw[ae];exact QVc _);have aR:=yh (show fe≤7 by rw[ah];exact Qhc _ _ _);have aO:=yh (show be≤7 by rw[ad];exact Znc _);have aF:=yh ae;clear ae;have aP:=yh ad;clear ad;have HC:=yh hc;have HD:=yh hd;have HF:=yh hf;clear h hc hd hf I ah ar ao ap
 go_enter Tryz.func19,Tryz.ntmps19
 go_upto_region 0 with(fail)
 go_cut [1,2] (fun q _ X=>∃g,q=.pointer (some ⟨g,0,none⟩)∧Blk X g (Qa x ⟨A,n,cap,B,m,ac,D,nd,cd,E,ne,ce,C,nb,cb⟩) 32∧yw w X)
 case first=>as_aux_lemma=>
  go_wp2_with fail
  go_meet
  exact⟨_,rfl,Za _ _,Qf _ _⟩
 obtain⟨g,rfl,hG,aY⟩:=hcut;have s0:yI wc g 0 x.ship.legs:=hG.cell rfl;have s1:yI wc g 1 x.ship.souls:=hG.cell rfl;have s2:yJ wc g 2 A n cap:=hG.cell rfl;have s3:yJ wc g 3 B m ac:=hG.cell rfl;have s4:yJ wc g 4 D nd cd:=hG.cell rfl;have s5:yI wc g 5 x.fares.alone:=hG.cell rfl;have s6:yI wc g 6 x.fares.third:=hG.cell rfl;have s7:yJ wc g 7 E ne ce:=hG.cell rfl;have s8:yI wc g 8 x.fares.down:=hG.cell rfl;have s9:yI wc g 9 x.day:=hG.cell rfl;have af:yI wc g 10 x.leaves:=hG.cell rfl;have ai:yJ wc g 11 C nb cb:=hG.cell rfl;have aj:wc.cell? ⟨g,12,none⟩=some (.bool x.closed):=hG.cell rfl;have aa:=yh (aE.out wc (HC.out.bel aY) (HD.out.bel aY))
 go_wp2_with fail
 refine aa.out.mono ?_;rintro e w2 ⟨rfl,an⟩;replace hG:=hG.bel an;replace aY:=aY.trans (an.mono aY.size);clear an s0 s1 s2 s3 s4 s5 s6 s7 s8 s9 af ai aj aa aE
 obtain⟨e1,aK⟩:∃q,q=if se≠0 then se else fe:=⟨_,rfl⟩
 have ag:=yh aK;clear aK
 go_upto_if 8 with(fail)
 obtain⟨Q,aT⟩:∃W,W=w2:=⟨_,rfl⟩;subst aT
 go_cut [3] (fun q X=>q=.int .i64 e1∧yw Q X)
 case first=>as_aux_lemma=>
  by_cases h0:se=0
  ·obtain rfl:e1=fe:=by rw[ag.out,if_neg (by rw[h0];simp)]
   subst h0;have s0:yI Q g 0 x.ship.legs:=hG.cell rfl;have s1:yI Q g 1 x.ship.souls:=hG.cell rfl;have s2:yJ Q g 2 A n cap:=hG.cell rfl;have s3:yJ Q g 3 B m ac:=hG.cell rfl;have s4:yJ Q g 4 D nd cd:=hG.cell rfl;have s5:yI Q g 5 x.fares.alone:=hG.cell rfl;have s6:yI Q g 6 x.fares.third:=hG.cell rfl;have s7:yJ Q g 7 E ne ce:=hG.cell rfl;have s8:yI Q g 8 x.fares.down:=hG.cell rfl;have s9:yI Q g 9 x.day:=hG.cell rfl;have af:yI Q g 10 x.leaves:=hG.cell rfl;have ai:yJ Q g 11 C nb cb:=hG.cell rfl;have aj:Q.cell? ⟨g,12,none⟩=some (.bool x.closed):=hG.cell rfl;have aa:=yh (aB.out Q (HF.out.below aY));clear hG aY
   go_wp2_with fail
   refine aa.out.mono ?_;rintro e w3 ⟨rfl,O⟩
   go_wp2_with fail
   go_meet
   exact⟨rfl,O⟩
  ·obtain rfl:e1=se:=by rw[ag.out,if_pos h0]
   have am:(e1 == 0)=false:=by simpa using h0
   clear h0 hG aY
   go_wp2_with fail
   go_meet
   exact⟨rfl,Below.refl _ _⟩
 obtain⟨rfl,O⟩:=hcut;replace hG:=hG.bel O;replace aY:=aY.trans (O.mono aY.size);clear O aB
 obtain⟨Y,aL⟩:∃q,q=if e1≠0 then e1 else if (d1 && d2)=false then 3 else 0:=⟨_,rfl⟩
 have ak:=yh aL;clear aL;obtain⟨tv,av⟩:∃q,q=(decide (e1=0) && !(d1 && d2)):=⟨_,rfl⟩
 have aA:=yh (show Y=if tv=true then 3 else e1 by
  rw[ak.out,av]
  by_cases h0:e1=0
  ·rw[if_neg (by rw[h0];simp),decide_eq_true h0]
   cases hd:(d1 && d2)<;>simp[h0]
  ·rw[if_pos h0,decide_eq_false h0];simp)
 have aH:=yh av;clear av
 go_upto_region 4 with(fail)
 obtain⟨W3,aU⟩:∃W,W=wc:=⟨_,rfl⟩;subst aU
 go_cut [32] (fun q X=>q=.bool tv∧W3=X)
 case first=>as_aux_lemma=>
  by_cases h0:e1=0
  ·have ab:=yh (show tv = !(d1 && d2)by rw[aH.out,decide_eq_true h0];rfl)
   subst h0;have s9:yI W3 g 9 x.day:=hG.cell rfl;have af:yI W3 g 10 x.leaves:=hG.cell rfl;clear hG aY
   go_wp2_with fail
   refine(aI.out _).mono ?_;rintro e w9 ⟨rfl,rfl⟩
   cases d1
   ·obtain rfl:tv=true:=ab.out
    go_wp2_with fail
    go_meet
    exact⟨rfl,rfl⟩
   go_wp2_with fail
   refine(aJ.out _).mono ?_;rintro e w9 ⟨rfl,rfl⟩
   cases d2
   ·obtain rfl:tv=true:=ab.out
    go_wp2_with fail
    go_meet
    exact⟨rfl,rfl⟩
   ·obtain rfl:tv=false:=ab.out
    go_wp2_with fail
    go_meet
    exact⟨rfl,rfl⟩
  ·obtain rfl:tv=false:=by rw[aH.out,decide_eq_false h0];rfl
   have am:(e1 == 0)=false:=by simpa using h0
   clear h0 hG aY
   go_wp2_with fail
   go_meet
   exact⟨rfl,rfl⟩
 obtain⟨rfl,ay⟩:=hcut;subst ay
 go_upto_if 32 with(fail)
 go_cut [3] (fun q X=>q=.int .i64 Y∧W3=X)
 case first=>as_aux_lemma=>
  cases tv
  ·obtain rfl:Y=e1:=aA.out
   clear hG aY
   go_wp2_with fail
   go_meet
   exact⟨rfl,rfl⟩
  ·obtain rfl:Y=3:=aA.out
   clear hG aY
   go_wp2_with fail
   go_meet
   exact⟨rfl,rfl⟩
 obtain⟨rfl,ay⟩:=hcut;subst ay;clear aI aJ
 have aG:=yh (show Y=0→se=0∧e1=0∧(d1 && d2)=true from fun h=>by
  have h2:=ak.out
  by_cases h0:e1=0
  ·rw[if_neg (by rw[h0];simp)]at h2
   have F:=ag.out
   by_cases J:se=0
   ·refine⟨J,h0,?_⟩
    cases hd:(d1 && d2)with
    | true=>rfl
    | false=>rw[if_pos hd]at h2;omega
   ·rw[if_pos J]at F;omega
  ·rw[if_pos h0]at h2;omega)
 obtain⟨e3,aM⟩:∃q,q=if Y≠0 then Y else be:=⟨_,rfl⟩
 have ab:=yh aM;clear aM
 go_upto_if 34 with(fail)
 obtain⟨U,aV⟩:∃W,W=W3:=⟨_,rfl⟩;subst aV
 go_cut [3] (fun q X=>q=.int .i64 e3∧yw U X)
 case first=>as_aux_lemma=>
  by_cases h0:Y=0
  ·obtain rfl:e3=be:=by rw[ab.out,if_neg (by rw[h0];simp)]
   have s0:yI U g 0 x.ship.legs:=hG.cell rfl;have s1:yI U g 1 x.ship.souls:=hG.cell rfl;have s2:yJ U g 2 A n cap:=hG.cell rfl;have s3:yJ U g 3 B m ac:=hG.cell rfl;have s4:yJ U g 4 D nd cd:=hG.cell rfl;have s5:yI U g 5 x.fares.alone:=hG.cell rfl;have s6:yI U g 6 x.fares.third:=hG.cell rfl;have s7:yJ U g 7 E ne ce:=hG.cell rfl;have s8:yI U g 8 x.fares.down:=hG.cell rfl;have s9:yI U g 9 x.day:=hG.cell rfl;have af:yI U g 10 x.leaves:=hG.cell rfl;have ai:yJ U g 11 C nb cb:=hG.cell rfl;have aj:U.cell? ⟨g,12,none⟩=some (.bool x.closed):=hG.cell rfl;have aa:=yh (az.out U (HS.out.bel aY) (U6a (aF.out.symm.trans (aG.out h0).1)));subst h0;clear hG aY
   go_wp2_with fail
   refine aa.out.mono ?_;rintro e w3 ⟨rfl,O⟩
   go_wp2_with fail
   go_meet
   exact⟨rfl,O⟩
  ·obtain rfl:e3=Y:=by rw[ab.out,if_pos h0]
   have am:(e3 == 0)=false:=by simpa using h0
   clear h0 hG aY
   go_wp2_with fail
   go_meet
   exact⟨rfl,Below.refl _ _⟩
 obtain⟨rfl,O⟩:=hcut;replace hG:=hG.bel O;replace aY:=aY.trans (O.mono aY.size);clear O
 obtain⟨e4,aN⟩:∃q,q=if e3≠0 then e3 else re:=⟨_,rfl⟩
 have al:=yh aN;clear aN
 have aQ:=yh (show e3=0→Y=0∧be=0 from fun h=>by
  have h2:=ab.out
  by_cases h0:Y=0
  ·rw[if_neg (by rw[h0];simp)]at h2
   exact⟨h0,by omega⟩
  ·rw[if_pos h0]at h2;omega)
 go_upto_if 38 with(fail)
 obtain⟨V,aW⟩:∃W,W=wc:=⟨_,rfl⟩;subst aW
 go_cut [3] (fun q X=>q=.int .i64 e4∧yw V X)
 case first=>as_aux_lemma=>
  by_cases h0:e3=0
  ·obtain rfl:e4=re:=by rw[al.out,if_neg (by rw[h0];simp)]
   have s0:yI V g 0 x.ship.legs:=hG.cell rfl;have s1:yI V g 1 x.ship.souls:=hG.cell rfl;have s2:yJ V g 2 A n cap:=hG.cell rfl;have s3:yJ V g 3 B m ac:=hG.cell rfl;have s4:yJ V g 4 D nd cd:=hG.cell rfl;have s5:yI V g 5 x.fares.alone:=hG.cell rfl;have s6:yI V g 6 x.fares.third:=hG.cell rfl;have s7:yJ V g 7 E ne ce:=hG.cell rfl;have s8:yI V g 8 x.fares.down:=hG.cell rfl;have s9:yI V g 9 x.day:=hG.cell rfl;have af:yI V g 10 x.leaves:=hG.cell rfl;have ai:yJ V g 11 C nb cb:=hG.cell rfl;have aj:V.cell? ⟨g,12,none⟩=some (.bool x.closed):=hG.cell rfl;have F:=aQ.out h0;have aa:=yh (aD.out V (HS.out.bel aY) (QAb (U6a (aF.out.symm.trans (aG.out F.1).1)) (aP.out.symm.trans F.2)));subst h0;clear hG aY F
   go_wp2_with fail
   refine aa.out.mono ?_;rintro e w3 ⟨rfl,O⟩
   go_wp2_with fail
   go_meet
   exact⟨rfl,O⟩
  ·obtain rfl:e4=e3:=by rw[al.out,if_pos h0]
   have am:(e4 == 0)=false:=by simpa using h0
   clear h0 hG aY
   go_wp2_with fail
   go_meet
   exact⟨rfl,Below.refl _ _⟩
 obtain⟨rfl,O⟩:=hcut;replace aY:=aY.trans (O.mono aY.size)
 have aC:=yh (show r=if e4=8 then 2 else e4 by
  have l1:=aS.out;have l2:=aR.out;have l3:=aO.out;have Z:=al.out;have J:=ab.out;have h2:=ak.out;have F:=ag.out;have I:=HR.out
  by_cases a1:se=0
  ·rw[if_neg (by rw[a1];simp)]at F I
   by_cases a2:fe=0
   ·rw[if_neg (by rw[a2];simp)]at I
    rw[if_neg (by rw[F,a2];simp)]at h2
    by_cases a3:(d1 && d2)=false
    ·rw[if_pos a3]at h2 I
     rw[if_pos (by rw[h2];simp)]at J;rw[if_pos (by rw[J,h2];simp)]at Z;rw[I,Z,J,h2];rfl
    ·rw[if_neg a3]at h2 I
     rw[if_neg (by rw[h2];simp)]at J
     by_cases a4:be=0
     ·rw[if_neg (by rw[a4];simp)]at I
      rw[if_neg (by rw[J,a4];simp)]at Z;rw[I,Z]
     ·rw[if_pos a4]at I
      rw[if_pos (by rw[J];exact a4)]at Z;rw[I,Z,J,if_neg (by omega)]
   ·rw[if_pos a2]at I
    rw[if_pos (by rw[F];exact a2)]at h2;rw[if_pos (by rw[h2,F];exact a2)]at J;rw[if_pos (by rw[J,h2,F];exact a2)]at Z;rw[I,Z,J,h2,F,if_neg (by omega)]
  ·rw[if_pos a1]at F I
   rw[if_pos (by rw[F];exact a1)]at h2;rw[if_pos (by rw[h2,F];exact a1)]at J;rw[if_pos (by rw[J,h2,F];exact a1)]at Z;rw[I,Z,J,h2,F,if_neg (by omega)])
 clear hG O
 by_cases h8:e4=8
 ·obtain rfl:r=2:=by rw[aC.out,if_pos h8]
  subst h8
  go_wp2_with fail
  go_ret
  exact⟨rfl,aY⟩
 ·obtain rfl:r=e4:=by rw[aC.out,if_neg h8]
  have aX:(r == 8)=false:=by simpa using h8
  clear h8
  go_wp2_with fail
  go_ret
  exact⟨rfl,aY⟩
section
variable {α:Type} {c:Cod α} {size:Nat} {e:TypeId} {w w':World} {base:Nat} {v:Value} {l:List α} {xs:List Value}
theorem Own.keepB (O:VV c)(h:Own c size e w base v l xs)(U:∀k,v.ownBlock=some k→w'.heap[k]? = w.heap[k]?):Own c size e w' base v l xs:=by
 refine⟨⟨h.row.1,?_⟩,fun i x V=>?_⟩
 ·rcases h.row.2 with F | ⟨g,cap,E,A,I,Q,r⟩
  ·exact .inl F
  ·exact .inr ⟨g,cap,E,A,I,(U g (by rw[A];rfl)).trans Q,r⟩
 ·obtain⟨D,J,r⟩:=h.el i x V
  exact⟨D,O _ _ _ _ _ _ J,r⟩
theorem Own.slS (h:Own c size e w base v l xs)(Q:Good c)(O:VV c){S:Nat→Prop}(I:∀k,v.ownBlock=some k→S k):∃A n cap,v=.slice A n cap∧Sl c size w S A n cap l:=by
 obtain⟨A,n,cap,E,W⟩:=h.sl Q;refine⟨A,n,cap,E,W.len,W.le,W.max,fun i x U=>?_⟩;obtain⟨b,V,F,D,_,J,r⟩:=W.rd i x U;exact⟨b,V,F,D,I b (by rw[E,D];rfl),O _ _ _ _ _ _ J,r⟩
theorem Own.kept {S:Nat→Prop}(h:Own c size e w base v l xs)(E:Good c)(F:Kept S w w')(A:∀k,base≤k→¬S k):Own c size e w' base v l xs:=
 h.keep E fun b D I=>F.block b I (A b D)
end
def InnO {α:Type} (c:Cod α) (size:Nat) (e:TypeId) (w:World) (S:Nat→Prop) (v:Value) (l:List α):Prop:=∃xs,Own c size e w 0 v l xs∧∀k,v.ownBlock=some k→S k
section
variable {α:Type} {c:Cod α} {size:Nat} {e:TypeId} {w w':World} {v:Value} {l:List α} {S S':Nat→Prop}
theorem InnO.keep (F:VV c)(h:InnO c size e w S v l)(E:∀b,S b→b < w.heap.size→w'.heap[b]? = w.heap[b]?∧S' b):InnO c size e w' S' v l:=by
 obtain⟨xs,h,D⟩:=h;exact⟨xs,h.keepB F fun k A=>(E k (D k A) (h.lt k A).2).1,fun k A=>(E k (D k A) (h.lt k A).2).2⟩
theorem InnO.sl (h:InnO c size e w S v l)(E:Good c)(D:VV c):∃A n cap,v=.slice A n cap∧Sl c size w S A n cap l:=by
 obtain⟨xs,h,F⟩:=h;exact h.slS E D F
end
def Xya:Cod Cat:=fun w S x cs=>∃v,cs=[Zb x.name,v]∧InnO QL 1 3 w S v x.high∧x.name.length≤maxLen
def XTa:Cod (List Int):=fun w S x cs=>∃v,cs=[v]∧InnO QL 1 3 w S v x
def Vj:Cod Bkg:=fun w S x cs=>∃v,cs=(Qz x v).toList∧InnO Qw 3 140 w S v x.fol∧BkIn x
theorem Uc:VV Qw:=fun _ _ _ _ _ _ h=>h
theorem VYa {w:World}{S:Nat→Prop}{x:Cat}{F:List Value}(h:Xya w S x F):Um w S x F:=by
 obtain⟨v,rfl,h,D⟩:=h;obtain⟨A,n,cap,rfl,E⟩:=h.sl Qb ZD;exact⟨A,n,cap,rfl,E,D⟩
theorem Y7a {w:World}{S:Nat→Prop}{x:List Int}{E:List Value}(h:XTa w S x E):slC QL 1 w S x E:=by
 obtain⟨v,rfl,h⟩:=h;obtain⟨A,n,cap,rfl,D⟩:=h.sl Qb ZD;exact⟨A,n,cap,rfl,D⟩
theorem Q9a {w:World}{S:Nat→Prop}{x:Bkg}{F:List Value}(h:Vj w S x F):Vb w S x F:=by
 obtain⟨v,rfl,h,D⟩:=h;obtain⟨A,n,cap,rfl,E⟩:=h.sl Qd Uc;exact⟨A,n,cap,rfl,E,D⟩
theorem ZY:Good Xya:=⟨fun h A=>by
  obtain⟨v,rfl,h,D⟩:=h
  exact⟨v,rfl,h.keep ZD A,D⟩,fun h=>ZB.one (VYa h)⟩
theorem ZZ:Good XTa:=⟨fun h A=>by
  obtain⟨v,rfl,h⟩:=h
  exact⟨v,rfl,h.keep ZD A⟩,fun h=>(Zt Qb (by omega)).one (Y7a h)⟩
theorem Zi:Good Vj:=⟨fun h D=>by
  obtain⟨v,rfl,h,A⟩:=h
  exact⟨v,rfl,h.keep Uc D,A⟩,fun h=>YE.one (Q9a h)⟩
instance catOK:CodK Xya 2:=⟨ZY,by omega⟩
instance rowOK:CodK XTa 1:=⟨ZZ,by omega⟩
instance bkgOK:CodK Vj 11:=⟨Zi,by omega⟩
theorem Xpb:ElemOf Tryz.prog 23 136 4 40:=.mk' Tryz.underlying23 (z:=.agg #[Zb [],.int .i64 0,.int .i64 0,.bool false]) (by kernel_rfl) rfl (by omega)
theorem Xnb:ElemOf Tryz.prog 27 138 2 16:=.mk' Tryz.underlying27 (z:=.agg #[.int .i64 0,.int .i64 0]) (by kernel_rfl) rfl (by omega)
theorem Qwa:ElemOf Tryz.prog 30 63 11 104:=.mk' Tryz.underlying30 (z:=.agg #[.int .i64 0,.int .i64 0,.int .i64 0,.int .i64 0,.bool false,.int .i64 0,.int .i64 0,.int .i64 0,.int .i64 0,.int .i64 0,.slice none 0 0]) (by kernel_rfl) rfl (by omega)
theorem ULb:ElemOf Tryz.prog 22 134 2 40:=.mk' Tryz.underlying22 (z:=.agg #[Zb [],.slice none 0 0]) (by kernel_rfl) rfl (by omega)
theorem Ysb:ElemOf Tryz.prog 26 70 1 24:=.mk' Tryz.underlying26 (z:=.slice none 0 0) (by kernel_rfl) rfl (by omega)
theorem Uyb (A:Option Addr)(n cap:Nat)(l:List Cab)(w:World)(h:Sl ZW 4 w All A n cap l)(O:n*40≤140737488355328) :
  Calls Tryz.prog 219 #[.slice A n cap] w fun e w'=>∃v xs,e=.returned v∧Own ZW 4 136 w' w.heap.size v l xs∧yw w w':=by
 have Q:=fun(W:World) (a:Option Addr)=>Lib.run_eql_slice_nil (P:=Tryz.prog) W 23 136 a n cap 0 0 Tryz.underlying23
 rcases A with _ | a
 ·have F:l=[]:=by
   rcases l with _ | ⟨x,l⟩
   ·rfl
   ·obtain⟨b,U,J,X,_⟩:=h.rd 0 x rfl
    cases X
  subst F
  go_enter Tryz.func219,Tryz.ntmps219
  go_wp2
  go_ret
  exact⟨_,_,rfl,Own.nil _ _ _ _ _,Below.refl _ _⟩
 ·go_enter Tryz.func219,Tryz.ntmps219
  go_wp2_with (at_builtin;refine QC (t:=23) (e:=136) (bytes:=40) rfl (.tmp 5) (.tmp 6) rfl Xpb Zg rfl (Own.made w ZW 4 136 w.heap.size #[] 0 (Nat.le_refl _) (by simp[maxLen]) rfl) rfl (h.below Zg (by omega) ((Below.refl _ _).alloc (Nat.le_refl _) _)) (fun _ _ D=>D) (by simp;omega) (by omega) (by simp) ?_;intro v' w' V I E _)
  go_ret
  exact⟨_,_,rfl,I,QP (Below.alloc (Below.refl _ _) (Nat.le_refl _) _) (Own.made w ZW 4 136 w.heap.size #[] 0 (Nat.le_refl _) (by simp[maxLen]) rfl) E (by simp)⟩
theorem Uxb (A:Option Addr)(n cap:Nat)(l:List Band)(w:World)(h:Sl UH 2 w All A n cap l)(O:n*16≤140737488355328) :
  Calls Tryz.prog 221 #[.slice A n cap] w fun e w'=>∃v xs,e=.returned v∧Own UH 2 138 w' w.heap.size v l xs∧yw w w':=by
 have Q:=fun(W:World) (a:Option Addr)=>Lib.run_eql_slice_nil (P:=Tryz.prog) W 27 138 a n cap 0 0 Tryz.underlying27
 rcases A with _ | a
 ·have F:l=[]:=by
   rcases l with _ | ⟨x,l⟩
   ·rfl
   ·obtain⟨b,U,J,X,_⟩:=h.rd 0 x rfl
    cases X
  subst F
  go_enter Tryz.func221,Tryz.ntmps221
  go_wp2
  go_ret
  exact⟨_,_,rfl,Own.nil _ _ _ _ _,Below.refl _ _⟩
 ·go_enter Tryz.func221,Tryz.ntmps221
  go_wp2_with (at_builtin;refine QC (t:=27) (e:=138) (bytes:=16) rfl (.tmp 5) (.tmp 6) rfl Xnb Qs rfl (Own.made w UH 2 138 w.heap.size #[] 0 (Nat.le_refl _) (by simp[maxLen]) rfl) rfl (h.below Qs (by omega) ((Below.refl _ _).alloc (Nat.le_refl _) _)) (fun _ _ D=>D) (by simp;omega) (by omega) (by simp) ?_;intro v' w' V I E _)
  go_ret
  exact⟨_,_,rfl,I,QP (Below.alloc (Below.refl _ _) (Nat.le_refl _) _) (Own.made w UH 2 138 w.heap.size #[] 0 (Nat.le_refl _) (by simp[maxLen]) rfl) E (by simp)⟩
theorem Blk.row {w:World}{z:Nat}{D:Array Value}{t:TypeId}(h:Blk w z D t)(A:Array Value):Blk (w.setRow z A) z A t:=setRow_heap _ _ _ _ _ _ h
theorem Blk.rowOther {w:World}{b:Nat}{A:Array Value}{t:TypeId}(h:Blk w b A t){z:Nat}(D:b≠z)(E:Array Value):Blk (w.setRow z E) b A t:=(setRow_other _ _ _ _ D).trans h
theorem Kept.setRow {S:Nat→Prop}{a w:World}(h:Kept S a w){z:Nat}(A:S z∨a.heap.size≤z)(F:Array Value):Kept S a (w.setRow z F):=
 ⟨h.os,h.tape,h.output,by simpa using h.size,fun k E D=>(setRow_other _ _ _ _ (by rintro rfl;rcases A with A | A;exact D A;omega)).trans (h.block k E D)⟩
theorem Blk.ld {w:World}{b:Nat}{A:Array Value}{t ty:TypeId}{d:TypeDesc}(h:Blk w b A t)(I:Tryz.prog.underlying ty=some d)(E:(match d with | .struct _ | .array _ _=>true | _=>false)=true)(F:(Tryz.prog.info? ty).map (·.size)=some A.size) :
  (loadVar ty ⟨b,0,none⟩).run Tryz.prog w=.ok (.agg A) w:=by
 have D:w.heap[b]? = some (.cells A t (0,0)):=h
 cases d<;>first | exact run_loadVar_row w b t ty A (0,0) _ D I rfl F | simp at E
theorem Blk.ret {E:Func}{k:Tmp}{ty t:TypeId}(J:E.results=#[.cell k ty]){D:Array Value}{w:World}{g:Nat}{A:Array Value}{d:TypeDesc}(O:Blk w g A t)(U:D.getD k undef=.pointer (some ⟨g,0,none⟩))
  (V:Tryz.prog.underlying ty=some d) (I:(match d with | .struct _ | .array _ _=>true | _=>false)=true) (Q:(Tryz.prog.info? ty).map (·.size)=some A.size):(results E D).run Tryz.prog w=.ok (.agg A) w:=by
 have F:w.heap[g]? = some (.cells A t (0,0)):=O
 cases d<;>first | exact results_cell_row J D w g t A (0,0) _ U F V rfl Q | simp at I
theorem Xlb (b:Bkg)(A:Option Addr)(n cap:Nat):(Qz b (.slice A n cap)).all (·.oneCell')=true:=by simp[Qz,Value.oneCell']
theorem ZAa (b:Bkg)(J:Option Addr)(I O:Nat)(w:World)(hf:Sl Qw 3 w All J I O b.fol)(hn:I≤1000000000) :
  Calls Tryz.prog 171 #[.agg (Qz b (.slice J I O))] w fun e w'=>∃v xs,e=.returned (.agg (Qz b v))∧Own Qw 3 140 w' w.heap.size v b.fol xs∧yw w w':=by
 obtain⟨id,aa,ab,Y,lev,ax,ay,X,upto,ac,Q⟩:=b;simp only at hf;have an:=yh (fun W h=>X3 J I O Q W h hn);have HF:=yh hf;clear hf
 go_enter Tryz.func171,Tryz.ntmps171
 go_upto_region 0 with(fail)
 go_cut [1,2] (fun p p2 wx=>∃h z,p=.pointer (some ⟨h,0,none⟩)∧p2=.pointer (some ⟨z,0,none⟩)∧w.heap.size≤h∧w.heap.size≤z∧h≠z∧Blk wx h (Qz ⟨id,aa,ab,Y,lev,ax,ay,X,upto,ac,Q⟩ (.slice J I O)) 63∧Blk wx z #[.int .i64 0,.int .i64 0,.int .i64 0,.int .i64 0,.bool false,.int .i64 0,.int .i64 0,.int .i64 0,.int .i64 0,.int .i64 0,.slice none 0 0] 63∧yw w wx)
 case first=>as_aux_lemma=>
  go_wp2_with fail
  go_meet
  exact⟨_,_,rfl,rfl,Nat.le_refl _,by omega,by omega,QA _ _ _,QB _ _ _,Zh _ _ _⟩
 obtain⟨h,z,rfl,rfl,hh,hz,av,E,Z,ae⟩:=hcut;have z9:yJ wc h 10 J I O:=E.cell rfl;have ai:=yh (an.out wc (HF.out.bel ae));have ap:=yh E.lt;have ar:=yh Z.lt;have am:=ae.size
 go_wp2_with fail
 refine ai.out.mono ?_;rintro e U ⟨v,xs,rfl,hO,ad⟩;obtain⟨A,F,D,rfl,_⟩:=hO.sl Qd;replace E:=E.bel ad;replace Z:=Z.bel ad;have HB:=yh (ae.trans (ad.mono am));have au:U.frozen? ⟨h,10,none⟩=false:=E.free 10;have aw:yJ U h 10 J I O:=E.cell rfl;have HH:=yh E;have HZ:=yh Z;have HO:=yh hO;clear E Z hO ad z9 ai ae
 go_upto_region 2 with(fail)
 have af:Blk (U.setCell ⟨h,10,none⟩ (.slice A F D)) h (Qz ⟨id,aa,ab,Y,lev,ax,ay,X,upto,ac,Q⟩ (.slice A F D)) 63:=HH.out.set (j:=10) _;have ah:=Blk.other HZ.out (p:=⟨h,10,none⟩) av (.slice A F D);have ag:Kept (fun k=>k=h∨k=z) U (U.setCell ⟨h,10,none⟩ (.slice A F D)):=(Kept.refl _ _).setCell (.inl (.inl rfl)) _;obtain⟨W3,al⟩:∃V,V=U.setCell ⟨h,10,none⟩ (.slice A F D):=⟨_,rfl⟩;rw[←al]at af ah ag ⊢;have aj:=yh ah;have aq:=yh ag;have ao:=yh af;clear al af ah ag au aw
 go_wp2_with (first | (refine wpList_load_row rfl 63 (.tmp 1) rfl h rfl 63 _ (0,0) _ ao.out Tryz.underlying63 rfl (by kernel_rfl) ?_) | (refine wpList_store_row rfl 63 (.tmp 2) (.tmp 7) rfl z (Qz ⟨id,aa,ab,Y,lev,ax,ay,X,upto,ac,Q⟩ (.slice A F D)) rfl rfl 63 _ aj.out (by kernel_rfl) rfl (Xlb _ _ _ _) ?_))
 refine bodyPost_ret (v:=.agg (Qz ⟨id,aa,ab,Y,lev,ax,ay,X,upto,ac,Q⟩ (.slice A F D))) ((aj.out.row _).ret (k:=2) (by kernel_rfl) rfl Tryz.underlying63 (by kernel_rfl) (by kernel_rfl)) rfl ?_;have ak:=aq.out.setRow (z:=z) (.inl (.inr rfl)) (Qz ⟨id,aa,ab,Y,lev,ax,ay,X,upto,ac,Q⟩ (.slice A F D));have h1:=ap.out;have h2:=ar.out;exact⟨_,xs,rfl,(HO.out.kept Qd ak (fun k hk=>by omega)).mono Qd am,HB.out.trans (ak.below HB.out.size (fun k hk=>by omega))⟩
theorem Qdc {D A:World}{base:Nat}{v:Value}{l:List Cat}{xs U:List Value}{x0:Cat}{E:Option Addr}{O F:Nat}(V:Own Xya 2 134 D base v l xs)(Y:base≤D.heap.size)(X:D.heap.size≤A.heap.size)
  (I:Own QL 1 3 A D.heap.size (.slice E O F) x0.high U) (W:x0.name.length≤maxLen) :
  Sl Xya 2 (A.alloc (.cells #[Zb x0.name,.slice E O F] 134)) (QO base v) (some ⟨A.heap.size,0,none⟩) 1 1 [x0]:=by
 have Q:∀k,D.heap.size≤k→some k≠v.ownBlock:=fun k J e=>by have:=(V.lt k e.symm).2;omega
 exact Sl.lit1 A (QO base v) 134 x0 [Zb x0.name,.slice E O F] ⟨_,rfl,⟨U,(I.bel (Qf A _)).mono Qb (Nat.zero_le _),fun k J=>⟨by have:=(I.lt k J).1;omega,Q k (I.lt k J).1⟩⟩,W⟩ ⟨by omega,Q _ X⟩
theorem Qcb (x:Shp)(A:Option Addr)(n cap:Nat)(B:Option Addr)(m aa:Nat)(w:World)(hc:Sl Um 2 w All A n cap x.cats)(hd:Sl ZW 4 w All B m aa x.cabs)(hn:n≤1000)(hm:m≤1000)(hh:∀c∈x.cats,c.high.length≤1000) :
  Calls Tryz.prog 169 #[.agg #[.int .i64 x.legs,.int .i64 x.souls,.slice A n cap,.slice B m aa]] w fun e w'=>∃D I E J Q O ai aw,e=.returned (.agg #[.int .i64 x.legs,.int .i64 x.souls,.slice D I E,.slice J Q O])∧Own Xya 2 134 w' w.heap.size (.slice D I E) x.cats ai∧Own ZW 4 136 w' w.heap.size (.slice J Q O) x.cabs aw∧yw w w':=by
 have aV:=yh (fun W h=>Uyb B m aa x.cabs W h (by omega));have aX:=yh hc.len;have HC:=yh hc;have HD:=yh hd;have HH:=yh hh;clear hh;clear hc hd
 go_enter Tryz.func169,Tryz.ntmps169
 go_upto_region 0 with(fail)
 go_cut [1,2] (fun p p2 wx=>∃g z,p=.pointer (some ⟨g,0,none⟩)∧p2=.pointer (some ⟨z,0,none⟩)∧w.heap.size≤g∧w.heap.size≤z∧g≠z∧Blk wx g #[.int .i64 x.legs,.int .i64 x.souls,.slice A n cap,.slice B m aa] 25∧Blk wx z #[.int .i64 0,.int .i64 0,.slice none 0 0,.slice none 0 0] 25∧yw w wx)
 case first=>as_aux_lemma=>
  go_wp2_with fail
  go_meet
  exact⟨_,_,rfl,rfl,Nat.le_refl _,by omega,by omega,QA _ _ _,QB _ _ _,Zh _ _ _⟩
 obtain⟨g,z,rfl,rfl,hg,hz,bl,hG,U,F⟩:=hcut;obtain⟨W1,a5⟩:∃V,V=wc:=⟨_,rfl⟩;subst a5;have aG:=F.size
 go_upto_region 1 with(fail)
 go_cut [3] (fun p wx=>∃q,p=.pointer (some ⟨q,0,none⟩)∧W1.heap.size≤q∧Blk wx q #[.int .i64 x.legs,.int .i64 x.souls,.slice A n cap,.slice B m aa] 25∧yw W1 wx)
 case first=>as_aux_lemma=>
  go_wp2_with (first | (refine wpList_load_row rfl 25 (.tmp 1) rfl g rfl 25 _ (0,0) _ hG Tryz.underlying25 rfl (by kernel_rfl) ?_) | (refine wpList_store_row rfl 25 (.tmp 3) (.tmp 6) rfl W1.heap.size #[.int .i64 x.legs,.int .i64 x.souls,.slice A n cap,.slice B m aa] rfl rfl 25 _ (Blk.new W1 #[.int .i64 0,.int .i64 0,.slice none 0 0,.slice none 0 0] 25) (by kernel_rfl) rfl (by simp[Value.oneCell']) ?_))
  go_meet
  exact⟨_,rfl,Nat.le_refl _,(Blk.new _ _ _).row _,below_setRow (Qf _ _) (Nat.le_refl _) _⟩
 obtain⟨q,rfl,hq,hQ,ao⟩:=hcut;have bk:=hG.lt;have bo:=U.lt;have bm:=hQ.lt;replace hG:=hG.bel ao;replace U:=U.bel ao;replace F:=F.trans (ao.mono F.size);have aF:=ao.size;clear ao;obtain⟨W2,a6⟩:∃V,V=wc:=⟨_,rfl⟩;subst a6;have g3:yJ W2 g 3 B m aa:=hG.cell rfl;have aU:=yh (aV.out W2 (HD.out.bel F));have HG:=yh hG;clear hG;have HZ:=yh U;clear U;have HQ:=yh hQ;clear hQ
 go_wp2_with fail
 refine aU.out.mono ?_;rintro e Z ⟨vb,aw,rfl,bt,aC⟩;obtain⟨J,Q,O,rfl,_⟩:=bt.sl Zg;have ag:=HQ.out.bel aC;have q2:yJ Z q 2 A n cap:=ag.cell rfl;have q3:yJ Z q 3 B m aa:=ag.cell rfl;have f2:Z.frozen? ⟨q,2,none⟩=false:=ag.free 2;have f3:Z.frozen? ⟨q,3,none⟩=false:=ag.free 3;have a0:=yh ag;have af:=yh bt;have aj:=yh aC;clear ag bt aC g3
 go_upto_region 3 with(fail)
 have aB:Blk ((Z.setCell ⟨q,2,none⟩ (.slice none 0 0)).setCell ⟨q,3,none⟩ (.slice J Q O)) q #[.int .i64 x.legs,.int .i64 x.souls,.slice none 0 0,.slice J Q O] 25:=(a0.out.set (j:=2) _).set (j:=3) _;have hK:Kept (fun k=>k=q) Z ((Z.setCell ⟨q,2,none⟩ (.slice none 0 0)).setCell ⟨q,3,none⟩ (.slice J Q O)):=((Kept.refl (fun k=>k=q) Z).setCell (p:=⟨q,2,none⟩) (.inl rfl) _).setCell (p:=⟨q,3,none⟩) (.inl rfl) _;obtain⟨W4,aK⟩:∃V,V=(Z.setCell ⟨q,2,none⟩ (.slice none 0 0)).setCell ⟨q,3,none⟩ (.slice J Q O):=⟨_,rfl⟩;rw[←aK]at aB hK ⊢;have aH:=(HG.out.bel aj.out).kept hK (by omega);have aL:=(HZ.out.bel aj.out).kept hK (by omega);have aI:=af.out.kept Zg hK (fun k Y=>by omega);have aO:yw w W4:=(F.trans (aj.out.mono F.size)).trans (hK.below (by have:=aj.out.size;omega) (fun k Y=>by omega));have g2:yJ W4 g 2 A n cap:=aH.cell rfl
 have be:W2.heap.size≤W4.heap.size:=by have:=aj.out.size;have:=hK.size;omega
 have a1:=yh aB;clear aB;have a4:=yh aL;clear aL;have aZ:=yh aI;clear aI;have aT:=yh aO;clear aO;clear aK hK aH q2 q3 f2 f3 F
 go_wp2_with fail
 go_loopg [15] n (fun gk i wr=>∃(k:Nat) (D:Option Addr) (I E:Nat) (ai:List Value),k≤n∧n - k≤gk∧i=.int .i64 k∧Blk wr q #[.int .i64 x.legs,.int .i64 x.souls,.slice D I E,.slice J Q O] 25∧Own Xya 2 134 wr W2.heap.size (.slice D I E) (x.cats.take k) ai∧Own ZW 4 136 wr W2.heap.size (.slice J Q O) x.cabs aw∧Apart (.slice J Q O) (.slice D I E)∧Blk wr z #[.int .i64 0,.int .i64 0,.slice none 0 0,.slice none 0 0] 25∧yw w wr∧W2.heap.size≤wr.heap.size)
 case atStart=>exact⟨0,none,0,0,[],Nat.zero_le _,by omega,rfl,a1.out,Own.nil _ _ _ _ _,aZ.out,(Apart.nilL _).symm,a4.out,aT.out,be⟩
 case round=>
  clear g2;obtain⟨k,D,I,E,ai,Y,bj,rfl,hQ,ab,bt,aM,U,F,bn⟩:=hrel
  by_cases hlt:k < n
  ·obtain⟨b,bq,⟨nm,hi⟩,d0,bi,hA,hx,⟨A2,n2,c2,aQ,ah,aD⟩,e0,e1⟩:=(HC.out.bel F).at2 hlt
   simp only[List.cons.injEq,and_true]at aQ;obtain⟨rfl,rfl⟩:=aQ;subst hA;simp only at ah aD e0
   go_upto_region 5 with(fail)
   go_cut [5] (fun p1 wx=>∃y,p1=.pointer (some ⟨y,0,none⟩)∧wr.heap.size≤y∧Blk wx y #[Zb nm,.slice A2 n2 c2] 134∧yw wr wx)
   case first=>as_aux_lemma=>
    go_wp2_with fail
    go_meet
    exact⟨_,rfl,Nat.le_refl _,Za _ _,Qf _ _⟩
   obtain⟨y,rfl,hy,hY,ac⟩:=hcut;have av:=ab.lt
   have aS:y≠q:=by omega
   have bf:some y≠(Value.slice D I E).ownBlock:=fun e=>by have:=(av y e.symm).2;omega
   have bb:some q≠(Value.slice D I E).ownBlock:=fun e=>by have:=(av q e.symm).1;omega
   have bg:some z≠(Value.slice D I E).ownBlock:=fun e=>by have:=(av z e.symm).1;omega
   replace hQ:=hQ.bel ac;replace ab:=ab.bel ac;replace bt:=bt.bel ac;replace U:=U.bel ac;replace F:=F.trans (ac.mono F.size);replace ah:=ah.bel ac
   have aR:W2.heap.size≤wc.heap.size:=by have:=ac.size;omega
   obtain⟨W5,a7⟩:∃V,V=wc:=⟨_,rfl⟩;subst a7;have a9:hi.length≤1000:=HH.out _ (List.mem_of_getElem? hx);have ba:=ah.len;have aW:=yh (fun X (hX:yw W5 X)=>VIa A2 n2 c2 hi X (ah.bel hX) (by omega));have aq:=yh (show ∀X,yw W5 X→(fun w'=>w'.cell? ⟨y,0,none⟩=some (Zb nm)∧yJ w' y 1 A2 n2 c2) X from fun X hX=>⟨(hY.bel hX).cell rfl,(hY.bel hX).cell rfl⟩);have l1:yJ W5 q 2 D I E:=hQ.cell rfl
   have a8:((x.cats.take k).length+1)*40≤140737488355328:=by rw[List.length_take];omega
   have a2:=yh (Qn hx);have ax:=yh hQ;clear hQ;have ap:=yh ab;clear ab;have af:=yh bt;clear bt;have ar:=yh U;clear U;have ae:=yh F;clear F;have a3:=yh hY;clear hY;have aY:=yh aD;clear aD;have bs:yw W5 W5.drew:=(Below.refl _ W5).drew;clear hx ah e0 e1 ac av ba a9
   go_upto_region 6 with(fail)
   refine wp_region_held_drew (S:=(fun w'=>w'.cell? ⟨y,0,none⟩=some (Zb nm)∧yJ w' y 1 A2 n2 c2)) (by kernel_rfl) (aq.out _ bs) (fun ak=>?_);refine yT [0,2,3,4,5] (by kernel_rfl) (by assumption) ?_
   iterate 5 (refine yS (v:=?_) (gA rfl) (fun _ _ _ h=>h) rfl ?_ ?_;rotate_left;(focus (intro w am;(try dsimp only at am);go_simp<;>with_reducible rfl));simp only[yP,yA,yB,yC])
   focus
    refine Qja 1 6 (by kernel_rfl) (gA rfl) (gA rfl) (fun K k1=>?_) (fun K k6=>?_)
    repeat first
     |
      revert k1
      intro hK;go_simp
      refine hK.out _ _ (aq.out _ bs) fun ak=>?_
      clear hK K
      try simp only[yP,yQ,yA,yB,yC]
      first
       | refine UF 6 (by(fail_if_success (fail_if_success decide +kernel));kernel_rfl) (gA rfl) (fun K k6=>?_)
       | refine UF 8 (by(fail_if_success (fail_if_success decide +kernel));kernel_rfl) (gA rfl) (fun K k8=>?_)
       | rotate_left
     |
      revert k6
      intro hK;go_simp
      (go_at_call 220;refine(aW.out _ bs).mono ?_;rintro e w6 ⟨v6,br,rfl,az,aP⟩;obtain⟨A5,n5,c5,rfl,_⟩:=az.sl Qb;replace bs:=bs.trans (aP.mono bs.size);have l2:=Qg bs l1)
      go_wp2_with fail
      refine hK.out _ _ (aq.out _ bs) fun ak=>?_
      clear hK K
      try simp only[yP,yQ,yA,yB,yC]
      refine yT [7] (by kernel_rfl) (by assumption) ?_
      iterate 1 (refine yS (v:=?_) (gA rfl) (fun _ _ _ h=>h) rfl ?_ ?_;rotate_left;(focus (intro w am;(try dsimp only at am);go_simp<;>with_reducible rfl));simp only[yP,yA,yB,yC])
      first
       | refine Qja 1 8 (by(fail_if_success (fail_if_success decide +kernel));kernel_rfl) (gA rfl) (gA rfl) (fun K k1=>?_) (fun K k8=>?_)
       | refine UF 8 (by(fail_if_success (fail_if_success decide +kernel));kernel_rfl) (gA rfl) (fun K k8=>?_)
     |
      revert k8
      intro hK;go_simp
      refine hK.out _ _ (aq.out _ (bs.alloc bs.size (.cells #[Zb nm,.slice A5 n5 c5] 134))) fun ak=>?_
      clear hK K
      try simp only[yP,yQ,yA,yB,yC]
      (have bc:=bs.size;replace bs:=bs.alloc bs.size (.cells #[Zb nm,.slice A5 n5 c5] 134);have l3:=Qg bs l1)
      first
       | refine UF 1 (by(fail_if_success (fail_if_success decide +kernel));kernel_rfl) (gA rfl) (fun K k1=>?_)
       | rotate_left
    all_goals
     refine yR 9 (by kernel_rfl) (gA rfl) fun K hK=>?_
     (have aA:=ap.out.bel bs;have aJ:=Qdc (x0:=⟨nm,hi⟩) ap.out aR bc az aY.out;have bd:=Nat.le_trans aR bs.size;refine Yw (t:=22) (e:=134) (bytes:=40) (base:=W2.heap.size) (c:=Xya) (l:=x.cats.take k) (xs:=ai) (l2:=[⟨nm,hi⟩]) (S:=QO W2.heap.size (.slice D I E)) rfl (.tmp 20) (.tmp 27) rfl ULb ZY rfl rfl aA aJ (fun _ _ h=>h) a8 (by omega) bd ?_;intro v' w7 bh aE ad aN;obtain⟨A8,n8,c8,rfl,_⟩:=aE.sl ZY;have an:=(a3.out.bel bs).grown ad bf;have au:=(ax.out.bel bs).grown ad bb;have m2:yJ w7 q 2 D I E:=au.cell rfl;have mf:w7.frozen? ⟨q,2,none⟩=false:=au.free 2)
     refine hK.out _ _ (⟨an.cell rfl,an.cell rfl⟩) fun ak=>?_
     clear hK K
     try simp only[yP,yQ,yA,yB,yC]
     refine yT [10] (by kernel_rfl) (by assumption) ?_
     iterate 1 (refine yS (v:=?_) (gA rfl) (fun _ _ _ h=>h) rfl ?_ ?_;rotate_left;(focus (intro w am;(try dsimp only at am);go_simp<;>with_reducible rfl));simp only[yP,yA,yB,yC])
     refine yR 11 (by kernel_rfl) (gA rfl) fun K hK=>?_
     go_simp
     refine hK.out _ _ (⟨(an.other (p:=⟨q,2,none⟩) (fun e=>aS e.symm) _).cell rfl,(an.other (p:=⟨q,2,none⟩) (fun e=>aS e.symm) _).cell rfl⟩) fun ak=>?_
     clear hK K
     try simp only[yP,yQ,yA,yB,yC]
     have al:Kept (fun k=>k=q) w7 (w7.setCell ⟨q,2,none⟩ (.slice A8 n8 c8)):=(Kept.refl (fun k=>k=q) w7).setCell (p:=⟨q,2,none⟩) (.inl rfl) _;have p1:=aE.kept ZY al (fun k Y=>by omega);have p2:=((af.out.bel bs).grownF VXa ad aM).kept Zg al (fun k Y=>by omega);have p3:=Apart.step aM (fun k Y=>((af.out.bel bs).lt k Y).2) aN;have p4:=(((ar.out.bel bs).grown ad bg).kept al (by omega));have p5:=(QP (ae.out.trans (bs.mono ae.out.size)) (aA.mono ZY (Nat.le_trans aG aF)) ad (by have:=ae.out.size;omega)).setCell (p:=⟨q,2,none⟩) (show w.heap.size≤q by omega) (.slice A8 n8 c8);have p6:=au.set (j:=2) (.slice A8 n8 c8)
     have p7:W2.heap.size≤(w7.setCell ⟨q,2,none⟩ (.slice A8 n8 c8)).heap.size:=by have:=ad.size;have:=al.size;omega
     rw[←a2.out]at p1;clear aA aJ aE an au m2 mf al ad aN az aP;refine wpAnyH_done (by kernel_rfl) ?_ _
     go_wp2_with fail
     go_roundg (n - (k+1))
     case measure=>omega
     case rel=>exact⟨k+1,A8,n8,c8,bh,by omega,by omega,by go_num,p6,p1,p2,p3,p4,p5,p7⟩
  ·obtain rfl:k=n:=by omega
   rw[List.take_of_length_le (Nat.le_of_eq aX.out)]at ab
   have bp:z < W2.heap.size:=by omega
   have ax:=yh hQ;clear hQ;have ap:=yh ab;clear ab;have af:=yh bt;clear bt;have ar:=yh U;clear U;have ae:=yh F;clear F
   go_wp2_with (first | (refine wpList_load_row rfl 25 (.tmp 3) rfl q rfl 25 _ (0,0) _ ax.out Tryz.underlying25 rfl (by kernel_rfl) ?_) | (refine wpList_store_row rfl 25 (.tmp 2) (.tmp 31) rfl z #[.int .i64 x.legs,.int .i64 x.souls,.slice D I E,.slice J Q O] rfl rfl 25 _ ar.out (by kernel_rfl) rfl (by simp[Value.oneCell']) ?_))
   refine bodyPost_ret (v:=.agg #[.int .i64 x.legs,.int .i64 x.souls,.slice D I E,.slice J Q O]) ((ar.out.row _).ret (k:=2) (by kernel_rfl) rfl Tryz.underlying25 (by kernel_rfl) (by kernel_rfl)) rfl ?_;have ay:Kept (fun k=>k=z) wr (wr.setRow z #[.int .i64 x.legs,.int .i64 x.souls,.slice D I E,.slice J Q O]):=(Kept.refl (fun k=>k=z) wr).setRow (.inl rfl) _;exact⟨D,I,E,J,Q,O,ai,aw,rfl,(ap.out.kept ZY ay (fun k Y=>by omega)).mono ZY (Nat.le_trans aG aF),(af.out.kept Zg ay (fun k Y=>by omega)).mono Zg (Nat.le_trans aG aF),ae.out.trans (ay.below ae.out.size (fun k Y=>by omega))⟩
theorem QQc {D A:World}{base:Nat}{v:Value}{l:List (List Int)}{xs U:List Value}{x0:List Int}{E:Option Addr}{O F:Nat}(V:Own XTa 1 70 D base v l xs)(X:base≤D.heap.size)(W:D.heap.size≤A.heap.size)
  (I:Own QL 1 3 A D.heap.size (.slice E O F) x0 U) :
  Sl XTa 1 (A.alloc (.cells #[.slice E O F] 70)) (QO base v) (some ⟨A.heap.size,0,none⟩) 1 1 [x0]:=by
 have Q:∀k,D.heap.size≤k→some k≠v.ownBlock:=fun k J e=>by have:=(V.lt k e.symm).2;omega
 exact Sl.lit1 A (QO base v) 70 x0 [.slice E O F] ⟨_,rfl,⟨U,(I.bel (Qf A _)).mono Qb (Nat.zero_le _),fun k J=>⟨by have:=(I.lt k J).1;omega,Q k (I.lt k J).1⟩⟩⟩ ⟨by omega,Q _ W⟩
instance bndK:CodK UH 2:=⟨Qs,by omega⟩
theorem YBa (x:Fares)(A:Option Addr)(n cap:Nat)(B:Option Addr)(m Z:Nat)(w:World)(hf:FareR w A n cap x B m Z)(hn:n≤1000)(hm:m≤1000)(hh:∀c∈x.leg,c.length≤1000) :
  Calls Tryz.prog 170 #[.agg #[.slice A n cap,.int .i64 x.alone,.int .i64 x.third,.slice B m Z,.int .i64 x.down]] w fun e w'=>∃D F E I Q J ag ao,e=.returned (.agg #[.slice D F E,.int .i64 x.alone,.int .i64 x.third,.slice I Q J,.int .i64 x.down])∧Own XTa 1 70 w' w.heap.size (.slice D F E) x.leg ag∧Own UH 2 138 w' w.heap.size (.slice I Q J) x.bands ao∧yw w w':=by
 have hc:=hf.leg;have aQ:=yh (fun W h=>Uxb B m Z x.bands W h (by omega));have aS:=yh hc.len;have HC:=yh hc;have HD:=yh hf.bands;have HH:=yh hh;clear hh;clear hc hf
 go_enter Tryz.func170,Tryz.ntmps170
 go_upto_region 0 with(fail)
 go_cut [1,2] (fun p p2 wx=>∃g z,p=.pointer (some ⟨g,0,none⟩)∧p2=.pointer (some ⟨z,0,none⟩)∧w.heap.size≤g∧w.heap.size≤z∧g≠z∧Blk wx g #[.slice A n cap,.int .i64 x.alone,.int .i64 x.third,.slice B m Z,.int .i64 x.down] 29∧Blk wx z #[.slice none 0 0,.int .i64 0,.int .i64 0,.slice none 0 0,.int .i64 0] 29∧yw w wx)
 case first=>as_aux_lemma=>
  go_wp2_with fail
  go_meet
  exact⟨_,_,rfl,rfl,Nat.le_refl _,by omega,by omega,QA _ _ _,QB _ _ _,Zh _ _ _⟩
 obtain⟨g,z,rfl,rfl,hg,hz,bd,hG,hZ,O⟩:=hcut;obtain⟨W1,aY⟩:∃V,V=wc:=⟨_,rfl⟩;subst aY;have aC:=O.size
 go_upto_region 1 with(fail)
 go_cut [3] (fun p wx=>∃q,p=.pointer (some ⟨q,0,none⟩)∧W1.heap.size≤q∧Blk wx q #[.slice A n cap,.int .i64 x.alone,.int .i64 x.third,.slice B m Z,.int .i64 x.down] 29∧yw W1 wx)
 case first=>as_aux_lemma=>
  go_wp2_with (first | (refine wpList_load_row rfl 29 (.tmp 1) rfl g rfl 29 _ (0,0) _ hG Tryz.underlying29 rfl (by kernel_rfl) ?_) | (refine wpList_store_row rfl 29 (.tmp 3) (.tmp 6) rfl W1.heap.size #[.slice A n cap,.int .i64 x.alone,.int .i64 x.third,.slice B m Z,.int .i64 x.down] rfl rfl 29 _ (Blk.new W1 #[.slice none 0 0,.int .i64 0,.int .i64 0,.slice none 0 0,.int .i64 0] 29) (by kernel_rfl) rfl (by simp[Value.oneCell']) ?_))
  go_meet
  exact⟨_,rfl,Nat.le_refl _,(Blk.new _ _ _).row _,below_setRow (Qf _ _) (Nat.le_refl _) _⟩
 obtain⟨q,rfl,hq,hQ,ak⟩:=hcut;have bc:=hG.lt;have bf:=hZ.lt;have be:=hQ.lt;replace hG:=hG.bel ak;replace hZ:=hZ.bel ak;replace O:=O.trans (ak.mono O.size);have aB:=ak.size;clear ak;obtain⟨U,aZ⟩:∃V,V=wc:=⟨_,rfl⟩;subst aZ;have g3:yJ U g 3 B m Z:=hG.cell rfl;have aP:=yh (aQ.out U (HD.out.below Qs (by omega) O));have HG:=yh hG;clear hG;have HZ:=yh hZ;clear hZ;have HQ:=yh hQ;clear hQ
 go_wp2_with fail
 refine aP.out.mono ?_;rintro e Y ⟨vb,ao,rfl,aa,ax⟩;obtain⟨I,Q,J,rfl,_⟩:=aa.sl Qs;have ae:=HQ.out.bel ax;have q2:yJ Y q 0 A n cap:=ae.cell rfl;have q3:yJ Y q 3 B m Z:=ae.cell rfl;have f2:Y.frozen? ⟨q,0,none⟩=false:=ae.free 0;have f3:Y.frozen? ⟨q,3,none⟩=false:=ae.free 3;have aU:=yh ae;have ac:=yh aa;have ah:=yh ax;clear ae aa ax g3
 go_upto_region 3 with(fail)
 have av:Blk ((Y.setCell ⟨q,0,none⟩ (.slice none 0 0)).setCell ⟨q,3,none⟩ (.slice I Q J)) q #[.slice none 0 0,.int .i64 x.alone,.int .i64 x.third,.slice I Q J,.int .i64 x.down] 29:=(aU.out.set (j:=0) _).set (j:=3) _;have hK:Kept (fun k=>k=q) Y ((Y.setCell ⟨q,0,none⟩ (.slice none 0 0)).setCell ⟨q,3,none⟩ (.slice I Q J)):=((Kept.refl (fun k=>k=q) Y).setCell (p:=⟨q,0,none⟩) (.inl rfl) _).setCell (p:=⟨q,3,none⟩) (.inl rfl) _;obtain⟨W4,aG⟩:∃V,V=(Y.setCell ⟨q,0,none⟩ (.slice none 0 0)).setCell ⟨q,3,none⟩ (.slice I Q J):=⟨_,rfl⟩;rw[←aG]at av hK ⊢;have aD:=(HG.out.bel ah.out).kept hK (by omega);have aH:=(HZ.out.bel ah.out).kept hK (by omega);have aE:=ac.out.kept Qs hK (fun k hk=>by omega);have aK:yw w W4:=(O.trans (ah.out.mono O.size)).trans (hK.below (by have:=ah.out.size;omega) (fun k hk=>by omega));have g2:yJ W4 g 0 A n cap:=aD.cell rfl
 have a7:U.heap.size≤W4.heap.size:=by have:=ah.out.size;have:=hK.size;omega
 have aV:=yh av;clear av;have aX:=yh aH;clear aH;have aT:=yh aE;clear aE;have aO:=yh aK;clear aK;clear aG hK aD q2 q3 f2 f3 O
 go_wp2_with fail
 go_loopg [15] n (fun gk i wr=>∃(k:Nat) (D:Option Addr) (F E:Nat) (ag:List Value),k≤n∧n - k≤gk∧i=.int .i64 k∧Blk wr q #[.slice D F E,.int .i64 x.alone,.int .i64 x.third,.slice I Q J,.int .i64 x.down] 29∧Own XTa 1 70 wr U.heap.size (.slice D F E) (x.leg.take k) ag∧Own UH 2 138 wr U.heap.size (.slice I Q J) x.bands ao∧Apart (.slice I Q J) (.slice D F E)∧Blk wr z #[.slice none 0 0,.int .i64 0,.int .i64 0,.slice none 0 0,.int .i64 0] 29∧yw w wr∧U.heap.size≤wr.heap.size)
 case atStart=>exact⟨0,none,0,0,[],Nat.zero_le _,by omega,rfl,aV.out,Own.nil _ _ _ _ _,aT.out,(Apart.nilL _).symm,aX.out,aO.out,a7⟩
 case round=>
  clear g2;obtain⟨k,D,F,E,ag,hk,bb,rfl,hQ,ad,aa,aI,hZ,O,a8⟩:=hrel
  by_cases hlt:k < n
  ·obtain⟨b,bh,hi,d0,hA,hx,⟨A2,n2,c2,aM,aA⟩,e0⟩:=(HC.out.below (Zt Qb (by omega)) (by omega) O).at1 hlt
   simp only[List.cons.injEq,and_true]at aM;subst aM;subst hA
   go_upto_region 5 with(fail)
   go_cut [5] (fun p1 wx=>p1=.slice A2 n2 c2∧wr=wx)
   case first=>as_aux_lemma=>
    go_wp2_with fail
    go_meet
    exact⟨rfl,rfl⟩
   obtain⟨rfl,rfl⟩:=hcut;have ay:=ad.lt
   have a4:some q≠(Value.slice D F E).ownBlock:=fun e=>by have:=(ay q e.symm).1;omega
   have a9:some z≠(Value.slice D F E).ownBlock:=fun e=>by have:=(ay z e.symm).1;omega
   obtain⟨W5,a0⟩:∃V,V=wr:=⟨_,rfl⟩;subst a0;have aN:=a8;have a2:hi.length≤1000:=HH.out _ (List.mem_of_getElem? hx);have a3:=aA.len;have aR:=yh (fun X (hX:yw W5 X)=>VIa A2 n2 c2 hi X (aA.bel hX) (by omega));have l1:yJ W5 q 0 D F E:=hQ.cell rfl
   have a1:((x.leg.take k).length+1)*24≤140737488355328:=by rw[List.length_take];omega
   have aW:=yh (Qn hx);have ap:=yh hQ;clear hQ;have al:=yh ad;clear ad;have ac:=yh aa;clear aa;have am:=yh hZ;clear hZ;have ab:=yh O;clear O;have bj:yw W5 W5.drew:=(Below.refl _ W5).drew;clear hx aA e0 ay a3 a2
   go_upto_region 6 with(fail)
   refine wp_region_held_drew (S:=(fun _=>True)) (by kernel_rfl) (trivial) (fun ai=>?_);refine yT [0,2] (by kernel_rfl) (by assumption) ?_
   iterate 2 (refine yS (v:=?_) (gA rfl) (fun _ _ _ h=>h) rfl ?_ ?_;rotate_left;(focus (intro w aw;(try dsimp only at aw);go_simp<;>with_reducible rfl));simp only[yP,yA,yB,yC])
   focus
    refine Qja 1 3 (by kernel_rfl) (gA rfl) (gA rfl) (fun K k1=>?_) (fun K k3=>?_)
    repeat first
     |
      revert k1
      intro hK;go_simp
      refine hK.out _ _ (trivial) fun ai=>?_
      clear hK K
      try simp only[yP,yQ,yA,yB,yC]
      first
       | refine UF 3 (by(fail_if_success (fail_if_success decide +kernel));kernel_rfl) (gA rfl) (fun K k3=>?_)
       | refine UF 4 (by(fail_if_success (fail_if_success decide +kernel));kernel_rfl) (gA rfl) (fun K k4=>?_)
       | rotate_left
     |
      revert k3
      intro hK;go_simp
      (go_at_call 220;refine(aR.out _ bj).mono ?_;rintro e w6 ⟨v6,bi,rfl,ar,aL⟩;obtain⟨A5,n5,c5,rfl,_⟩:=ar.sl Qb;replace bj:=bj.trans (aL.mono bj.size);have l2:=Qg bj l1)
      go_wp2_with fail
      refine hK.out _ _ (trivial) fun ai=>?_
      clear hK K
      try simp only[yP,yQ,yA,yB,yC]
      first
       | refine Qja 1 4 (by(fail_if_success (fail_if_success decide +kernel));kernel_rfl) (gA rfl) (gA rfl) (fun K k1=>?_) (fun K k4=>?_)
       | refine UF 4 (by(fail_if_success (fail_if_success decide +kernel));kernel_rfl) (gA rfl) (fun K k4=>?_)
     |
      revert k4
      intro hK;go_simp
      refine hK.out _ _ (trivial) fun ai=>?_
      clear hK K
      try simp only[yP,yQ,yA,yB,yC]
      (have a5:=bj.size;replace bj:=bj.alloc bj.size (.cells #[.slice A5 n5 c5] 70);have l3:=Qg bj l1)
      first
       | refine UF 1 (by(fail_if_success (fail_if_success decide +kernel));kernel_rfl) (gA rfl) (fun K k1=>?_)
       | rotate_left
    all_goals
     refine yR 5 (by kernel_rfl) (gA rfl) fun K hK=>?_
     (have au:=al.out.bel bj;have aF:=QQc (x0:=hi) al.out aN a5 ar;have a6:=Nat.le_trans aN bj.size;refine Yw (t:=26) (e:=70) (bytes:=24) (base:=U.heap.size) (c:=XTa) (l:=x.leg.take k) (xs:=ag) (l2:=[hi]) (S:=QO U.heap.size (.slice D F E)) rfl (.tmp 20) (.tmp 23) rfl Ysb ZZ rfl rfl au aF (fun _ _ h=>h) a1 (by omega) a6 ?_;intro v' w7 ba az af aJ;obtain⟨A8,n8,c8,rfl,_⟩:=az.sl ZZ;have an:=(ap.out.bel bj).grown af a4;have m2:yJ w7 q 0 D F E:=an.cell rfl;have mf:w7.frozen? ⟨q,0,none⟩=false:=an.free 0)
     refine hK.out _ _ (trivial) fun ai=>?_
     clear hK K
     try simp only[yP,yQ,yA,yB,yC]
     refine yT [6] (by kernel_rfl) (by assumption) ?_
     iterate 1 (refine yS (v:=?_) (gA rfl) (fun _ _ _ h=>h) rfl ?_ ?_;rotate_left;(focus (intro w aw;(try dsimp only at aw);go_simp<;>with_reducible rfl));simp only[yP,yA,yB,yC])
     refine yR 7 (by kernel_rfl) (gA rfl) fun K hK=>?_
     go_simp
     refine hK.out _ _ (trivial) fun ai=>?_
     clear hK K
     try simp only[yP,yQ,yA,yB,yC]
     have aj:Kept (fun k=>k=q) w7 (w7.setCell ⟨q,0,none⟩ (.slice A8 n8 c8)):=(Kept.refl (fun k=>k=q) w7).setCell (p:=⟨q,0,none⟩) (.inl rfl) _;have p1:=az.kept ZZ aj (fun k hk=>by omega);have p2:=((ac.out.bel bj).grownF Uza af aI).kept Qs aj (fun k hk=>by omega);have p3:=Apart.step aI (fun k hk=>((ac.out.bel bj).lt k hk).2) aJ;have p4:=(((am.out.bel bj).grown af a9).kept aj (by omega));have p5:=(QP (ab.out.trans (bj.mono ab.out.size)) (au.mono ZZ (Nat.le_trans aC aB)) af (by have:=ab.out.size;omega)).setCell (p:=⟨q,0,none⟩) (show w.heap.size≤q by omega) (.slice A8 n8 c8);have p6:=an.set (j:=0) (.slice A8 n8 c8)
     have p7:U.heap.size≤(w7.setCell ⟨q,0,none⟩ (.slice A8 n8 c8)).heap.size:=by have:=af.size;have:=aj.size;omega
     rw[←aW.out]at p1;clear au aF az an m2 mf aj af aJ ar aL;refine wpAnyH_done (by kernel_rfl) ?_ _
     go_wp2_with fail
     go_roundg (n - (k+1))
     case measure=>omega
     case rel=>exact⟨k+1,A8,n8,c8,ba,by omega,by omega,by go_num,p6,p1,p2,p3,p4,p5,p7⟩
  ·obtain rfl:k=n:=by omega
   rw[List.take_of_length_le (Nat.le_of_eq aS.out)]at ad
   have bg:z < U.heap.size:=by omega
   have ap:=yh hQ;clear hQ;have al:=yh ad;clear ad;have ac:=yh aa;clear aa;have am:=yh hZ;clear hZ;have ab:=yh O;clear O
   go_wp2_with (first | (refine wpList_load_row rfl 29 (.tmp 3) rfl q rfl 29 _ (0,0) _ ap.out Tryz.underlying29 rfl (by kernel_rfl) ?_) | (refine wpList_store_row rfl 29 (.tmp 2) (.tmp 27) rfl z #[.slice D F E,.int .i64 x.alone,.int .i64 x.third,.slice I Q J,.int .i64 x.down] rfl rfl 29 _ am.out (by kernel_rfl) rfl (by simp[Value.oneCell']) ?_))
   refine bodyPost_ret (v:=.agg #[.slice D F E,.int .i64 x.alone,.int .i64 x.third,.slice I Q J,.int .i64 x.down]) ((am.out.row _).ret (k:=2) (by kernel_rfl) rfl Tryz.underlying29 (by kernel_rfl) (by kernel_rfl)) rfl ?_;have aq:Kept (fun k=>k=z) wr (wr.setRow z #[.slice D F E,.int .i64 x.alone,.int .i64 x.third,.slice I Q J,.int .i64 x.down]):=(Kept.refl (fun k=>k=z) wr).setRow (.inl rfl) _;exact⟨D,F,E,I,Q,J,ag,ao,rfl,(al.out.kept ZZ aq (fun k hk=>by omega)).mono ZZ (Nat.le_trans aC aB),(ac.out.kept Qs aq (fun k hk=>by omega)).mono Qs (Nat.le_trans aC aB),ab.out.trans (aq.below ab.out.size (fun k hk=>by omega))⟩
end Go.Proofs.YtjdcokpmgionjaaGreat
