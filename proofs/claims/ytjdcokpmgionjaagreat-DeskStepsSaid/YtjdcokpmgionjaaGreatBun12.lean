/-
  Laws and contracts.
-/
import Derived.Test.YtjdcokpmgionjaaGreatBun11
set_option linter.unusedSimpArgs false
set_option linter.unusedVariables false
set_option maxRecDepth 100000
set_option maxHeartbeats 20000000
namespace Go.Proofs.YtjdcokpmgionjaaGreat
open Proofs.Tryz Go.RowKit Go.Shelf
def avC {α:Type} (G:Nat→Prop) (c:Cod α):Cod α:=fun w S x cs=>c w (fun k=>S k∧¬G k) x cs
section
variable {α:Type} {c:Cod α} {size:Nat} {e:TypeId} {w w':World} {base:Nat} {v:Value} {l:List α} {xs:List Value} {G:Nat→Prop}
theorem Yua (D:Good c):Good (avC G c):=⟨fun h E=>D.keep h fun b A F=>⟨(E b A.1 F).1,(E b A.1 F).2,A.2⟩,fun h=>D.one h⟩
instance avK [k:CodK c size]:CodK (avC G c) size:=⟨Yua k.good,k.pos⟩
theorem Own.avoid (h:Own c size e w base v l xs)(F:Good c)(A:∀k,k<w.heap.size→¬G k):Own (avC G c) size e w base v l xs:=
 ⟨h.row,fun i x J=>by
  obtain⟨cs,E,r⟩:=h.el i x J
  exact⟨cs,F.keep E fun b D I=>⟨rfl,D,A b I⟩,r⟩⟩
theorem Own.unav (h:Own (avC G c) size e w base v l xs)(E:Good c):Own c size e w base v l xs:=
 ⟨h.row,fun i x F=>by
  obtain⟨cs,D,r⟩:=h.el i x F
  exact⟨cs,E.keep D fun b A I=>⟨rfl,A.1⟩,r⟩⟩
theorem Own.keptX {S:Nat→Prop}(h:Own (avC G c) size e w base v l xs)(V:Good c)(F:Kept S w w')(Q:∀k,S k→G k)(X:∀k,v.ownBlock=some k→¬S k):Own (avC G c) size e w' base v l xs:=by
 refine⟨⟨h.row.1,?_⟩,fun i x Y=>?_⟩
 ·rcases h.row.2 with O|⟨g,cap,J,I,A,E,r⟩
  ·exact .inl O
  ·exact .inr ⟨g,cap,J,I,A,(F.block g (Array.getElem?_eq_some_iff.1 E).1 (X g (by rw[I];rfl))).trans E,r⟩
 ·obtain⟨cs,U,r⟩:=h.el i x Y;exact⟨cs,V.keep U fun b D W=>⟨F.block b W (fun A=>D.2 (Q b A)),D⟩,r⟩
end
theorem Own.neTy {α:Type}{c:Cod α}{size:Nat}{e t:TypeId}{w:World}{base:Nat}{v:Value}{l:List α}{xs:List Value}{k:Nat}{cs:Array Value}(h:Own c size e w base v l xs)(E:Blk w k cs t)(I:t≠e):v.ownBlock≠some k:=by
 intro D;rcases h.row.2 with⟨rfl,_⟩|⟨g,cap,J,rfl,_,F,_⟩
 ·simp[Value.ownBlock]at D
 ·obtain rfl:g=k:=by simpa [Value.ownBlock] using D
  have A:w.heap[g]? = some (.cells cs t (0,0)):=E;rw[F]at A;simp only[Option.some.injEq,Obj.cells.injEq]at A;exact I A.2.1.symm
theorem Kept.thn {S T:Nat→Prop}{a b c:World}(h:Kept S a b)(k:Kept T b c)(E:∀i,i<a.heap.size→T i→S i):Kept S a c:=
 ⟨k.os.trans h.os,k.tape.trans h.tape,k.output.trans h.output,Nat.le_trans h.size k.size,fun i A D=>(k.block i (Nat.lt_of_lt_of_le A h.size) (fun F=>D (E i A F))).trans (h.block i A D)⟩
def XS (l:List Bkg) (b:Bkg):List Bkg:=l.take (Ze l b.id)++b::l.drop (Ze l b.id)
def Q4 (x:Sai) (b:Bkg):Sai:={ x with bks:=XS x.bks b }
theorem Vwa (w0:World)(b0:Nat)(x:Sai)(p:SaiV)(b:Bkg)(A3:Option Addr)(n3 c3:Nat)(base:Nat)(w:World)(ho:SaiW w0 b0 w base x p)(ba:base≤w.heap.size)(hr:Xj x.bks)(aQ:∀b∈x.bks,1≤b.id∧b.id≤999999)(aF:x.bks.length≤16)
  (hf:Sl Qm 3 w All A3 n3 c3 b.fol) (bf:n3≤1000000000) (hI:BkIn b) (a8:1≤b.id∧b.id≤999999) :
  Calls prog 142 #[.agg (Qa x p),.agg (Qk b (.slice A3 n3 c3))] w fun e w'=>∃p',e=.returned (.agg (Qa (Q4 x b) p'))∧SaiW w0 b0 w' base (Q4 x b) p'∧Below base w w'∧Kept (fun k=>(Value.slice p.C p.nb p.cb).ownBlock=some k) w w':=by
 obtain⟨A,n,cap,B,m,aa,D,nd,cd,E,ne,ce,C,nb,cb⟩:=p;obtain⟨id,J,O,I,lev,bz,bA,F,upto,Q,Z⟩:=b;simp only at hf a8;obtain⟨k1,k2,k3,k4,k5,bw,k6⟩:=ho;simp only at k6;obtain⟨ac,ak⟩:∃q,q=w0.heap.size:=⟨_,rfl⟩;rw[←ak]at k2 k3 k4 k6;have aC:=yh (fun W hl=>XY x ⟨A,n,cap,B,m,aa,D,nd,cd,E,ne,ce,C,nb,cb⟩ id W hl hr aQ aF (.of (by omega) (by omega)));have aS:Vn id:=⟨by omega,by omega⟩;obtain⟨bn,bi⟩:=yE w;have HF:=yh hf;clear hf;have a0:=yh k4;clear k4;have ab:=yh k5;clear k5;have aU:=yh ak;clear ak;have a2:=yh aF;have aY:=yh hI;have bp:=yh (show Ze x.bks id≤x.bks.length from List.findIdx_le_length);clear hr aQ hI bi bn;go_enter func142,ntmps142;go_upto_region 0 with(fail);go_cut [2,3,4] (fun p p2 p3 wx=>∃g h z,yp p g∧yp p2 h∧yp p3 z∧w.heap.size≤g∧w.heap.size≤h∧w.heap.size≤z∧g≠h∧g≠z∧h≠z∧Blk wx g (Qa x ⟨A,n,cap,B,m,aa,D,nd,cd,E,ne,ce,C,nb,cb⟩) 32∧Blk wx h (Qk ⟨id,J,O,I,lev,bz,bA,F,upto,Q,Z⟩ (.slice A3 n3 c3)) 63∧Blk wx z M9 32∧yw w wx)
 case first=>as_aux_lemma=>
  go_wp2_with fail;go_meet;exact⟨_,_,_,rfl,rfl,rfl,J5 _,by omega,by omega,by omega,by omega,by omega,Vc _ _ _ _,Vd _ _ _ _,Ve _ _ _ _,X0 _ _ _ _⟩
 obtain⟨g,h,z,rfl,rfl,rfl,hg,hh,hz,bb,bc,bs,V,hH,hZ,hb⟩:=hcut;have an:=(k6.avoid Zp (G:=(fun k=>k=g∨k=h∨k=z)) (fun k hk=>by omega)).bel hb;have be:=an.lt;have aB:=yh (fun k (hk:(Value.slice C nb cb).ownBlock=some k)=>(show k<w.heap.size from(k6.lt k hk).2));have a4:=yh (fun k (hk:(Value.slice C nb cb).ownBlock=some k)=>(show ac≤k from(k6.lt k hk).1));have aD:=yh (show Sl ZP 11 wc All C nb cb x.bks from(an.unav Zp).slAll Zp Xa (by omega) (fun h=>Zza h) rfl);have s0:yI wc g 0 x.ship.legs:=V.cell rfl;have s1:yI wc g 1 x.ship.souls:=V.cell rfl;have s2:yJ wc g 2 A n cap:=V.cell rfl;have s3:yJ wc g 3 B m aa:=V.cell rfl;have s4:yJ wc g 4 D nd cd:=V.cell rfl;have s5:yI wc g 5 x.fares.alone:=V.cell rfl;have s6:yI wc g 6 x.fares.third:=V.cell rfl;have s7:yJ wc g 7 E ne ce:=V.cell rfl;have s8:yI wc g 8 x.fares.down:=V.cell rfl;have s9:yI wc g 9 x.day:=V.cell rfl;have bk:yI wc g 10 x.leaves:=V.cell rfl;have bl:yJ wc g 11 C nb cb:=V.cell rfl;have bm:wc.cell? ⟨g,12,none⟩=some (.bool x.closed):=V.cell rfl;have z0:yI wc h 0 id:=hH.cell rfl;have ay:=yh (aC wc aD);have HG:=yh V;clear V;have HH:=yh hH;clear hH;have HZ:=yh hZ;clear hZ;have HO:=yh an;clear an;have bj:=hb.size;have HB:=yh hb;clear be k6 hb;go_wp2_with fail;refine ay.mono ?_;rintro e w2 ⟨i,rfl,hi,hp,ag⟩;obtain rfl:i=Ze x.bks id:=hp aS;obtain⟨i,av⟩:=yE (Ze x.bks id);rw[←av]at hi ⊢;have aX:=yh av;clear av;have aZ:=yh hi;clear hi;have V:=HG.bel ag;have hH:=HH.bel ag;have hZ:=HZ.bel ag;have hO:=HO.bel ag;have al:=HB.trans (ag.mono HB.size);clear s0 s1 s2 s3 s4 s5 s6 s7 s8 s9 bk bl bm z0 ay hp HG HH HZ HO HB ag bj aC aD aS;obtain⟨W2,a7⟩:=yE w2;subst a7;have bu:=al.size;have af:=yh (show ∀X,Blk X h (Qk ⟨id,J,O,I,lev,bz,bA,F,upto,Q,Z⟩ (.slice A3 n3 c3)) 63→(fun w'=>yI w' h 0 id∧yI w' h 1 J∧yI w' h 2 O∧yI w' h 3 I∧w'.cell? ⟨h,4,none⟩=some (.bool lev)∧yI w' h 5 bz∧yI w' h 6 bA∧yI w' h 7 F∧yI w' h 8 upto∧yI w' h 9 Q∧yJ w' h 10 A3 n3 c3) X from fun X hX=>⟨hX.cell rfl,hX.cell rfl,hX.cell rfl,hX.cell rfl,hX.cell rfl,hX.cell rfl,hX.cell rfl,hX.cell rfl,hX.cell rfl,hX.cell rfl,hX.cell rfl⟩);have aV:=yh (fun X (hX:yw W2 X)=>Z0a ⟨id,J,O,I,lev,bz,bA,F,upto,Q,Z⟩ A3 n3 c3 X (HF.bel (al.trans (hX.mono al.size))) bf);have l1:yJ W2 g 11 C nb cb:=V.cell rfl
 have bt:ac≤W2.heap.size:=by omega
 have az:=yh V;clear V;have ae:=yh hH;clear hH;have aE:=yh hZ;clear hZ;have a3:=yh hO;clear hO;have ax:=yh al;clear al;go_upto_region 2 with(fail);go_cut [2] (fun q wx=>yp q g∧∃C1 Y bB ad,Blk wx g (Qa (Q4 x ⟨id,J,O,I,lev,bz,bA,F,upto,Q,Z⟩) ⟨A,n,cap,B,m,aa,D,nd,cd,E,ne,ce,C1,Y,bB⟩) 32∧Own (avC (fun k=>k=g∨k=h∨k=z) VU) 11 63 wx ac (.slice C1 Y bB) (XS x.bks ⟨id,J,O,I,lev,bz,bA,F,upto,Q,Z⟩) ad∧Blk wx z M9 32∧Kept (fun k=>(Value.slice C nb cb).ownBlock=some k) w wx)
 case first=>
  have U:yw W2 W2.drew:=(J4 _ W2).drew;refine yZ (S:=(fun w'=>yI w' h 0 id∧yI w' h 1 J∧yI w' h 2 O∧yI w' h 3 I∧w'.cell? ⟨h,4,none⟩=some (.bool lev)∧yI w' h 5 bz∧yI w' h 6 bA∧yI w' h 7 F∧yI w' h 8 upto∧yI w' h 9 Q∧yJ w' h 10 A3 n3 c3)) (af _ (ae.bel U)) fun ai=>?_;refine yT [0,2,3] ?_;iterate 3 (refine yS ?_;simp only[yU])
  focus
   refine yr2 1 4 (fun K k1=>?_) (fun K k4=>?_)
   repeat first
    |
     revert k1
     intro hK;go_simp;refine hK.out _ _ (af _ (ae.bel U)) fun ai=>?_;clear hK K
     try simp only[yU]
     first
      | refine yt1 4 (fun K k4=>?_)
      | refine yt1 5 (fun K k5=>?_)
      | rotate_left
    |
     revert k4
     intro hK;go_simp
     (go_at_call 171;refine(aV _ U).mono ?_;rintro e w6 ⟨v6,bo,rfl,ar,a9⟩;obtain⟨A5,n5,c5,rfl,_⟩:=ar.sl Qb;replace U:=U.trans (a9.mono U.size);have l2:=Qh U l1)
     go_wp2_with fail;refine hK.out _ _ (af _ (ae.bel U)) fun ai=>?_;clear hK K
     try simp only[yU]
     first
      | refine yt2 1 5 (fun K k1=>?_) (fun K k5=>?_)
      | refine yt1 5 (fun K k5=>?_)
    |
     revert k5
     intro hK;go_simp;refine hK.out _ _ (af _ (ae.bel (U.alloc U.size (.cells #[.int .i64 id,.int .i64 J,.int .i64 O,.int .i64 I,.bool lev,.int .i64 bz,.int .i64 bA,.int .i64 F,.int .i64 upto,.int .i64 Q,.slice A5 n5 c5] 63)))) fun ai=>?_;clear hK K
     try simp only[yU]
     (have bg:=U.size;replace U:=U.alloc U.size (.cells #[.int .i64 id,.int .i64 J,.int .i64 O,.int .i64 I,.bool lev,.int .i64 bz,.int .i64 bA,.int .i64 F,.int .i64 upto,.int .i64 Q,.slice A5 n5 c5] 63);have l3:=Qh U l1)
     first
      | refine yt1 1 (fun K k1=>?_)
      | rotate_left
   all_goals
    have aL:=a3.bel U
    have aw:∀k,w.heap.size≤k→¬((Value.slice C nb cb).ownBlock=some k):=fun k hk e=>by have:=aB k e;omega
    have aR:∀k,W2.heap.size≤k→some k≠(Value.slice C nb cb).ownBlock:=fun k hk e=>by have:=aB k e.symm;omega
    have bq:=az.lt;have br:=ae.lt;have bv:=aE.lt
    have aP:avC (fun k=>k=g∨k=h∨k=z) VU (w6.alloc (.cells #[.int .i64 id,.int .i64 J,.int .i64 O,.int .i64 I,.bool lev,.int .i64 bz,.int .i64 bA,.int .i64 F,.int .i64 upto,.int .i64 Q,.slice A5 n5 c5] 63)) (QL ac (.slice C nb cb)) ⟨id,J,O,I,lev,bz,bA,F,upto,Q,Z⟩ (Qk ⟨id,J,O,I,lev,bz,bA,F,upto,Q,Z⟩ (.slice A5 n5 c5)).toList:=⟨_,rfl,⟨bo,(ar.bel (Qi w6 _)).mono Qb (M0 _),fun k hk=>by
     have h1:=(ar.lt k hk).1;have h2:W2.heap.size≤k:=h1
     exact⟨⟨by omega,aR k h2⟩,by omega⟩⟩,aY⟩
    have aM:Blk (w6.alloc (.cells #[.int .i64 id,.int .i64 J,.int .i64 O,.int .i64 I,.bool lev,.int .i64 bz,.int .i64 bA,.int .i64 F,.int .i64 upto,.int .i64 Q,.slice A5 n5 c5] 63)) w6.heap.size (Qk ⟨id,J,O,I,lev,bz,bA,F,upto,Q,Z⟩ (.slice A5 n5 c5)).toList.toArray 63:=Blk.new w6 _ _;have a5:=yh (Qyb (Yua Zp) aL aZ (by have:=a2.out;omega) (by have:=U.size;omega) aM rfl aP ⟨by omega,aR _ bg⟩);clear aL aP aM;refine yR 6 fun K hK=>?_;go_simp
    (go_at_call 208;refine a5.out.mono ?_;rintro e w7 ⟨C1,Y,bB,ad,rfl,au,aj⟩;have ap:=(ae.bel U).kept aj (aw h hh);have ah:=(az.bel U).kept aj (aw g hg);have aN:=(aE.bel U).kept aj (aw z hz);have m2:yJ w7 g 11 C nb cb:=ah.cell rfl;have mf:=ah.free 11)
    go_wp2_with fail;refine hK.out _ _ (af _ ap) fun ai=>?_;clear hK K
    try simp only[yU]
    refine yT [7] ?_;iterate 1 (refine yS ?_;simp only[yU])
    refine yR 8 fun K hK=>?_;go_simp;refine hK.out _ _ (af _ (ap.other (p:=⟨g,11,none⟩) bb _)) fun ai=>?_;clear hK K
    try simp only[yU]
    have am:Kept (fun k=>k=g) w7 (w7.setCell ⟨g,11,none⟩ (.slice C1 Y bB)):=(yk g w7).setCell (p:=⟨g,11,none⟩) (.inl rfl) _;have aT:=au.neTy ah (by decide);have p2:=ah.set (j:=11) (.slice C1 Y bB);have p3:=aN.kept am (fun e=>bc e.symm);have p1:Own (avC (fun k=>k=g∨k=h∨k=z) VU) 11 63 (w7.setCell ⟨g,11,none⟩ (.slice C1 Y bB)) ac (.slice C1 Y bB) (x.bks.take i++⟨id,J,O,I,lev,bz,bA,F,upto,Q,Z⟩::x.bks.drop i) ad:=au.keptX Zp am (fun k hk=>.inl hk) (fun k hk e=>aT (by rw[hk,e]));have p4:Kept (fun k=>(Value.slice C nb cb).ownBlock=some k) w (w7.setCell ⟨g,11,none⟩ (.slice C1 Y bB)):=((Kept.of_below (ax.trans (U.mono ax.size)) (fun k hk h2=>by omega)).thn aj (fun k _ hk=>hk)).thn am (fun k hk bd=>by omega);clear au aj ap ah aN m2 mf am aT;refine yD ?_;go_wp2_with fail;go_meet;exact⟨rfl,C1,Y,bB,ad,p2,by rw[aX.out]at p1;exact p1,p3,p4⟩
 obtain⟨rfl,C1,Y,bB,ad,aG,aK,aO,aH⟩:=hcut;have aW:=yh aG;clear aG;have ao:=yh aO;clear aO;have aA:=yh aK;clear aK;have a1:=yh aH;clear aH;go_wp2_with (first|(refine yV (.tmp 2) aW underlying32 ?_)|(refine yX 32 (.tmp 4) (.tmp 22) z (Qa (Q4 x ⟨id,J,O,I,lev,bz,bA,F,upto,Q,Z⟩) ⟨A,n,cap,B,m,aa,D,nd,cd,E,ne,ce,C1,Y,bB⟩) ao ?_));refine yq (.agg (Qa (Q4 x ⟨id,J,O,I,lev,bz,bA,F,upto,Q,Z⟩) ⟨A,n,cap,B,m,aa,D,nd,cd,E,ne,ce,C1,Y,bB⟩)) (k:=4) (ao.row _) underlying32 ?_;have aJ:Kept (fun k=>k=z) wc (wc.setRow z (Qa (Q4 x ⟨id,J,O,I,lev,bz,bA,F,upto,Q,Z⟩) ⟨A,n,cap,B,m,aa,D,nd,cd,E,ne,ce,C1,Y,bB⟩)):=(yk z wc).setRow (.inl rfl) _;have bh:=aA.neTy ao (by decide);have a6:Own VU 11 63 (wc.setRow z (Qa (Q4 x ⟨id,J,O,I,lev,bz,bA,F,upto,Q,Z⟩) ⟨A,n,cap,B,m,aa,D,nd,cd,E,ne,ce,C1,Y,bB⟩)) ac (.slice C1 Y bB) (XS x.bks ⟨id,J,O,I,lev,bz,bA,F,upto,Q,Z⟩) ad:=(aA.keptX Zp aJ (fun k hk=>.inr (.inr hk)) (fun k hk e=>bh (by rw[hk,e]))).unav Zp;have aI:Kept (fun k=>(Value.slice C nb cb).ownBlock=some k) w (wc.setRow z (Qa (Q4 x ⟨id,J,O,I,lev,bz,bA,F,upto,Q,Z⟩) ⟨A,n,cap,B,m,aa,D,nd,cd,E,ne,ce,C1,Y,bB⟩)):=a1.thn aJ (fun k hk bd=>by omega);have aq:Kept (fun k=>ac≤k) w (wc.setRow z (Qa (Q4 x ⟨id,J,O,I,lev,bz,bA,F,upto,Q,Z⟩) ⟨A,n,cap,B,m,aa,D,nd,cd,E,ne,ce,C1,Y,bB⟩)):=aI.mono fun k _ hk=>a4 k hk;have ak:=aU.out;subst ak;refine⟨⟨A,n,cap,B,m,aa,D,nd,cd,E,ne,ce,C1,Y,bB⟩,rfl,⟨k1,k2,Nat.le_trans k3 aq.size,fun j hj hl=>?_,?_,ad,a6⟩,aq.below ba (fun k hk=>by omega),aI⟩
 ·exact(aq.block j (by omega) (by omega)).trans (a0 j hj hl)
 ·exact⟨ab.cats,ab.cabs,ab.leg,ab.bands,ab.a,ab.t,ab.d⟩
def mst (l:List Int):Int:=max 0 (mx l)
theorem XNb {l:List Int}{k:Nat}{x:Int}(h:l[k]? = some x):mst (l.take (k+1))=max (mst (l.take k)) x:=by
 unfold mst;rw[Qo h,Z9b];omega
theorem XMb (A:Option Addr)(n cap:Nat)(l:List Int)(w:World)(h:Sl QO 1 w All A n cap l)(I:∀x∈l,-1000000000000000≤x∧x≤1000000000000000) :
  Calls prog 150 #[.slice A n cap] w fun e w'=>e=.returned (.int .i64 (mst l))∧∃q,w'=w.drewN q:=by
 have Z:=h.bd;have Q:=yh h.len;have U:=yh h;have V:=yh I;clear I;clear h;go_enter func150,ntmps150;go_wp2_with fail
 go_loopg [3,4] n (fun gk v i wr=>∃k:Nat,k≤n∧n-k≤gk∧i=.int .i64 k∧v=.int .i64 (mst (l.take k))∧wr=w)
 case atStart=>exact⟨0,M0 _,by omega,rfl,rfl,rfl⟩
 case round=>
  obtain⟨k,hk,aa,rfl,rfl,rfl⟩:=hrel;obtain⟨M,hM⟩:=yE (mst (l.take k));rw[←hM];by_cases hlt:k<n
  ·obtain⟨b,ad,y,X,rfl,O,⟨J,_⟩,Y⟩:=U.at1 hlt;simp only[List.cons.injEq,and_true]at J;subst J;have E:=XNb O;rw[←hM]at E;have F:=yh E;clear E;have W:=yh hM;clear hM;clear O;have ab:(0:Int)≤(k:Int):=Int.natCast_nonneg _
   have ac:(k:Int)<(n:Int):=by omega
   by_cases hgt:M<y
   ·have D:=yh (show mst (l.take (k+1))=y by rw[F.out];omega);go_wp2_with fail;go_roundg (n-(k+1))
    case measure=>omega
    case rel=>exact⟨k+1,by omega,by omega,by go_num,by rw[D.out],rfl⟩
   ·have D:=yh (show mst (l.take (k+1))=M by rw[F.out];omega);go_wp2_with fail;go_roundg (n-(k+1))
    case measure=>omega
    case rel=>exact⟨k+1,by omega,by omega,by go_num,by rw[D.out],rfl⟩
  ·obtain rfl:k=n:=by omega
   have D:=yh (show M=mst l by rw[hM,M1 (Nat.le_of_eq Q.out)]);clear hM;go_wp2_with fail;go_ret;exact⟨ZN D,0,rfl⟩
theorem Xka {l:List Bkg}{c:Nat}(F:VMb l):(ZZ l (c:Int) && decide ((Una l (c:Int)).length=0))=QN l c:=by
 have D:(spL l (c:Int)).length=0↔QN l c=true:=by
  unfold spL QN;rw[List.length_map,List.length_eq_zero_iff,List.filter_eq_nil_iff];simp
 cases hq:spF (spL l (c:Int))with
 | none=>
  have A:ZZ l (c:Int)=false:=by unfold ZZ;rw[hq];rfl
  rw[A,Bool.false_and]
  cases he:QN l c with
  | false=>rfl
  | true=>
   have:=List.eq_nil_of_length_eq_zero (D.2 he);rw[this]at hq;cases hq
 | some o=>
  obtain⟨A,E⟩:=XW hq;have I:=(Yf (fun x J=>(Zxb F x J).2.1) hq).1;rw[A,E,Bool.true_and,I.length_eq]
  cases he:QN l c with
  | true=>exact J2 (D.2 he)
  | false=>exact J3 fun h=>by rw[D.1 h]at he;cases he
theorem UJa (x:Sai)(p:SaiV)(w:World)(h:SaiR w x p)(ho:OkShp x.ship)(hk:∀b∈x.bks,OkBk x.ship b)(a9:x.bks.length≤16) :
  Calls prog 152 #[.agg (Qa x p)] w fun e w'=>∃v1 v2 ai bY,e=.returned (.tuple #[v1,v2])∧Own QO 1 3 w' w.heap.size v1 (UC x) ai∧Own Xn 2 94 w' w.heap.size v2 (Zl x) bY∧yw w w':=by
 obtain⟨A,n,cap,B,m,ay,D,nd,cd,E,ne,ce,C,nb,cb⟩:=p;have hl:Sl ZP 11 w All C nb cb x.bks:=h.bks;have hc:Sl UX 2 w All A n cap x.ship.cats:=h.cats;have hd:Sl Ut 4 w All B m ay x.ship.cabs:=h.cabs;have bn:=yh (fun b v (k:Nat) W h1 h2 h3 h4 h5=>Xi x.ship A n cap B m ay b v k W h1 h2 ho h3 h4 h5);have bt:=yh (fun(c:Int) W hW=>YP C nb cb x.bks c W hW (Zna ho hk));have bo:=yh (fun c:Nat=>Xka (c:=c) (Zna ho hk));have HN:=yh hl.len
 have bS:nb≤16:=by rw[←hl.len];exact a9
 have bE:m≤12:=by rw[←hd.len];exact ho.cabs12
 have br:=yh hc.len;have HM:=yh hd.len;have HL:=yh hl;have HC:=yh hc;have HD:=yh hd;have HK:=yh hk;clear hk;clear h hl hc hd a9;go_enter func152,ntmps152;go_upto_region 0 with(fail);go_cut [1,2,3] (fun q _ _ wx=>∃g,yp q g∧Blk wx g (Qa x ⟨A,n,cap,B,m,ay,D,nd,cd,E,ne,ce,C,nb,cb⟩) 32∧yw w wx)
 case first=>as_aux_lemma=>
  go_wp2_with fail;go_meet;exact⟨_,rfl,Zk _ _,Qi _ _⟩
 obtain⟨g,rfl,hG,bc⟩:=hcut;obtain⟨W0,rfl⟩:=yE wc;have bL:=yh hG.lt;have HG:=yh hG;clear hG;have ak:=yh bc;clear bc;go_wp2_with fail
 go_loopg [4,5,6] nb (fun gk v1 v2 i wr=>∃(k:Nat) (ai bY:List Value),k≤nb∧nb-k≤gk∧i=.int .i64 k∧Own QO 1 3 wr W0.heap.size v1 ((Q2 x k).map (·.id)) ai∧Own Xn 2 94 wr W0.heap.size v2 (ZD x (Q2 x k) 0) bY∧Apart v1 v2∧yw W0 wr)
 case atStart=>exact⟨0,[],[],M0 _,by omega,rfl,Own.nil _ _ _ _ _,Own.nil _ _ _ _ _,Apart.nilL _,J4 _ _⟩
 case round=>
  obtain⟨k,ai,bY,hk,bP,rfl,I,F,al,hb⟩:=hrel;obtain⟨A1,n1,c1,rfl,aZ⟩:=I.sl Qd;obtain⟨A2,n2,c2,rfl,bh⟩:=F.sl QJ;have hG:=HG.bel hb;by_cases hlt:k<nb
  ·have aX:n1=(Q2 x k).length:=by have:=aZ.len;rw[List.length_map]at this;exact this.symm
   have ah:=ak.trans (hb.mono ak.size);obtain⟨ab,ac,⟨id,X,Y,bX,lev,Q,U,V,upto,Z,aa⟩,A3,n3,c3,hA,hx,hF,hI,ad⟩:=(HL.bel ah).bkg hlt;subst hA;simp only at hF;have y0:yI wr ab (ac+k*11) id:=ad 0 _ rfl;have y1:yI wr ab (ac+k*11+1) X:=ad 1 _ rfl;have y2:yI wr ab (ac+k*11+2) Y:=ad 2 _ rfl;have y3:yI wr ab (ac+k*11+3) bX:=ad 3 _ rfl;have y4:wr.cell? ⟨ab,ac+k*11+4,none⟩=some (.bool lev):=ad 4 _ rfl;have y5:yI wr ab (ac+k*11+5) Q:=ad 5 _ rfl;have y6:yI wr ab (ac+k*11+6) U:=ad 6 _ rfl;have y7:yI wr ab (ac+k*11+7) V:=ad 7 _ rfl;have y8:yI wr ab (ac+k*11+8) upto:=ad 8 _ rfl;have y9:yI wr ab (ac+k*11+9) Z:=ad 9 _ rfl;have bK:yJ wr ab (ac+k*11+10) A3 n3 c3:=ad 10 _ rfl;clear ad;have ao:yJ wr g 11 (some ⟨ab,ac,none⟩) nb cb:=hG.cell rfl;go_upto_region 6 with(fail);go_cut [7] (fun p1 wx=>∃z,yp p1 z∧wr.heap.size≤z∧Blk wx z (Qk ⟨id,X,Y,bX,lev,Q,U,V,upto,Z,aa⟩ (.slice A3 n3 c3)) 63∧yw wr wx)
   case first=>as_aux_lemma=>
    go_wp2_with fail;go_meet;exact⟨_,rfl,J5 _,Zk _ _,Qi _ _⟩
   obtain⟨z,rfl,bT,hZ,aF⟩:=hcut;clear y0 y1 y2 y3 y4 y5 y6 y7 y8 y9 bK aZ bh hF ao hG;have be:=I.lt;have bf:=F.lt
   have bl:(Value.slice A1 n1 c1).ownBlock≠some z:=fun e=>by have:=(be z e).2;omega
   have bm:(Value.slice A2 n2 c2).ownBlock≠some z:=fun e=>by have:=(bf z e).2;omega
   replace I:=I.bel aF;replace F:=F.bel aF;replace hb:=hb.trans (aF.mono hb.size);have aH:=Vt hx;have bF:=Xva x k;have bs:=yh (HK _ (J6 hx));obtain⟨q,hq⟩:=yE (QH ⟨id,X,Y,bX,lev,Q,U,V,upto,Z,aa⟩);have aq:=yh (fun W=>U0a ⟨id,X,Y,bX,lev,Q,U,V,upto,Z,aa⟩ (.slice A3 n3 c3) W);rw[←hq]at aq aH;obtain⟨O,bb⟩:=yE (Q2 x k);rw[←bb]at I F aX bF aH;have a6:=yh aH;clear aH;have HQ:=yh hq;clear hq;have bq:=yh aX;clear aX;have aV:=hI.id;simp only at aV;have bC:=yh aV;have z0:yI wc z 0 id:=hZ.cell rfl;have z1:yI wc z 1 X:=hZ.cell rfl;have z2:yI wc z 2 Y:=hZ.cell rfl;have z3:yI wc z 3 bX:=hZ.cell rfl;have z4:wc.cell? ⟨z,4,none⟩=some (.bool lev):=hZ.cell rfl;have z5:yI wc z 5 Q:=hZ.cell rfl;have z6:yI wc z 6 U:=hZ.cell rfl;have z7:yI wc z 7 V:=hZ.cell rfl;have z8:yI wc z 8 upto:=hZ.cell rfl;have z9:yI wc z 9 Z:=hZ.cell rfl;have a2:wc.cell? ⟨z,10,none⟩=some ((.slice A3 n3 c3)):=hZ.cell rfl;have ae:=yh I;clear I;have af:=yh F;clear F;have aj:=yh al;clear al;have bM:=yh bl;clear bl;have bz:=yh bm;clear bm;clear hx hI aF bb be bf aV ah;go_wp2_with fail;refine yM (aq _) fun w3 az=>?_;replace hb:=hb.trans (az.mono hb.size);have hZ:=hZ.bel az;have I:=ae.bel az;have F:=af.bel az;have bU:=hZ.lt;clear az z0 z1 z2 z3 z4 z5 z6 z7 z8 z9 a2 aq ae af;cases q
   ·have HV:=yh (a6.trans (by simp:_=O));have ae:=yh I;clear I;have af:=yh F;clear F;clear hZ;go_wp2_with fail;go_roundg (nb-(k+1))
    case measure=>omega
    case rel=>exact⟨k+1,ai,bY,by omega,by omega,by go_num,by rw[HV.out];exact ae,by rw[HV.out];exact af,aj,hb⟩
   ·have HV:=yh (a6.trans (by simp:_=O++[⟨id,X,Y,bX,lev,Q,U,V,upto,Z,aa⟩]));have a4:=yh (Zca bs HQ.symm);obtain⟨ln,aW⟩:∃ln:Nat,ln=n1:=⟨_,rfl⟩;have a7:=yh (aW.trans bq);have bp:=yh aW;have ae:=yh I;clear I;have af:=yh F;clear F;have HZ:=yh hZ;clear hZ;have HB:=yh hb;clear hb;clear aW;go_wp2_with fail
    go_loopg [5,8] m (fun bB v2 i aJ=>∃(j:Nat) (bY:List Value),j≤m∧m-j≤bB∧i=.int .i64 j∧Own QO 1 3 aJ W0.heap.size (.slice A1 n1 c1) (O.map (·.id)) ai∧Own Xn 2 94 aJ W0.heap.size v2 (ZD x O 0++toE O.length (Uk x ⟨id,X,Y,bX,lev,Q,U,V,upto,Z,aa⟩ j)) bY∧Apart (.slice A1 n1 c1) v2∧v2.ownBlock≠some z∧Blk aJ z (Qk ⟨id,X,Y,bX,lev,Q,U,V,upto,Z,aa⟩ (.slice A3 n3 c3)) 63∧yw W0 aJ)
    case atStart=>exact⟨0,_,M0 _,by omega,rfl,ae,by show Own _ _ _ _ _ _ (_++[]) _;rw[List.append_nil];exact af,aj,bz,HZ,HB⟩
    case round=>
     obtain⟨j,bY,hj,bO,rfl,I,F,al,aY,hZ,hb⟩:=hrel;obtain⟨A4,n4,c4,rfl,a0⟩:=F.sl QJ
     have bR:n4≤1000:=by
      have h1:=a0.len;have h2:=YV x O 0;have h3:=U5a x ⟨id,X,Y,bX,lev,Q,U,V,upto,Z,aa⟩ j;have h4:O.length*x.ship.cabs.length≤16*12:=Nat.mul_le_mul (by omega) (by rw[HM.out];exact bE);rw[J9]at h1;unfold toE at h1;rw[List.length_map]at h1;omega
     have hG:=HG.bel hb;have s3:yJ wr g 3 B m ay:=hG.cell rfl;have ao:yJ wr g 11 (some ⟨ab,ac,none⟩) nb cb:=hG.cell rfl;by_cases hlj:j<m
     ·have ah:=ak.trans (hb.mono ak.size);have aI:=X9 x ⟨id,X,Y,bX,lev,Q,U,V,upto,Z,aa⟩ j;have au:=bn ⟨id,X,Y,bX,lev,Q,U,V,upto,Z,aa⟩ (.slice A3 n3 c3) j;obtain⟨f,hf⟩:=yE (Zi x.ship ⟨id,X,Y,bX,lev,Q,U,V,upto,Z,aa⟩ (j:Int));have aG:=bo j;obtain⟨em,bd⟩:=yE (QN x.bks j);have a1:=bt (j:Int) wr (HL.bel ah);obtain⟨tb,bj⟩:=yE (ZZ x.bks (j:Int));obtain⟨tl,bk⟩:=yE (Una x.bks (j:Int));rw[←hf]at au aI;rw[←bd]at aI aG;rw[←bj,←bk]at aG a1;have a5:=yh aG;clear aG;have aO:=yh aI;clear aI;have aq:=yh au;clear au;have a8:=yh a1;clear a1;have ae:=yh I;clear I;have af:=yh F;clear F;have aj:=yh al;clear al;have av:=yh aY;clear aY;clear hf bd bj bk a0 hG;have HZ:=yh hZ;clear hZ;go_wp2_with fail;refine a8.mono ?_;rintro e J ⟨v5,bV,rfl,ba,ar⟩;obtain⟨A5,n5,c5,rfl,bi⟩:=ba.sl Qz;have bg:tl.length=n5:=bi.len;replace hb:=hb.trans (ar.mono hb.size);replace ah:=ah.trans (ar.mono ah.size);have hG:=HG.bel hb;have hZ:=HZ.bel ar;have I:=ae.bel ar;have F:=af.bel ar;have aC:=yh a5.out;rw[bg]at aC;have aw:=yh I;clear I;have ax:=yh F;clear F;clear ar ba bi bg s3 ao ae af a8 a5 HZ
      have aL:=yh (show ∀W2:World,em=false→yw W0 W2→yw J W2→(Uk x ⟨id,X,Y,bX,lev,Q,U,V,upto,Z,aa⟩ (j+1)=Uk x ⟨id,X,Y,bX,lev,Q,U,V,upto,Z,aa⟩ j)∧Own QO 1 3 W2 W0.heap.size (.slice A1 n1 c1) (O.map (·.id)) ai∧Own Xn 2 94 W2 W0.heap.size (.slice A4 n4 c4) (ZD x O 0++toE O.length (Uk x ⟨id,X,Y,bX,lev,Q,U,V,upto,Z,aa⟩ j)) bY∧Blk W2 z (Qk ⟨id,X,Y,bX,lev,Q,U,V,upto,Z,aa⟩ (.slice A3 n3 c3)) 63 from fun W2 he _ h2=>
       ⟨by rw[aO.out,he];simp,aw.bel h2,ax.bel h2,hZ.bel h2⟩)
      cases tb
      ·have HE:=yh (show em=false from by have:=aC.out;rw[Bool.false_and]at this;exact this.symm);clear hG;have aD:=yh hZ;clear hZ;go_wp2_with fail;obtain⟨p0,p1,p2,p3⟩:=aL J HE hb (J4 _ _);go_roundg (m-(j+1))
       case measure=>omega
       case rel=>exact⟨j+1,bY,by omega,by omega,by go_num,p1,by rw[p0];exact p2,aj,av,p3,hb⟩
      by_cases h5:n5=0;rotate_left
      ·have HE:=yh (show em=false from by have:=aC.out;rw[J3 h5,Bool.and_false]at this;exact this.symm)
       have bN:((n5:Int)==0)=false:=by rw[beq_eq_false_iff_ne];omega
       clear hG h5;have aD:=yh hZ;clear hZ;go_wp2_with fail;obtain⟨p0,p1,p2,p3⟩:=aL J HE hb (J4 _ _);go_roundg (m-(j+1))
       case measure=>omega
       case rel=>exact⟨j+1,bY,by omega,by omega,by go_num,p1,by rw[p0];exact p2,aj,av,p3,hb⟩
      have HE:=yh (show em=true from by have:=aC.out;rw[J2 h5]at this;exact this.symm);subst h5;clear aL;have s0:yI J g 0 x.ship.legs:=hG.cell rfl;have s1:yI J g 1 x.ship.souls:=hG.cell rfl;have s2:yJ J g 2 A n cap:=hG.cell rfl;have s3:yJ J g 3 B m ay:=hG.cell rfl;have s4:yJ J g 4 D nd cd:=hG.cell rfl;have s5:yI J g 5 x.fares.alone:=hG.cell rfl;have s6:yI J g 6 x.fares.third:=hG.cell rfl;have s7:yJ J g 7 E ne ce:=hG.cell rfl;have s8:yI J g 8 x.fares.down:=hG.cell rfl;have s9:yI J g 9 x.day:=hG.cell rfl;have bI:yI J g 10 x.leaves:=hG.cell rfl;have ao:yJ J g 11 (some ⟨ab,ac,none⟩) nb cb:=hG.cell rfl;have bJ:J.cell? ⟨g,12,none⟩=some (.bool x.closed):=hG.cell rfl;have z0:yI J z 0 id:=hZ.cell rfl;have z1:yI J z 1 X:=hZ.cell rfl;have z2:yI J z 2 Y:=hZ.cell rfl;have z3:yI J z 3 bX:=hZ.cell rfl;have z4:J.cell? ⟨z,4,none⟩=some (.bool lev):=hZ.cell rfl;have z5:yI J z 5 Q:=hZ.cell rfl;have z6:yI J z 6 U:=hZ.cell rfl;have z7:yI J z 7 V:=hZ.cell rfl;have z8:yI J z 8 upto:=hZ.cell rfl;have z9:yI J z 9 Z:=hZ.cell rfl;have a2:J.cell? ⟨z,10,none⟩=some ((.slice A3 n3 c3)):=hZ.cell rfl;have au:=aq J (HC.bel ah) (HD.bel ah) hlj a4.1 (by have:=a4.2;rwa [br.out]at this);have a3:=yh au;clear au;have aD:=yh hZ;clear hZ;clear hG aq;go_wp2_with fail;refine yM a3 fun w6 aA=>?_;replace hb:=hb.trans (aA.mono hb.size);have hZ:=aD.bel aA;have I:=aw.bel aA;have F:=ax.bel aA;clear aA s0 s1 s2 s3 s4 s5 s6 s7 s8 s9 bI ao bJ z0 z1 z2 z3 z4 z5 z6 z7 z8 z9 a2 aw ax aD a3;cases f
      ·have aP:=yh (show Uk x ⟨id,X,Y,bX,lev,Q,U,V,upto,Z,aa⟩ (j+1)=Uk x ⟨id,X,Y,bX,lev,Q,U,V,upto,Z,aa⟩ j by rw[aO.out];simp);have aw:=yh I;clear I;have ax:=yh F;clear F;have bA:=yh hZ;clear hZ;go_wp2_with fail;go_roundg (m-(j+1))
       case measure=>omega
       case rel=>exact⟨j+1,bY,by omega,by omega,by go_num,aw,by rw[aP.out];exact ax,aj,av,bA,hb⟩
      ·have aP:=yh (show ZD x O 0++toE O.length (Uk x ⟨id,X,Y,bX,lev,Q,U,V,upto,Z,aa⟩ (j+1))=(ZD x O 0++toE O.length (Uk x ⟨id,X,Y,bX,lev,Q,U,V,upto,Z,aa⟩ j))++[⟨(ln:Int),(j:Int)⟩]by
        rw[aO.out,M3 (by rw[HE.out];rfl),Uob,←List.append_assoc,a7.out];rfl)
       have bD:ln=n1:=bp.out
       have bQ:ln≤16:=by have:=a7.out;omega
       subst bD;have aQ:=I.bel (Qi w6 (.cells #[.int .i64 (ln:Int),.int .i64 (j:Int)] 94));have am:=F.bel (Qi w6 (.cells #[.int .i64 (ln:Int),.int .i64 (j:Int)] 94));have aS:=hZ.bel (Qi w6 (.cells #[.int .i64 (ln:Int),.int .i64 (j:Int)] 94));have bH:=hb.size
       have aB:W0.heap.size≤(w6.alloc (.cells #[.int .i64 (ln:Int),.int .i64 (j:Int)] 94)).heap.size:=by simp;omega
       have aU:((ZD x O 0++toE O.length (Uk x ⟨id,X,Y,bX,lev,Q,U,V,upto,Z,aa⟩ j)).length+1)*16≤140737488355328:=by
        obtain⟨_,_,_,he,bG⟩:=F.sl QJ;simp only[Value.slice.injEq]at he;have:=bG.len;omega
       have aK:=yh (hb.alloc hb.size (.cells #[.int .i64 (ln:Int),.int .i64 (j:Int)] 94))
       have aN:=yh (fun(v':Value) (w':World) (ap:List Value) (an:Own Xn 2 94 w' W0.heap.size v' ((ZD x O 0++toE O.length (Uk x ⟨id,X,Y,bX,lev,Q,U,V,upto,Z,aa⟩ j))++[⟨(ln:Int),(j:Int)⟩]) ap) (ag:(w6.alloc (.cells #[.int .i64 (ln:Int),.int .i64 (j:Int)] 94)).grownBy w' (Value.slice A4 n4 c4).ownBlock) (aE:v'.ownBlock=(Value.slice A4 n4 c4).ownBlock∨v'.ownBlock=some (w6.alloc (.cells #[.int .i64 (ln:Int),.int .i64 (j:Int)] 94)).heap.size)=>
        (⟨Own.grownF ZB aQ ag aj,Apart.step aj (fun k hk=>(aQ.lt k hk).2) aE,(show v'.ownBlock≠some z from by
         rcases aE with e|e
         ·rw[e];exact av
         ·rw[e];intro h2;injection h2 with h2;have:=aS.lt;omega),Blk.grown aS ag (fun e=>av e.symm),QA aK am ag aB⟩:Own QO 1 3 w' W0.heap.size (.slice A1 ln c1) (O.map (·.id)) ai∧Apart (.slice A1 ln c1) v'∧v'.ownBlock≠some z∧Blk w' z (Qk ⟨id,X,Y,bX,lev,Q,U,V,upto,Z,aa⟩ (.slice A3 n3 c3)) 63∧yw W0 w'))
       have bu:=yh (Ztb w6 All (ln:Int) (j:Int) 94 (.of (by omega) (by omega)) (.of (by omega) (by omega)) trivial);have aM:=yh am;clear I F hZ aQ am aS hb;go_wp2_with (at_builtin;refine QC (t:=74) (e:=94) (bytes:=16) rfl (.tmp 54) (.tmp 59) rfl UUa QJ rfl aM rfl bu (fun _ _ hc=>hc) aU (by omega) aB ?_;intro v' w' ap an ag aT);obtain⟨p1,p2,p3,p4,p5⟩:=aN _ _ _ an ag aT;go_roundg (m-(j+1))
       case measure=>omega
       case rel=>exact⟨j+1,ap,by omega,by omega,by go_num,p1,by rw[aP.out];exact an,p2,p3,p4,p5⟩
     ·obtain rfl:j=m:=by omega
      have bw:=yh (show ZD x (Q2 x (k+1)) 0=ZD x O 0++toE O.length (Uk x ⟨id,X,Y,bX,lev,Q,U,V,upto,Z,aa⟩ j)by rw[HV.out,ZBa,Nat.zero_add,Q8a,HM.out]);have bx:=yh (show(Q2 x (k+1)).map (·.id)=O.map (·.id)++[id]by rw[HV.out,List.map_append];rfl);have z0:yI wr z 0 id:=hZ.cell rfl;have am:=I.bel (Qi wr (.cells #[.int .i64 id] 3));have aR:=F.bel (Qi wr (.cells #[.int .i64 id] 3));have bH:=hb.size
      have aB:W0.heap.size≤(wr.alloc (.cells #[.int .i64 id] 3)).heap.size:=by simp;omega
      have aU:((O.map (·.id)).length+1)*8≤140737488355328:=by rw[List.length_map];omega
      have aK:=yh (hb.alloc hb.size (.cells #[.int .i64 id] 3))
      have aN:=yh (fun(v':Value) (w':World) (ap:List Value) (an:Own QO 1 3 w' W0.heap.size v' (O.map (·.id)++[id]) ap) (ag:(wr.alloc (.cells #[.int .i64 id] 3)).grownBy w' (Value.slice A1 n1 c1).ownBlock) (aE:v'.ownBlock=(Value.slice A1 n1 c1).ownBlock∨v'.ownBlock=some (wr.alloc (.cells #[.int .i64 id] 3)).heap.size)=>
       (⟨Own.grownF Y9 aR ag al.symm,(Apart.step al.symm (fun k hk=>(aR.lt k hk).2) aE).symm,QA aK am ag aB⟩:Own Xn 2 94 w' W0.heap.size (.slice A4 n4 c4) (ZD x O 0++toE O.length (Uk x ⟨id,X,Y,bX,lev,Q,U,V,upto,Z,aa⟩ j)) bY∧Apart v' (.slice A4 n4 c4)∧yw W0 w'))
      have bv:=yh (QLa wr All id 3 bC.out trivial);have aM:=yh am;clear I F hZ am aR hb a0 al aY hG ao;go_wp2_with (at_builtin;refine QC (t:=70) (e:=3) (bytes:=8) rfl (.tmp 61) (.tmp 64) rfl Uv Qd rfl aM rfl bv (fun _ _ hc=>hc) aU (by omega) aB ?_;intro v' w' ap an ag aT);obtain⟨p1,p2,p3⟩:=aN _ _ _ an ag aT;go_roundg (nb-(k+1))
      case measure=>omega
      case rel=>exact⟨k+1,ap,bY,by omega,by omega,by go_num,by rw[bx.out];exact an,by rw[bw.out];exact p1,p2,p3⟩
  ·obtain rfl:k=nb:=by omega
   have ao:yJ wr g 11 C k cb:=hG.cell rfl;rw[Ya HN.out]at I F;have ae:=yh (I.mono Qd ak.size);have af:=yh (F.mono QJ ak.size);clear I F aZ bh hG;go_wp2_with fail;go_ret2;exact⟨_,_,ai,bY,rfl,ae,af,ak.trans (hb.mono ak.size)⟩
theorem Zdc {l:List Bkg}{b:Bkg}{i:Nat}(U:Xj l)(O:ZA l b.id=false)(I:i≤l.length)(F:∀(q:Nat) (c:Bkg),i≤q→l[q]? = some c→b.id<c.id)
  (J:∀c,0<i→l[i-1]? = some c→c.id≤b.id):l.take i++b::l.drop i=XS l b:=by
 have Q:Ze l b.id=i:=X5a I (fun q c E A=>by
  have W:c.id≠b.id:=fun e=>by
   have:=List.any_eq_false.1 O c (J6 A);simp[e]at this
  have D:i-1<l.length:=by omega
  have V:=J _ (by omega) (J1 D);rcases Nat.lt_or_ge q (i-1)with h|h
  ·have:=U q (i-1) c _ h A (J1 D);omega
  ·obtain rfl:q=i-1:=by omega
   rw[J1 D]at A;injection A with A;subst A;omega) (fun q c E A=>by have:=F q c E A;omega)
 unfold XS;rw[Q]
theorem Xub {α:Type}{L:List α}{b a:α}{i:Nat}(Z:i+1≤L.length)(Y:L[i]? = some a):((L.take (i+1)++b::L.drop (i+1)).set (i+1) a).set i b=L.take i++b::L.drop i:=by
 apply List.ext_getElem?;intro j
 have J:min (i+1) L.length=i+1:=by omega
 have O:min i L.length=i:=by omega
 have aa:i<L.length:=by omega
 simp only[List.getElem?_set,List.getElem?_append,J9,J8,List.length_cons,List.length_drop,List.getElem?_take,List.getElem?_cons,List.getElem?_drop,List.length_set,J,O];rcases Nat.lt_trichotomy j i with h|h|h
 ·have Q:¬i=j:=by omega
  have D:¬i+1=j:=by omega
  have V:j<i+1:=by omega
  simp only[Q,D,V,h,if_true,if_false]
 ·subst h
  have E:j<j+1+(L.length-(j+1)+1):=by omega
  have A:¬j<j:=by omega
  simp only[E,A,if_true,if_false,Nat.sub_self]
 ·rcases Nat.lt_or_ge j (i+2)with D|D
  ·obtain rfl:j=i+1:=by omega
   have E:i+1<i+1+(L.length-(i+1)+1):=by omega
   have A:¬i=i+1:=by omega
   have F:¬i+1<i:=by omega
   have I:¬i+1-i=0:=by omega
   simp only[E,A,F,I,if_true,if_false];rw[show i+(i+1-i-1)=i by omega,Y]
  ·have A:¬i=j:=by omega
   have F:¬i+1=j:=by omega
   have I:¬j<i+1:=by omega
   have W:¬j<i:=by omega
   have X:¬j-(i+1)=0:=by omega
   have U:¬j-i=0:=by omega
   simp only[A,F,I,W,X,U,if_false]
   congr 1
   omega
theorem Zja {x:Sai}(h:QX x=0):Um x=false∧¬x.ship.souls<mx (QU x.bks x.ship.legs.toNat)∧UB (UC x).length (Zl x)=true:=by
 unfold QX at h;by_cases h1:Um x=true
 ·rw[M3 h1]at h;omega
 rw[M2 h1]at h;by_cases h2:x.ship.souls<mx (QU x.bks x.ship.legs.toNat)
 ·rw[M3 h2]at h;omega
 rw[M2 h2]at h;by_cases h3:UB (UC x).length (Zl x)=true
 ·exact⟨Bool.eq_false_iff.2 h1,h2,h3⟩
 ·rw[M2 h3]at h;omega
theorem Xja (x:Sai):∀(l:List Bkg) (i:Nat),∀e∈ZD x l i,(i:Int)≤e.lft
 | [],_,e,A=>by simp[ZD]at A
 | b::l,i,e,A=>by
  simp only[ZD,List.mem_append,List.mem_map]at A;rcases A with⟨c,_,rfl⟩|A
  ·exact Int.le_refl _
  ·have:=Xja x l (i+1) e A;omega
theorem XRb {x:Sai}(h:Xy x=0):∀(i:Nat) (b:Bkg),x.bks[i]? = some b→ofE x.ship b=0:=by
 unfold Xy at h;by_cases h1:16<x.bks.length
 ·rw[M3 h1]at h;omega
 rw[M2 h1]at h;by_cases A:Qn (Vb x) x.bks.length≠0
 ·rw[M3 A]at h;exact absurd h A
 have A:Qn (Vb x) x.bks.length=0:=Decidable.not_not.1 A;intro i b E;have D:=U4 A i (J0.1 E).1;rw[Yi E]at D;by_cases h4:ofE x.ship b≠0
 ·rw[M3 h4]at D;exact absurd D h4
 ·exact Decidable.not_not.1 h4
theorem X2 {x:Sai}(h:QD x=0):Z9 x.ship=0∧Xy x=0:=by
 unfold QD at h;by_cases h1:Z9 x.ship≠0
 ·rw[M3 h1]at h;exact absurd h h1
 rw[M2 h1]at h;by_cases h2:ZI x.fares x.ship.cats.length x.ship.legs≠0
 ·rw[M3 h2]at h;exact absurd h h2
 rw[M2 h2]at h;by_cases h3:(Qc x.day 0 9999 && Qc x.leaves 0 9999)=false
 ·rw[M3 h3]at h;omega
 rw[M2 h3]at h;by_cases h4:Xy x≠0
 ·rw[M3 h4]at h;exact absurd h h4
 ·exact⟨Decidable.not_not.1 h1,Decidable.not_not.1 h4⟩
def ZC (x:Sai) (l:List Bkg):Sai:={ x with bks:=l }
theorem Xzb (l:List Bkg)(k:Nat):(Z4b l k).Sublist l:=by
 unfold Z4b
 conv=>rhs;rw[←List.take_append_drop k l]
 exact List.Sublist.append (List.Sublist.refl _) (List.drop_sublist_drop_left l (Nat.le_succ k))
theorem VZ {l:List Bkg} : Xj l↔l.Pairwise (fun a b=>a.id<b.id):=by
 constructor
 ·intro h;exact List.pairwise_iff_getElem.2 fun i j A E D=>h i j _ _ D (J1 A) (J1 E)
 ·intro h i j a b D F I;obtain⟨A,rfl⟩:=J0.1 F;obtain⟨E,rfl⟩:=J0.1 I;exact List.pairwise_iff_getElem.1 h i j A E D
theorem VZb {x:Sai}{l:List Bkg}(E:OkBs x)(J:∀b∈x.bks,ofE x.ship b=0)(A:l.Sublist x.bks):Xy (ZC x l)=0:=by
 have Q:l.Pairwise (fun a b=>a.id<b.id):=(VZ.1 (QP E.rise)).sublist A;have X:=A.length_le;have W:=E.len;unfold Xy
 rw[show(ZC x l).bks=l from rfl,M2 (show ¬16<l.length by omega),show Qn (Vb (ZC x l)) l.length=0 from XE fun i D=>by
  have U:(ZC x l).bks[i]? = some l[i]:=J1 D;rw[Yi U,show ofE (ZC x l).ship l[i]=0 from J _ (A.subset (List.getElem_mem D)),M2 (by simp),M2];rintro⟨V,F⟩
  have O:(ZC x l).bks.getD (i-1) default=l[i-1]'(by omega):=by rw[J7];show(l[i-1]?).getD default=_;rw[J1 (by omega)];rfl
  rw[O]at F;have:=List.pairwise_iff_getElem.1 Q (i-1) i (by omega) D (by omega)
  omega,M2 (by simp),M2]
 rw[Bool.not_eq_true];refine List.any_eq_false.2 fun b I=>?_;exact List.any_eq_false.1 E.bad b (A.subset I)
theorem VDb {x:Sai}{l:List Bkg}(J:OkBs x)(F:Um x=false)(D:l.Sublist x.bks):Um (ZC x l)=false:=by
 unfold Um at F ⊢;refine List.any_eq_false.2 fun c O=>?_;have E:=List.any_eq_false.1 F c O
 have E:ZZ x.bks (c:Int)=true:=by simpa using E
 unfold ZZ at E;obtain⟨out,W⟩:=Option.isSome_iff_exists.1 E;have I:∀q∈x.bks,q.frm<q.upto:=fun q A=>(QWa J.ship (J.bk q A)).2.1
 obtain⟨X,Y⟩:=Yf (fun s D=>by
  unfold spL at D;obtain⟨q,A,rfl⟩:=List.mem_map.1 D
  exact I q (List.mem_filter.1 A).1) W
 have Z:out.Pairwise (fun s t=>Q8 s t=false):=Y.imp fun {s t} h=>by unfold Q8;simp;omega
 have Q:(spL x.bks c).Pairwise (fun s t=>Q8 s t=false):=(X.pairwise_iff (fun {s t} h=>by unfold Q8 at h ⊢;simp at h ⊢;omega)).1 Z;have U:(spL l c).Pairwise (fun s t=>Q8 s t=false):=Q.sublist ((D.filter _).map _)
 obtain⟨o,V⟩:=ZRa (fun s h=>by
  unfold spL at h;obtain⟨q,A,rfl⟩:=List.mem_map.1 h
  exact I q (D.subset (List.mem_filter.1 A).1)) U
 have:=(XW V).1
 show ¬(!ZZ l (c:Int))=true
 rw[this];simp
theorem Vvb {l E:List Bkg}(I:E.Sublist l)(A:∀b∈l,0≤b.gst)(k:Nat):Us E k≤Us l k:=by
 unfold Us
 induction I with
 | slnil=>exact Int.le_refl _
 | cons b _ ih=>
  have F:=ih fun q D=>A q (List.mem_cons_of_mem _ D);have J:=A b (List.mem_cons_self ..);rw[List.map_cons,List.sum_cons]
  split<;>omega
 | cons_cons b _ ih=>
  have F:=ih fun q D=>A q (List.mem_cons_of_mem _ D);rw[List.map_cons,List.sum_cons,List.map_cons,List.sum_cons];omega
theorem Unc {l:List Int}{n:Int}(h:∀x∈l,x≤n)(A : -1≤n):mx l≤n:=by
 rcases(Q3a l (-1)).2.2 with e|e
 ·unfold mx;rw[e];exact A
 ·exact h _ e
theorem Vwb {x:Sai}{l:List Bkg}(I:OkBs x)(h:¬x.ship.souls<mx (QU x.bks x.ship.legs.toNat))(J:l.Sublist x.bks):¬x.ship.souls<mx (QU l x.ship.legs.toNat):=by
 have D:=Uoc (QU x.bks x.ship.legs.toNat)
 have O:mx (QU l x.ship.legs.toNat)≤mx (QU x.bks x.ship.legs.toNat):=Unc (fun y A=>by
  unfold QU at A;obtain⟨k,F,rfl⟩:=List.mem_map.1 A;have Q:=Vvb J (fun b E=>by have:=(I.bk b E).gst;omega) k;have U:Us x.bks k≤mx (QU x.bks x.ship.legs.toNat):=Ulc (List.mem_map.2 ⟨k,F,rfl⟩)
  omega) D
 omega
theorem X6b {x:Sai}{l:List Bkg}(h:QD x=0)(D:l.Sublist x.bks)(E:UB (UC (ZC x l)).length (Zl (ZC x l))=true):QD (ZC x l)=0:=by
 have A:=Zm h;obtain⟨Q,F⟩:=X2 h;obtain⟨U,V,_⟩:=Zja A.room
 have O:QX (ZC x l)=0:=by
  unfold QX;rw[M2 (by rw[VDb A.bs U D];simp),M2 (show ¬(ZC x l).ship.souls<mx (QU (ZC x l).bks (ZC x l).ship.legs.toNat)from Vwb (x:=x) (l:=l) A.bs V D),M3 E]
 unfold QD
 rw[show Z9 (ZC x l).ship=0 from Q,M2 (by simp),show ZI (ZC x l).fares (ZC x l).ship.cats.length (ZC x l).ship.legs=0 from A.fares,M2 (by simp),M2 (by
  show ¬(Qc x.day 0 9999 && Qc x.leaves 0 9999)=false
  rw[A.day,A.leaves];simp),VZb A.bs (fun b I=>by
  obtain⟨i,J⟩:=List.getElem?_of_mem I
  exact XRb F i b J) D,M2 (by simp),O]
 rfl
theorem YVa (x:Sai):∀(F:List Bkg) (i:Nat) (e:Edg),e∈ZD x F i↔∃(d:Nat) (b:Bkg),F[d]? = some b∧e.lft=((i+d:Nat):Int)∧e.rgt∈Uw x b
 | [],_,e=>by simp[ZD]
 | b::F,i,e=>by
  simp only[ZD,List.mem_append,List.mem_map,YVa x F (i+1) e]
  constructor
  ·rintro(⟨c,I,rfl⟩|⟨d,q,D,A,E⟩)
   ·exact⟨0,b,rfl,rfl,I⟩
   ·exact⟨d+1,q,by simpa using D,by rw[A];congr 1;omega,E⟩
  ·rintro⟨d,q,D,A,E⟩;rcases d with _|d
   ·obtain rfl:b=q:=by simpa using D
    exact .inl ⟨e.rgt,E,by obtain⟨a,c⟩:=e;simp only at A ⊢;rw[A];rfl⟩
   ·exact .inr ⟨d,q,by simpa using D,by rw[A];congr 1;omega,E⟩
theorem ZFa (x:Sai)(d c:Nat):c∈U1 (Zl x) d↔∃b,(QI x)[d]? = some b∧(c:Int)∈Uw x b:=by
 unfold U1 Zl;simp only[List.mem_map,List.mem_filter,YVa,decide_eq_true_eq]
 constructor
 ·rintro⟨e,⟨⟨F,b,D,I,A⟩,J⟩,rfl⟩
  obtain rfl:F=d:=by omega
  refine⟨b,D,?_⟩;obtain⟨q,_,E⟩:=List.mem_map.1 A;rw[←E];rw[←E]at A;exact A
 ·rintro⟨b,D,A⟩;exact⟨⟨d,c⟩,⟨⟨d,b,D,by simp,A⟩,rfl⟩,rfl⟩
def Sdr (x:Sai) (os:List Bkg):Prop:=∃ps:List (Bkg×Nat),ps.map (·.1)=os∧(ps.map (·.2)).Nodup∧∀p∈ps,(p.2:Int)∈Uw x p.1
theorem X9b {x:Sai}(h:VEb (QI x).length (Zl x)):Sdr x (QI x):=by
 obtain⟨M,E,X⟩:=h
 have W:∀p∈M,p.1<(QI x).length:=fun p D=>by
  obtain⟨b,F,_⟩:=(ZFa x p.1 p.2).1 (E.edge p D);exact(J0.1 F).1
 have O:∀i,i<(QI x).length→∃c,(i,c)∈M:=fun i A=>by
  apply Classical.byContradiction;intro Y
  have J:=Uta (M.map (·.1)) ((List.range (QI x).length).erase i) E.lefts (fun y Z=>by
   obtain⟨p,D,rfl⟩:=List.mem_map.1 Z;refine(List.mem_erase_of_ne (fun e=>Y ⟨p.2,?_⟩)).2 (List.mem_range.2 (W p D))
   rw[←e];exact D)
  rw[List.length_map,X,List.length_erase_of_mem (List.mem_range.2 A),List.length_range]at J;omega
 obtain⟨f,I⟩:∃f:Nat→Nat,∀i,i<(QI x).length→(i,f i)∈M:=⟨fun i=>if h:i<(QI x).length then (O i h).choose else 0,fun i A=>by simp only[A,dif_pos];exact(O i A).choose_spec⟩;refine⟨(List.range (QI x).length).map (fun i=>((QI x).getD i default,f i)),?_,?_,?_⟩
 ·rw[List.map_map];refine List.ext_getElem (by simp) fun i J Q=>?_;simp[J7,J1 Q]
 ·rw[List.map_map];refine Vg List.nodup_range fun i A j V e=>?_;have:=VB E.rights _ (I i (List.mem_range.1 A)) _ (I j (List.mem_range.1 V)) e;exact(Prod.mk.inj this).1
 ·intro p D;obtain⟨i,A,rfl⟩:=List.mem_map.1 D;obtain⟨b,F,U⟩:=(ZFa x i (f i)).1 (E.edge _ (I i (List.mem_range.1 A)));simp only;rw[J7,F];exact U
theorem Yab {x:Sai}(h:Sdr x (QI x)):VEb (QI x).length (Zl x):=by
 obtain⟨A,E,D,J⟩:=h
 have O:A.length=(QI x).length:=by rw[←E,List.length_map]
 refine⟨(List.range (QI x).length).map (fun i=>(i,(A.getD i default).2)),⟨?_,?_,?_⟩,by simp⟩
 ·intro p Q;obtain⟨i,F,rfl⟩:=List.mem_map.1 Q;have F:=List.mem_range.1 F;have I:A[i]? = some (A[i]'(by omega)):=J1 (by omega);refine(ZFa x i _).2 ⟨(A[i]'(by omega)).1,?_,?_⟩
  ·rw[←E,List.getElem?_map,I];rfl
  ·rw[J7,I];exact J _ (List.getElem_mem _)
 ·rw[List.map_map];exact Vg List.nodup_range fun i _ j _ e=>e
 ·rw[List.map_map]
  have:(List.range (QI x).length).map ((fun p=>p.2) ∘ fun i=>(i,(A.getD i default).2))=A.map (·.2):=by
   refine List.ext_getElem (by simp[O]) fun i E D=>?_;rw[List.length_map]at D;simp[J7,J1 D]
  rw[this];exact D
theorem YMb {x:Sai}{l:List Bkg}(I:l.Sublist x.bks)(h:UB (UC x).length (Zl x)=true):UB (UC (ZC x l)).length (Zl (ZC x l))=true:=by
 have O:(UC x).length=(QI x).length:=List.length_map _;have Q:(UC (ZC x l)).length=(QI (ZC x l)).length:=List.length_map _;rw[O]at h;rw[Q];obtain⟨ps,U,V,W⟩:=X9b (QTa.1 h)
 have aa:(QI (ZC x l)).Sublist (ps.map (·.1)):=by rw[U];exact I.filter _
 obtain⟨qs,F,Z⟩:=List.sublist_map_iff.1 aa;refine Y6 (Yab ⟨qs,Z.symm,V.sublist (F.map _),fun p hp=>?_⟩);have E:=W p (F.subset hp);unfold Uw at E ⊢;obtain⟨c,Y,e⟩:=List.mem_map.1 E;refine List.mem_map.2 ⟨c,?_,e⟩;obtain⟨J,A⟩:=List.mem_filter.1 Y;refine List.mem_filter.2 ⟨J,?_⟩;have A:(Zi x.ship p.1 (c:Int) && QN x.bks c)=true:=A
 show(Zi x.ship p.1 (c:Int) && QN l c)=true
 rw[Bool.and_eq_true]at A ⊢;refine⟨A.1,?_⟩;have D:=A.2;unfold QN at D ⊢;rw[Bool.not_eq_true']at D ⊢;exact List.any_eq_false.2 fun b X=>List.any_eq_false.1 D b (I.subset X)
theorem Yg (x:Sai)(p:SaiV)(w:World)(h:SaiR w x p)(Y:OkShp x.ship)(hk:∀b∈x.bks,OkBk x.ship b)(ab:x.bks.length≤16) :
  Calls prog 72 #[.agg (Qa x p)] w fun e w'=>e=.returned (.int .i64 (QX x))∧yw w w':=by
 have aS:=yh (fun W h=>UJa x p W h Y hk ab);have HS:=yh h;obtain⟨A,n,cap,B,m,bb,D,nd,cd,E,ne,ce,C,J,O⟩:=p;have hl:Sl ZP 11 w All C J O x.bks:=h.bks;have hd:Sl Ut 4 w All B m bb x.ship.cabs:=h.cabs
 have a6:J≤16:=by rw[←hl.len];exact ab
 have a5:m≤12:=by rw[←hd.len];exact Y.cabs12
 have aU:=yh (fun(c:Int) W hW=>YP C J O x.bks c W hW (Zna Y hk));obtain⟨r,hr⟩:=yE (QX x);rw[←hr];have HR:=yh (show r=if (List.range m).any (fun c=>!ZZ x.bks (c:Int))=true then 6 else if x.ship.souls<mx (QU x.bks x.ship.legs.toNat)then 8 else if UB (UC x).length (Zl x)=true then 0 else 9 by rw[hr,←hd.len];rfl);have HN:=yh hl.len;have HM:=yh hd.len;have HL:=yh hl;have ah:=yh Y;have HK:=yh hk;clear hk;have aP:=yh ab;clear ab;clear h hl hd hr Y;go_enter func72,ntmps72;go_upto_region 0 with(fail);go_cut [1,2] (fun q _ wx=>∃g,yp q g∧Blk wx g (Qa x ⟨A,n,cap,B,m,bb,D,nd,cd,E,ne,ce,C,J,O⟩) 32∧yw w wx)
 case first=>as_aux_lemma=>
  go_wp2_with fail;go_meet;exact⟨_,rfl,Zk _ _,Qi _ _⟩
 obtain⟨g,rfl,hG,aG⟩:=hcut;obtain⟨W0,rfl⟩:=yE wc;have HG:=yh hG;clear hG;have ap:=yh aG;clear aG;go_wp2_with fail
 go_loopg [3] m (fun gk i wr=>∃k:Nat,k≤m∧m-k≤gk∧i=.int .i64 k∧Aside (∀j,j<k→ZZ x.bks (j:Int)=true)∧yw W0 wr)
 case atStart=>exact⟨0,M0 _,by omega,rfl,fun j hj=>absurd hj (Nat.not_lt_zero _),J4 _ _⟩
 case round=>
  obtain⟨k,hk,a4,rfl,HE,hb⟩:=hrel;have hG:=HG.bel hb;have ba:=ap.trans (hb.mono ap.size);have s3:yJ wr g 3 B m bb:=hG.cell rfl;by_cases am:k<m
  ·have ao:yJ wr g 11 C J O:=hG.cell rfl;have al:=aU (k:Int) wr (HL.bel ba);obtain⟨q,Q⟩:=yE (ZZ x.bks (k:Int));rw[←Q]at al;have ag:=yh al;clear al;have HQ:=yh Q;clear Q;clear hG;go_wp2_with fail;refine ag.mono ?_;rintro e w2 ⟨v,xs,rfl,hO,aj⟩;obtain⟨A1,I,c1,rfl,_⟩:=hO.sl Qz;replace hb:=hb.trans (aj.mono hb.size);replace ba:=ba.trans (aj.mono ba.size);clear hO aj ao s3;cases q
   ·obtain rfl:r=6:=by rw[HR.out,M3 (V9a am (by show(!ZZ x.bks (k:Int))=true;rw[←HQ.out];rfl))]
    go_wp2_with fail;go_ret;exact⟨rfl,ba⟩
   ·skip;go_wp2_with fail;go_roundg (m-(k+1))
    case measure=>omega
    case rel=>exact⟨k+1,by omega,by omega,by go_num,fun j hj=>by
     by_cases e:j=k
     ·subst e;exact HQ.symm
     ·exact HE j (by omega),hb⟩
  ·obtain rfl:k=m:=by omega
   have av:=yh (HR.trans (M2 (by
    rw[QUa (fun i U=>by show(!ZZ x.bks (i:Int))=false;rw[HE i U];rfl)];simp)))
   have aW:=Zla ah;obtain⟨N,aB⟩:∃N:Nat,x.ship.legs=N:=⟨x.ship.legs.toNat,by omega⟩
   have ai:x.ship.legs.toNat=N:=by omega
   have af:=yh (fun W hW=>Yqa N C J O x.bks W hW (by rw[←ai];exact ZKb ah HK) (by omega) (by omega));obtain⟨sl,Z⟩:=yE (QU x.bks N);rw[←Z,←aB]at af;have az:=yh (show sl.length=N by rw[Z];exact UH _ _)
   have ay:=yh (show ∀y∈sl,0≤y∧y≤4*J from fun y V=>by
    rw[Z]at V;obtain⟨i,U⟩:=List.getElem?_of_mem V
    have am:i<N:=by have:=(J0.1 U).1;rwa [UH]at this
    rw[Ye _ _ _ am]at U;injection U with U;have:=Zma (l:=x.bks) (fun b hb=>(HK b hb).gst) i;have:=HN.out
    omega)
   have aR:=yh (show 0<N∧N≤7 from by omega);obtain⟨M,hM⟩:=yE (mst sl);have aY:=Ql.1 ah.souls
   have aH:(x.ship.souls<mx sl)=(x.ship.souls<M):=by
    rw[hM];unfold mst;exact propext ⟨fun h=>by omega,fun h=>by omega⟩
   have aw:=yh (show r=if x.ship.souls<M then 8 else if UB (UC x).length (Zl x)=true then 0 else 9 by
    rw[av.out,ai,←Z];simp only[aH])
   have aQ:=yh hM;clear hM;have aa:=yh (show ∀X,yw wr X→(fun w'=>yI w' g 0 x.ship.legs∧yI w' g 1 x.ship.souls∧yJ w' g 11 C J O) X from fun X hX=>⟨(hG.bel hX).cell rfl,(hG.bel hX).cell rfl,(hG.bel hX).cell rfl⟩);have aq:=yh (HL.bel ba);clear aW aB ai Z HE av HR aH aY;go_upto_region 7 with(fail);go_cut [35] (fun t wx=>t=.bool (decide (x.ship.souls<M))∧yw wr wx)
   case first=>as_aux_lemma=>
    have F:yw wr wr.drew:=(J4 _ wr).drew;clear hG hb ba s3;refine yZ (S:=(fun w'=>yI w' g 0 x.ship.legs∧yI w' g 1 x.ship.souls∧yJ w' g 11 C J O)) (aa _ F) fun aA=>?_;refine yT [0,1,2,3,4,7,8,9] ?_;iterate 8 (refine yS ?_;simp only[yU])
    refine yR 5 fun K hK=>?_;go_simp
    (go_at_call 151;refine(af _ (aq.bel F)).mono ?_;rintro e w3 ⟨G,rfl,a2,hR,aF⟩;have an:=hR.own (base:=0) (by omega) (fun y V=>by have:=ay y V;exact .of (by omega) (by omega)) (by have:=az.out;have:=aR.2;omega);rw[az.out]at an;obtain⟨A4,n4,c4,aL,aK⟩:=an.sl Qd;simp only[Value.slice.injEq]at aL;obtain⟨rfl,rfl,rfl⟩:=aL;have ar:=yh (XMb _ _ _ sl w3 (aK.all Qd (by omega)) (fun y V=>by have:=ay y V;omega));rw[←aQ.out]at ar;replace F:=F.trans (aF.mono F.size);clear aF an aK hR)
    go_wp2_with fail;refine hK.out _ _ (aa _ F) fun aA=>?_;clear hK K
    try simp only[yU]
    refine yR 6 fun K hK=>?_;go_simp
    (go_at_call 150;refine ar.mono ?_;rintro e w4 ⟨rfl,q4,rfl⟩;replace F:=below_drewN F q4)
    go_wp2_with fail;refine hK.out _ _ (aa _ F) fun aA=>?_;clear hK K
    try simp only[yU]
    refine yT [10] ?_;iterate 1 (refine yS ?_;simp only[yU])
    refine yD ?_;go_wp2_with fail;go_meet;exact⟨rfl,F⟩
   obtain⟨rfl,ac⟩:=hcut;replace hG:=hG.bel ac;replace hb:=hb.trans (ac.mono hb.size);replace ba:=ba.trans (ac.mono ba.size);clear ac aa aq af s3;by_cases h8:x.ship.souls<M
   ·obtain rfl:r=8:=by rw[aw.out,M3 h8]
    clear hG;go_wp2_with fail;go_ret;exact⟨rfl,ba⟩
   have aT:=yh (aw.trans (M2 h8))
   have a1:M≤x.ship.souls:=by omega
   have ag:=yh (aS _ (HS.bel ba));have s0:yI wc g 0 x.ship.legs:=hG.cell rfl;have s1:yI wc g 1 x.ship.souls:=hG.cell rfl;have s2:yJ wc g 2 A n cap:=hG.cell rfl;have s3:yJ wc g 3 B k bb:=hG.cell rfl;have s4:yJ wc g 4 D nd cd:=hG.cell rfl;have s5:yI wc g 5 x.fares.alone:=hG.cell rfl;have s6:yI wc g 6 x.fares.third:=hG.cell rfl;have s7:yJ wc g 7 E ne ce:=hG.cell rfl;have s8:yI wc g 8 x.fares.down:=hG.cell rfl;have s9:yI wc g 9 x.day:=hG.cell rfl;have aZ:yI wc g 10 x.leaves:=hG.cell rfl;have ao:yJ wc g 11 C J O:=hG.cell rfl;have a0:wc.cell? ⟨g,12,none⟩=some (.bool x.closed):=hG.cell rfl;have aN:=yh hG;clear hG h8;go_wp2_with fail;refine ag.mono ?_;rintro e w5 ⟨v1,v2,a7,a8,rfl,aC,aD,ak⟩;obtain⟨A1,I,c1,rfl,aI⟩:=aC.sl Qd;obtain⟨A2,n2,c2,rfl,aJ⟩:=aD.sl QJ;have hG:=aN.bel ak;have s3:yJ w5 g 3 B k bb:=hG.cell rfl;have ae:I=(UC x).length:=aI.len.symm
   have aX:I≤16:=by have:=Usa x;rw[ae];have:=aP.out;omega
   have ad:=XWa x;rw[←ae,HM.out]at ad;have aE:=VLb I k A2 n2 c2 (Zl x) w5 (aJ.all QJ (by omega)) aX (by omega) ad;obtain⟨q,Q⟩:=yE (UB I (Zl x));have ax:=yh (show r=if q=true then 0 else 9 by rw[aT.out,Q,ae]);have aO:=yh ad;clear ad;have HQ:=yh Q;clear Q;have aM:=yh aE;clear aE;replace ba:=ba.trans (ak.mono ba.size);clear ak aC aD aI aJ ae s0 s1 s2 s4 s5 s6 s7 s8 s9 aZ ao a0 hG hb;go_wp2_with fail;refine aM.mono ?_;rintro e w6 ⟨a3,no,D,rfl,hA,aV⟩;replace ba:=ba.trans (aV.mono ba.size);have au:=yh (show q=decide (no.length=0)by rw[HQ.out,UNa hA aO.out]);clear hA;by_cases h0:no.length=0
   ·obtain rfl:r=0:=by rw[ax.out,au.out,J2 h0];rfl
    have h1:(I:Int)-(no.length:Int)=I:=by omega
    rw[h1];clear h1 h0;go_wp2_with fail;go_ret;exact⟨rfl,ba⟩
   ·obtain rfl:r=9:=by rw[ax.out,au.out,J3 h0];rfl
    have h1:(I:Int)-(no.length:Int)<I:=by omega
    obtain⟨z,hz⟩:=yE ((I:Int)-(no.length:Int));rw[←hz]at h1;rw[←hz];clear hz h0;go_wp2_with fail;go_ret;exact⟨rfl,ba⟩
theorem Qpb (w:World):Calls prog 86 #[] w fun e w'=>∃A n cap B m E,e=.returned (.agg #[.int .i64 Z0.legs,.int .i64 Z0.souls,.slice A n cap,.slice B m E])∧Sl UX 2 w' (fun b=>w.heap.size≤b) A n cap Z0.cats∧Sl Ut 4 w' (fun b=>w.heap.size≤b) B m E Z0.cabs∧yw w w':=by
 go_enter func86,ntmps86;go_wp2_with fail;refine M4 (v:=.agg #[.int .i64 3,.int .i64 6,.slice (some ⟨w.heap.size+1+1+1,0,none⟩) 3 3,.slice (some ⟨w.heap.size+1+1+1+1,0,none⟩) 3 3]) (by simp[results,Tryz.results86,go_sem]) rfl ?_;refine⟨_,_,_,_,_,_,rfl,?_,?_,?_⟩
 ·refine Sl.ofBlk (l:=Z0.cats) (((Blk.new3 w _ _ _ _ _).old _)) (by decide) (by first|(show _≤_;omega)|(show _≤_;simp;omega)) fun i x I=>?_;rcases i with _|_|_|i
  ·obtain rfl:(⟨[73,78],[1]⟩:Cat)=x:=by simpa [Z0] using I
   exact⟨[Zf [73,78],.slice (some ⟨w.heap.size+1,0,none⟩) 1 1],⟨_,_,_,rfl,Sl.ofInts [1] ((((Blk.new1 w _ _ _).old _).old _).old _) (by decide) (by first|(show _≤_;omega)|(show _≤_;simp;omega)) (by decide),U8b (by decide)⟩,rfl,fun j u D=>by rcases j with _|_|j<;>simp_all⟩
  ·obtain rfl:(⟨[79,85,84],[2]⟩:Cat)=x:=by simpa [Z0] using I
   exact⟨[Zf [79,85,84],.slice (some ⟨w.heap.size+1+1,0,none⟩) 1 1],⟨_,_,_,rfl,Sl.ofInts [2] (((Blk.new2 w _ _ _ _).old _).old _) (by decide) (by first|(show _≤_;omega)|(show _≤_;simp;omega)) (by decide),U8b (by decide)⟩,rfl,fun j u D=>by rcases j with _|_|j<;>simp_all⟩
  ·obtain rfl:(⟨[83,85,73,84,69],[]⟩:Cat)=x:=by simpa [Z0] using I
   exact⟨[Zf [83,85,73,84,69],.slice none 0 0],⟨_,_,_,rfl,Sl.nil _ _ _ _,U8b (by decide)⟩,rfl,fun j u D=>by rcases j with _|_|j<;>simp_all⟩
  ·simp[Z0]at I
 ·refine Sl.ofBlk (l:=Z0.cabs) (Blk.new4 w _ _ _ _ _ _) (by decide) (by first|(show _≤_;omega)|(show _≤_;simp;omega)) fun i x I=>?_;rcases i with _|_|_|i
  ·obtain rfl:(⟨[65,49],0,2,false⟩:Cab)=x:=by simpa [Z0] using I
   exact⟨[Zf [65,49],.int .i64 0,.int .i64 2,.bool false],⟨rfl,U8b (by decide),.of (by decide) (by decide),.of (by decide) (by decide)⟩,rfl,fun j u D=>by rcases j with _|_|_|_|j<;>simp_all⟩
  ·obtain rfl:(⟨[66,49],1,4,true⟩:Cab)=x:=by simpa [Z0] using I
   exact⟨[Zf [66,49],.int .i64 1,.int .i64 4,.bool true],⟨rfl,U8b (by decide),.of (by decide) (by decide),.of (by decide) (by decide)⟩,rfl,fun j u D=>by rcases j with _|_|_|_|j<;>simp_all⟩
  ·obtain rfl:(⟨[67,49],2,2,false⟩:Cab)=x:=by simpa [Z0] using I
   exact⟨[Zf [67,49],.int .i64 2,.int .i64 2,.bool false],⟨rfl,U8b (by decide),.of (by decide) (by decide),.of (by decide) (by decide)⟩,rfl,fun j u D=>by rcases j with _|_|_|_|j<;>simp_all⟩
  ·simp[Z0]at I
 ·exact((X0 w _ _ _).alloc (by simp;omega) _).alloc (by simp;omega) _
theorem ZEb (w:World):Calls prog 88 #[] w fun e w'=>∃A n cap B m E,e=.returned (.agg #[.slice A n cap,.int .i64 50,.int .i64 33,.slice B m E,.int .i64 20])∧Sl (slC QO 1) 1 w' (fun b=>w.heap.size≤b) A n cap VP.leg∧Sl Vl 2 w' (fun b=>w.heap.size≤b) B m E VP.bands∧yw w w':=by
 go_enter func88,ntmps88;go_wp2_with fail;refine M4 (v:=.agg #[.slice (some ⟨w.heap.size+1+1+1+1,0,none⟩) 3 3,.int .i64 50,.int .i64 33,.slice (some ⟨w.heap.size+1+1+1+1+1,0,none⟩) 2 2,.int .i64 20]) (by simp[results,Tryz.results88,go_sem]) rfl ?_;refine⟨_,_,_,_,_,_,rfl,?_,?_,?_⟩
 ·refine Sl.ofBlk (l:=VP.leg) (((Blk.new4 w _ _ _ _ _ _).old _)) (by decide) (by first|(show _≤_;omega)|(show _≤_;simp;omega)) fun i x I=>?_;rcases i with _|_|_|i
  ·obtain rfl : [100,200,301]=x:=by simpa [VP] using I
   exact⟨[.slice (some ⟨w.heap.size+1,0,none⟩) 3 3],⟨_,_,_,rfl,Sl.ofInts [100,200,301] (((((Blk.new1 w _ _ _).old _).old _).old _).old _) (by decide) (by first|(show _≤_;omega)|(show _≤_;simp;omega)) (by decide)⟩,rfl,fun j u D=>by rcases j with _|j<;>simp_all⟩
  ·obtain rfl : [150,250,350]=x:=by simpa [VP] using I
   exact⟨[.slice (some ⟨w.heap.size+1+1,0,none⟩) 3 3],⟨_,_,_,rfl,Sl.ofInts [150,250,350] ((((Blk.new2 w _ _ _ _).old _).old _).old _) (by decide) (by first|(show _≤_;omega)|(show _≤_;simp;omega)) (by decide)⟩,rfl,fun j u D=>by rcases j with _|j<;>simp_all⟩
  ·obtain rfl : [500,500,500]=x:=by simpa [VP] using I
   exact⟨[.slice (some ⟨w.heap.size+1+1+1,0,none⟩) 3 3],⟨_,_,_,rfl,Sl.ofInts [500,500,500] (((Blk.new3 w _ _ _ _ _).old _).old _) (by decide) (by first|(show _≤_;omega)|(show _≤_;simp;omega)) (by decide)⟩,rfl,fun j u D=>by rcases j with _|j<;>simp_all⟩
  ·simp[VP]at I
 ·refine Sl.ofBlk (l:=VP.bands) (Blk.new5 w _ _ _ _ _ _ _) (by decide) (by first|(show _≤_;omega)|(show _≤_;simp;omega)) fun i x I=>?_;rcases i with _|_|i
  ·simp[VP]at I;subst I;exact⟨_,⟨rfl,.of (by decide) (by decide),.of (by decide) (by decide)⟩,rfl,fun j u D=>by rcases j with _|_|j<;>simp_all⟩
  ·simp[VP]at I;subst I;exact⟨_,⟨rfl,.of (by decide) (by decide),.of (by decide) (by decide)⟩,rfl,fun j u D=>by rcases j with _|_|j<;>simp_all⟩
  ·simp[VP]at I
 ·exact((X0 w _ _ _).alloc (by simp;omega) _ |>.alloc (by simp;omega) _).alloc (by simp;omega) _
theorem Blk.neTy {w:World}{a z:Nat}{xs D:Array Value}{t u:TypeId}(h:Blk w a xs t)(A:Blk w z D u)(E:t≠u):a≠z:=fun e=>by
 subst e;have h:w.heap[a]? = some (.cells xs t (0,0)):=h;have A:w.heap[a]? = some (.cells D u (0,0)):=A;rw[h]at A;simp only[Option.some.injEq,Obj.cells.injEq]at A;exact E A.2.1
theorem Y2b {n:Nat}{a w:World}(_:Below n a w)(z:Nat)(A:Array Value):Kept (fun k=>k=z) w (w.setRow z A):=(yk z w).setRow (.inl rfl) A
theorem UVa {f:Nat→Int}{k:Nat}(h:Qn f k≠0):∀{n:Nat},k≤n→Qn f n=Qn f k
 | 0,hn=>by(obtain rfl:k=0:=by omega);(rfl)
 | n+1,hn=>by
  by_cases e:k=n+1
  ·rw[e]
  ·have A:=UVa (f:=f) h (n:=n) (by omega)
   show(if Qn f n≠0 then Qn f n else f n)=_
   rw[A,M3 h]
theorem XD {f:Nat→Int}{k:Nat}{b:Int}(A:Qn f k=0)(D:f k=b):Qn f (k+1)=b:=by
 unfold Qn;rw[M2 (by simpa using A),D]
theorem Zqa (x:Sai)(p:SaiV)(w:World)(h:SaiR w x p) :
  Calls prog 13 #[.agg (Qa x p)] w fun e w'=>e=.returned (.int .i64 (QD x))∧yw w w':=by
 have bj:=yh (fun W h (O:OkBs x)=>Yg x p W h O.ship O.bk O.len);have HS:=yh h;obtain⟨A,n,cap,B,m,ah,D,nd,cd,E,ne,ce,C,I,cb⟩:=p;have hl:Sl ZP 11 w All C I cb x.bks:=h.bks;have hc:Sl UX 2 w All A n cap x.ship.cats:=h.cats;have hd:Sl Ut 4 w All B m ah x.ship.cabs:=h.cabs;have hf:FareR w D nd cd x.fares E ne ce:=h.fares;have b0:=hl.bd;have bI:=yh (fun b A3 n3 c3 W Z Y ho h3=>Vm x.ship A n cap B m ah b A3 n3 c3 W Z Y ho h3);obtain⟨r,V⟩:=yE (QD x);rw[←V];have aY:=fun W Z Y=>VDa x.ship A n cap B m ah W Z Y;have aV:=fun W Z=>Uza D nd cd x.fares E ne ce (n:Int) x.ship.legs W Z;obtain⟨se,ax⟩:=yE (Z9 x.ship);obtain⟨fe,aW⟩:=yE (ZI x.fares (n:Int) x.ship.legs);obtain⟨fl,au⟩:=yE (Qn (Vb x) I);obtain⟨an,aQ⟩:=yE (x.bks.any (Vj x.closed));obtain⟨re,aX⟩:=yE (QX x);obtain⟨d1,aT⟩:=yE (Qc x.day 0 9999);obtain⟨d2,aU⟩:=yE (Qc x.leaves 0 9999);obtain⟨be,ar⟩:=yE (Xy x);have az:=yh (show be=if 16<I then 2 else if fl≠0 then fl else if an=true then 4 else 0 by rw[ar,au,aQ,←hl.len];rfl);have HR:=yh (show r=if se≠0 then se else if fe≠0 then fe else if (d1 && d2)=false then 3 else if be≠0 then be else if re=8 then 2 else re by rw[V,ax,aW,ar,aX,aT,aU,←hc.len];rfl);have a5:=fun W=>Qj x.day 0 9999 W;have a6:=fun W=>Qj x.leaves 0 9999 W;rw[←aT]at a5;rw[←aU]at a6;rw[←ax]at aY;rw[←aW]at aV;rw[←aX]at bj;have bm:=yh aY;clear aY;have cf:=yh aV;clear aV;have bq:=yh a5;clear a5;have br:=yh a6;clear a6;have bn:=yh ax;clear ax;have bH:=yh ar;clear ar;have aC:=yh au;clear au;have a9:=yh aQ;clear aQ;have HN:=yh hl.len;have HC:=yh hc;have HD:=yh hd;have HF:=yh hf;have HL:=yh hl;clear h hc hd hf V aW aX aT aU hl;go_enter func13,ntmps13;go_upto_region 0 with(fail);go_cut [1,2] (fun q _ wx=>∃g,yp q g∧Blk wx g (Qa x ⟨A,n,cap,B,m,ah,D,nd,cd,E,ne,ce,C,I,cb⟩) 32∧yw w wx)
 case first=>as_aux_lemma=>
  go_wp2_with fail;go_meet;exact⟨_,rfl,Zk _ _,Qi _ _⟩
 obtain⟨g,rfl,hG,b9⟩:=hcut;have s0:yI wc g 0 x.ship.legs:=hG.cell rfl;have s1:yI wc g 1 x.ship.souls:=hG.cell rfl;have s2:yJ wc g 2 A n cap:=hG.cell rfl;have s3:yJ wc g 3 B m ah:=hG.cell rfl;have s4:yJ wc g 4 D nd cd:=hG.cell rfl;have s5:yI wc g 5 x.fares.alone:=hG.cell rfl;have s6:yI wc g 6 x.fares.third:=hG.cell rfl;have s7:yJ wc g 7 E ne ce:=hG.cell rfl;have s8:yI wc g 8 x.fares.down:=hG.cell rfl;have s9:yI wc g 9 x.day:=hG.cell rfl;have ay:yI wc g 10 x.leaves:=hG.cell rfl;have ac:yJ wc g 11 C I cb:=hG.cell rfl;have av:wc.cell? ⟨g,12,none⟩=some (.bool x.closed):=hG.cell rfl;have ai:=yh (bm wc (HC.bel b9) (HD.bel b9));go_wp2_with fail;refine yM ai fun w2 aS=>?_;replace hG:=hG.bel aS;replace b9:=b9.trans (aS.mono b9.size);clear aS s0 s1 s2 s3 s4 s5 s6 s7 s8 s9 ay ac av ai bm;obtain⟨e1,bv⟩:=yE (if se≠0 then se else fe);have aA:=yh bv;clear bv;go_upto_if 11 with(fail);obtain⟨W2,bO⟩:=yE w2;subst bO;go_cut [3] (fun q wx=>q=.int .i64 e1∧yw W2 wx)
 case first=>as_aux_lemma=>
  by_cases h0:se=0
  ·obtain rfl:e1=fe:=by rw[aA.out,M2 (by rw[h0];simp)]
   subst h0;have s0:yI W2 g 0 x.ship.legs:=hG.cell rfl;have s1:yI W2 g 1 x.ship.souls:=hG.cell rfl;have s2:yJ W2 g 2 A n cap:=hG.cell rfl;have s3:yJ W2 g 3 B m ah:=hG.cell rfl;have s4:yJ W2 g 4 D nd cd:=hG.cell rfl;have s5:yI W2 g 5 x.fares.alone:=hG.cell rfl;have s6:yI W2 g 6 x.fares.third:=hG.cell rfl;have s7:yJ W2 g 7 E ne ce:=hG.cell rfl;have s8:yI W2 g 8 x.fares.down:=hG.cell rfl;have s9:yI W2 g 9 x.day:=hG.cell rfl;have ay:yI W2 g 10 x.leaves:=hG.cell rfl;have ac:yJ W2 g 11 C I cb:=hG.cell rfl;have av:W2.cell? ⟨g,12,none⟩=some (.bool x.closed):=hG.cell rfl;have ai:=yh (cf W2 (HF.below b9));clear hG b9;go_wp2_with fail;refine yM ai fun w3 ap=>?_;go_wp2_with fail;go_meet;exact⟨rfl,ap⟩
  ·obtain rfl:e1=se:=by rw[aA.out,M3 h0]
   have aK:(e1==0)=false:=by simpa using h0
   clear h0 hG b9;go_wp2_with fail;go_meet;exact⟨rfl,J4 _ _⟩
 obtain⟨rfl,ap⟩:=hcut;replace hG:=hG.bel ap;replace b9:=b9.trans (ap.mono b9.size);clear ap cf;obtain⟨e2,bw⟩:=yE (if e1≠0 then e1 else if (d1 && d2)=false then 3 else 0);have aG:=yh bw;clear bw;obtain⟨tv,a3⟩:=yE (decide (e1=0) && !(d1 && d2))
 have bb:=yh (show e2=if tv=true then 3 else e1 by
  rw[aG.out,a3];by_cases h0:e1=0
  ·rw[M2 (by rw[h0];simp),J2 h0];cases hd:(d1 && d2)<;>simp[h0]
  ·rw[M3 h0,J3 h0];simp)
 have bo:=yh a3;clear a3;go_upto_region 4 with(fail);obtain⟨W3,rfl⟩:=yE wc;go_cut [35] (fun q wx=>q=.bool tv∧W3=wx)
 case first=>as_aux_lemma=>
  by_cases h0:e1=0
  ·have ao:=yh (show tv = !(d1 && d2)by rw[bo.out,J2 h0];rfl);subst h0;have s9:yI W3 g 9 x.day:=hG.cell rfl;have ay:yI W3 g 10 x.leaves:=hG.cell rfl;clear hG b9;go_wp2_with fail;refine(bq _).mono ?_;rintro e w9 ⟨rfl,rfl⟩;cases d1
   ·obtain rfl:tv=true:=ao.out;go_wp2_with fail;go_meet;exact⟨rfl,rfl⟩
   go_wp2_with fail;refine yN (br _) ?_;cases d2
   ·obtain rfl:tv=true:=ao.out;go_wp2_with fail;go_meet;exact⟨rfl,rfl⟩
   ·obtain rfl:tv=false:=ao.out;go_wp2_with fail;go_meet;exact⟨rfl,rfl⟩
  ·obtain rfl:tv=false:=by rw[bo.out,J3 h0];rfl
   have aK:(e1==0)=false:=by simpa using h0
   clear h0 hG b9;go_wp2_with fail;go_meet;exact⟨rfl,rfl⟩
 obtain⟨rfl,a7⟩:=hcut;subst a7;go_upto_if 35 with(fail);go_cut [3] (fun q wx=>q=.int .i64 e2∧W3=wx)
 case first=>as_aux_lemma=>
  cases tv
  ·obtain rfl:e2=e1:=bb.out;clear hG b9;go_wp2_with fail;go_meet;exact⟨rfl,rfl⟩
  ·obtain rfl:e2=3:=bb.out;clear hG b9;go_wp2_with fail;go_meet;exact⟨rfl,rfl⟩
 obtain⟨rfl,a7⟩:=hcut;subst a7;clear bq br;obtain⟨J,bx⟩:=yE (if e2≠0 then e2 else if 16<I then 2 else 0);have ao:=yh bx;clear bx;obtain⟨tw,a4⟩:=yE (decide (e2=0) && decide (16<I))
 have bc:=yh (show J=if tw=true then 2 else e2 by
  rw[ao.out,a4];by_cases h0:e2=0
  ·rw[M2 (by rw[h0];simp),J2 h0];by_cases ca:16<I
   ·rw[M3 ca,J2 ca];rfl
   ·rw[M2 ca,J3 ca];simp[h0]
  ·rw[M3 h0,J3 h0];simp)
 have bp:=yh a4;clear a4;go_upto_region 6 with(fail);obtain⟨W4,bP⟩:=yE W3;subst bP;go_cut [43] (fun q wx=>q=.bool tw∧W4=wx)
 case first=>as_aux_lemma=>
  by_cases h0:e2=0
  ·have aq:=yh (show tw=decide (16<I)by rw[bp.out,J2 h0];rfl);subst h0;have ac:yJ W4 g 11 C I cb:=hG.cell rfl;clear hG b9;by_cases ca:16<I
   ·obtain rfl:tw=true:=by rw[aq.out,J2 ca]
    have hd:decide (16<(I:Int))=true:=J2 (by omega);clear ca;go_wp2_with fail;go_meet;exact⟨rfl,rfl⟩
   ·obtain rfl:tw=false:=by rw[aq.out,J3 ca]
    have hd:decide (16<(I:Int))=false:=J3 (by omega);clear ca;go_wp2_with fail;go_meet;exact⟨rfl,rfl⟩
  ·obtain rfl:tw=false:=by rw[bp.out,J3 h0];rfl
   have aK:(e2==0)=false:=by simpa using h0
   clear h0 hG b9;go_wp2_with fail;go_meet;exact⟨rfl,rfl⟩
 obtain⟨rfl,a8⟩:=hcut;subst a8;go_upto_if 43 with(fail);go_cut [3] (fun q wx=>q=.int .i64 J∧W4=wx)
 case first=>as_aux_lemma=>
  cases tw
  ·obtain rfl:J=e2:=bc.out;clear hG b9;go_wp2_with fail;go_meet;exact⟨rfl,rfl⟩
  ·obtain rfl:J=2:=bc.out;clear hG b9;go_wp2_with fail;go_meet;exact⟨rfl,rfl⟩
 obtain⟨rfl,a8⟩:=hcut;subst a8
 have HZ:=yh (show J=0→se=0∧¬16<I∧r=if be≠0 then be else if re=8 then 2 else re from fun h=>by
  have h3:=ao.out;have Y:=aG.out;have Z:=aA.out;have V:=HR.out;by_cases a2:e2=0;rotate_left
  ·rw[M3 a2]at h3;omega
  rw[M2 (by rw[a2];simp)]at h3;by_cases a1:e1=0;rotate_left
  ·rw[M3 a1]at Y;omega
  rw[M2 (by rw[a1];simp)]at Y;by_cases a0:se=0;rotate_left
  ·rw[M3 a0]at Z;omega
  rw[M2 (by rw[a0];simp)]at Z V;rw[M2 (by rw[←Z,a1];simp)]at V;refine⟨a0,fun hc=>by rw[M3 hc]at h3;omega,?_⟩;by_cases ad:(d1 && d2)=false
  ·rw[M3 ad]at Y;omega
  ·rw[M2 ad]at V;exact V)
 have bf:=yh (show J≠0→r=J from fun h=>by
  have h3:=ao.out;have Y:=aG.out;have Z:=aA.out;have V:=HR.out;by_cases a0:se=0
  ·rw[M2 (by rw[a0];simp)]at Z V;by_cases a1:fe=0
   ·rw[M2 (by rw[a1];simp)]at V;rw[M2 (by rw[Z,a1];simp)]at Y;by_cases ad:(d1 && d2)=false
    ·rw[M3 ad]at Y V;rw[M3 (by rw[Y];simp)]at h3;rw[V,h3,Y]
    ·rw[M2 ad]at Y V;rw[M2 (by rw[Y];simp)]at h3;by_cases a16:16<I
     ·rw[M3 a16]at h3;have O:=az.out;rw[M3 a16]at O;rw[M3 (by rw[O];simp)]at V;rw[V,O,h3]
     ·rw[M2 a16]at h3;exact absurd h3 h
   ·rw[M3 a1]at V;rw[M3 (by rw[Z];exact a1)]at Y;rw[M3 (by rw[Y,Z];exact a1)]at h3;rw[V,h3,Y,Z]
  ·rw[M3 a0]at Z V;rw[M3 (by rw[Z];exact a0)]at Y;rw[M3 (by rw[Y,Z];exact a0)]at h3
   rw[V,h3,Y,Z])
 clear aA aG ao HR;obtain⟨W0,bN⟩:=yE W4;subst bN;have HG:=yh hG;clear hG;have aF:=yh b9;clear b9;obtain⟨e4,bz⟩:=yE (if J≠0 then J else fl);have aq:=yh bz;clear bz;have aB:=yh (show J=0→e4=Qn (Vb x) I from fun h=>by rw[aq.out,M2 (by rw[h];simp),aC.out]);have aH:=yh (show J≠0→e4=J from fun h=>by rw[aq.out,M3 h]);go_upto_block 0 with(fail);go_cut [3,4] (fun v _ wx=>v=.int .i64 e4∧yw W0 wx)
 case first=>as_aux_lemma=>
  go_wp2_with fail
  go_loopg [3,4] I (fun gk v i wr=>∃(k:Nat) (f:Int),k≤I∧I-k≤gk∧i=.int .i64 k∧v=.int .i64 f∧Aside (f=if J≠0 then J else Qn (Vb x) k)∧yw W0 wr)
  case atStart=>exact⟨0,J,M0 _,by omega,rfl,rfl,(by show J=if J≠0 then J else 0;by_cases h:J=0<;>simp[h]),J4 _ _⟩
  case round=>
   obtain⟨k,f,hk,bS,rfl,rfl,HE,O⟩:=hrel;have Q:=aF.trans (O.mono aF.size);have hG:=HG.bel O;by_cases hlt:k<I;rotate_left
   ·obtain rfl:k=I:=by omega
    obtain rfl:f=e4:=by
     have hE:f=if J≠0 then J else Qn (Vb x) k:=HE;rw[hE,aq.out,aC.out]
    have ac:yJ wr g 11 C k cb:=hG.cell rfl;clear hG;go_wp2_with fail;go_meet;exact⟨rfl,O⟩
   by_cases hf0:f=0;rotate_left
   ·obtain rfl:f=e4:=by
     have hE:f=if J≠0 then J else Qn (Vb x) k:=HE;by_cases h3:J=0
     ·rw[M2 (by rw[h3];simp)]at hE;rw[aB.out h3,hE,UVa (by rw[←hE];exact hf0) hk]
     ·rw[M3 h3]at hE;rw[hE,aH.out h3]
    have ac:yJ wr g 11 C I cb:=hG.cell rfl
    have b1:(f==0)=false:=by simpa using hf0
    clear hG hf0;go_wp2_with fail;go_meet;exact⟨rfl,O⟩
   have aj:=yh (show J=0∧Qn (Vb x) k=0 from by
    have hE:f=if J≠0 then J else Qn (Vb x) k:=HE;by_cases h3:J=0
    ·rw[M2 (by rw[h3];simp)]at hE;exact⟨h3,by rw[←hE];exact hf0⟩
    ·rw[M3 h3]at hE
     exact absurd (by rw[←hE];exact hf0) h3)
   subst hf0;clear HE;obtain⟨ab,F,⟨id,ae,af,am,lev,aa,ak,al,upto,cc,aD⟩,A3,n3,c3,hA,hx,hF,hI,U⟩:=(HL.bel Q).bkg hlt;subst hA;simp only at hF;have y0:yI wr ab (F+k*11) id:=U 0 _ rfl;have y1:yI wr ab (F+k*11+1) ae:=U 1 _ rfl;have y2:yI wr ab (F+k*11+2) af:=U 2 _ rfl;have y3:yI wr ab (F+k*11+3) am:=U 3 _ rfl;have y4:wr.cell? ⟨ab,F+k*11+4,none⟩=some (.bool lev):=U 4 _ rfl;have y5:yI wr ab (F+k*11+5) aa:=U 5 _ rfl;have y6:yI wr ab (F+k*11+6) ak:=U 6 _ rfl;have y7:yI wr ab (F+k*11+7) al:=U 7 _ rfl;have y8:yI wr ab (F+k*11+8) upto:=U 8 _ rfl;have y9:yI wr ab (F+k*11+9) cc:=U 9 _ rfl;have aM:yJ wr ab (F+k*11+10) A3 n3 c3:=U 10 _ rfl;clear U;have s0:yI wr g 0 x.ship.legs:=hG.cell rfl;have s1:yI wr g 1 x.ship.souls:=hG.cell rfl;have s2:yJ wr g 2 A n cap:=hG.cell rfl;have s3:yJ wr g 3 B m ah:=hG.cell rfl;have s4:yJ wr g 4 D nd cd:=hG.cell rfl;have s5:yI wr g 5 x.fares.alone:=hG.cell rfl;have s6:yI wr g 6 x.fares.third:=hG.cell rfl;have s7:yJ wr g 7 E ne ce:=hG.cell rfl;have s8:yI wr g 8 x.fares.down:=hG.cell rfl;have s9:yI wr g 9 x.day:=hG.cell rfl;have ay:yI wr g 10 x.leaves:=hG.cell rfl;have ac:yJ wr g 11 (some ⟨ab,F,none⟩) I cb:=hG.cell rfl;have av:wr.cell? ⟨g,12,none⟩=some (.bool x.closed):=hG.cell rfl;have aP:=yh (show ∀X,yw wr X→(fun w'=>yI w' g 0 x.ship.legs∧yI w' g 1 x.ship.souls∧yJ w' g 2 A n cap∧yJ w' g 3 B m ah∧yJ w' g 11 (some ⟨ab,F,none⟩) I cb∧yI w' ab (F+k*11) id∧yI w' ab (F+k*11+1) ae∧yI w' ab (F+k*11+2) af∧yI w' ab (F+k*11+3) am∧w'.cell? ⟨ab,F+k*11+4,none⟩=some (.bool lev)∧yI w' ab (F+k*11+5) aa∧yI w' ab (F+k*11+6) ak∧yI w' ab (F+k*11+7) al∧yI w' ab (F+k*11+8) upto∧yI w' ab (F+k*11+9) cc∧yJ w' ab (F+k*11+10) A3 n3 c3) X from fun X hX=>⟨Qh hX s0,Qh hX s1,Qh hX s2,Qh hX s3,Qh hX ac,Qh hX y0,Qh hX y1,Qh hX y2,Qh hX y3,Qh hX y4,Qh hX y5,Qh hX y6,Qh hX y7,Qh hX y8,Qh hX y9,Qh hX aM⟩);clear s0 s1 s2 s3 s4 s5 s6 s7 s8 s9 ay y0 y1 y2 y3 y4 y5 y6 y7 y8 y9 aM;obtain⟨q,hq⟩:=yE (ofE x.ship ⟨id,ae,af,am,lev,aa,ak,al,upto,cc,aD⟩);have bB:=Voa (bn.symm.trans (HZ aj.1).1);have ai:=yh (fun W (hW:yw wr W)=>bI ⟨id,ae,af,am,lev,aa,ak,al,upto,cc,aD⟩ A3 n3 c3 W (HC.bel (Q.trans (hW.mono Q.size))) (HD.bel (Q.trans (hW.mono Q.size))) bB (hF.bel hW));have aR:=Yi hx;rw[←hq]at ai aR;have aN:=yh aR;clear aR;have HX:=yh hx;clear hx;have bV:=yh hG;clear hG;have bT:(0:Int)≤(k:Int):=Int.natCast_nonneg _
   have bU:(k:Int)<(I:Int):=by omega
   clear hF hI bB;go_upto_region 11 with(fail);go_cut [3] (fun t wx=>t=.int .i64 q∧yw wr wx)
   case first=>as_aux_lemma=>
    have ag:yw wr wr.drew:=(J4 _ wr).drew;clear O Q ac hq;refine yZ (S:=(fun w'=>yI w' g 0 x.ship.legs∧yI w' g 1 x.ship.souls∧yJ w' g 2 A n cap∧yJ w' g 3 B m ah∧yJ w' g 11 (some ⟨ab,F,none⟩) I cb∧yI w' ab (F+k*11) id∧yI w' ab (F+k*11+1) ae∧yI w' ab (F+k*11+2) af∧yI w' ab (F+k*11+3) am∧w'.cell? ⟨ab,F+k*11+4,none⟩=some (.bool lev)∧yI w' ab (F+k*11+5) aa∧yI w' ab (F+k*11+6) ak∧yI w' ab (F+k*11+7) al∧yI w' ab (F+k*11+8) upto∧yI w' ab (F+k*11+9) cc∧yJ w' ab (F+k*11+10) A3 n3 c3)) (aP _ ag) fun bM=>?_;refine yT [0,1,2,3,4,5,6] ?_;iterate 7 (refine yS ?_;simp only[yU])
    refine yR 7 fun K hK=>?_;go_simp
    (go_at_call 71;refine yM (ai _ ag) fun w3 ap=>?_;replace ag:=ag.trans (ap.mono ag.size);clear ap)
    go_wp2_with fail;refine hK.out _ _ (aP _ ag) fun bM=>?_;clear hK K
    try simp only[yU]
    refine yT [8] ?_;iterate 1 (refine yS ?_;simp only[yU])
    refine yD ?_;go_wp2_with fail;go_meet;exact⟨rfl,ag⟩
   obtain⟨rfl,aw⟩:=hcut;have ag:=O.trans (aw.mono O.size);clear hq ac;by_cases hq0:q=0;rotate_left
   ·have aK:(q==0)=false:=by simpa using hq0
    have HV:=yh (show q=if J≠0 then J else Qn (Vb x) (k+1)by
     rw[M2 (by rw[aj.out.1];simp),XD aj.out.2 (by rw[aN.out,M3 hq0])])
    have HB:=yh ag;clear ag;clear hq0 O aw Q;go_wp2_with fail;go_quiet (fail);go_wp2_with fail;go_roundg (I-(k+1))
    case measure=>omega
    case rel=>exact⟨k+1,q,by omega,by omega,by go_num,rfl,HV,by first|exact HB|exact below_drewN HB _|exact HB.drew⟩
   subst hq0;have aE:=yh (aN.trans (M2 (by simp)));obtain⟨-,-,-,-,ac,y0,-⟩:=aP _ aw;have HB:=yh ag;clear ag;clear aN;rcases k with _|j
   ·have HV:=yh (show(0:Int)=if J≠0 then J else Qn (Vb x) (0+1)by
     rw[M2 (by rw[aj.out.1];simp),XD aj.out.2 (by rw[aE.out,M2 (fun h=>absurd h.1 (Nat.lt_irrefl 0))])])
    clear aE O aw Q;go_wp2_with fail;go_quiet (fail);go_wp2_with fail;go_roundg (I-1)
    case measure=>omega
    case rel=>exact⟨1,0,by omega,by omega,by first|rfl|go_num,rfl,HV,by first|exact HB|exact below_drewN HB _|exact HB.drew⟩
   ·obtain⟨bW,b7,y,A4,n4,c4,bs,hy,_,_,bt⟩:=((HL.bel Q).bel aw).bkg (k:=j) (by omega);simp only[Option.some.injEq,Addr.mk.injEq,and_true]at bs;obtain⟨rfl,rfl⟩:=bs;have u0:yI wc ab (F+j*11) y.id:=bt 0 _ rfl
    have bA:(x.bks.getD (j+1-1) default).id=y.id:=by rw[Nat.add_sub_cancel,J7,hy];rfl
    have aO:=yh (aE.out);rw[bA]at aO;have hw:IntKind.i64.wrap (j:Int)=j:=IntWalk.i64_in _ (by omega);have b2:(0:Int)≤(j:Int):=Int.natCast_nonneg _
    have b3:(j:Int)<(I:Int):=by omega
    have b4:(0:Int)<(j:Int)+1:=by omega
    have b5:decide ((0:Int)<((j+1:Nat):Int))=true:=by simp
    clear bt hy bA aE Q O aw;by_cases hle:id≤y.id
    ·have HV:=yh (show(4:Int)=if J≠0 then J else Qn (Vb x) (j+1+1)by
      rw[M2 (by rw[aj.out.1];simp),XD aj.out.2 (by rw[aO.out,M3 ⟨Nat.succ_pos _,hle⟩])])
     go_wp2_with fail;go_quiet (fail);go_wp2_with fail;go_roundg (I-(j+1+1))
     case measure=>omega
     case rel=>exact⟨j+1+1,4,by omega,by omega,by go_num,rfl,HV,by first|exact HB|exact below_drewN HB _|exact HB.drew⟩
    ·have HV:=yh (show(0:Int)=if J≠0 then J else Qn (Vb x) (j+1+1)by
      rw[M2 (by rw[aj.out.1];simp),XD aj.out.2 (by rw[aO.out,M2 (fun h=>hle h.2)])])
     have b6:y.id<id:=by omega
     clear hle;go_wp2_with fail;go_quiet (fail);go_wp2_with fail;go_roundg (I-(j+1+1))
     case measure=>omega
     case rel=>exact⟨j+1+1,0,by omega,by omega,by go_num,rfl,HV,by first|exact HB|exact below_drewN HB _|exact HB.drew⟩
 obtain⟨rfl,O⟩:=hcut;have Q:=aF.trans (O.mono aF.size)
 have bl:=yh (show e4=0→J=0∧r=if an=true then 4 else if re=8 then 2 else re from fun h=>by
  have h3:J=0:=by
   by_cases h3:J=0
   ·exact h3
   ·rw[aH.out h3]at h;exact absurd h h3
  obtain⟨_,ca,V⟩:=HZ h3;refine⟨h3,?_⟩;have O:=az.out;rw[M2 ca,M2 (by rw[aC.out,←aB.out h3,h];simp)]at O;rw[V,O]
  cases an<;>simp)
 by_cases h4:e4=0;rotate_left
 ·obtain rfl:r=e4:=by
   by_cases h3:J=0
   ·obtain⟨_,ca,V⟩:=HZ h3;have O:=az.out
    have au:fl=e4:=by rw[aC.out,←aB.out h3]
    rw[M2 ca,M3 (by rw[au];exact h4)]at O;rw[V,O,M3 (by rw[au];exact h4),au]
   ·rw[aH.out h3];exact bf h3
  have bY:(r !=0)=true:=by simpa using h4
  clear h4 O;go_wp2_with fail;go_ret;exact⟨rfl,Q⟩
 obtain⟨h3,bC⟩:=bl h4
 have ar:an=false→OkBs x:=fun ha=>by
  obtain⟨ax,ca,_⟩:=HZ h3;refine QFb (Voa (bn.symm.trans ax)) ?_;have O:=az.out;rw[M2 ca,M2 (by rw[aC.out,←aB.out h3,h4];simp),M2 (by rw[ha];simp)]at O;rw[←bH.out,O]
 have bh:=yh bC;clear bC;have bG:=yh ar;clear ar;subst h4;clear h3 bl aB aH aq bf HZ az;obtain⟨W1,rfl⟩:=yE wc;have bD:=yh O;clear O;have ba:=yh Q;clear Q;have bJ:=yh (HG.bel bD);clear HG;go_wp2_with fail
 go_loopg [5] I (fun gk i wr=>∃k:Nat,k≤I∧I-k≤gk∧i=.int .i64 k∧Aside ((x.bks.take k).any (Vj x.closed)=false)∧yw W1 wr)
 case atStart=>exact⟨0,M0 _,by omega,rfl,rfl,J4 _ _⟩
 case round=>
  obtain⟨k,hk,bS,rfl,HA,O⟩:=hrel;have Q:=ba.trans (O.mono ba.size);have hG:=bJ.bel O;by_cases hlt:k<I
  ·have bK:=yh (HL.bel Q);obtain⟨ab,F,⟨id,ae,af,am,lev,aa,ak,al,upto,cc,aD⟩,A3,n3,c3,hA,hx,hF,hI,U⟩:=(bK.out).bkg hlt;subst hA;simp only at hF;have y0:yI wr ab (F+k*11) id:=U 0 _ rfl;have y1:yI wr ab (F+k*11+1) ae:=U 1 _ rfl;have y2:yI wr ab (F+k*11+2) af:=U 2 _ rfl;have y3:yI wr ab (F+k*11+3) am:=U 3 _ rfl;have y4:wr.cell? ⟨ab,F+k*11+4,none⟩=some (.bool lev):=U 4 _ rfl;have y5:yI wr ab (F+k*11+5) aa:=U 5 _ rfl;have y6:yI wr ab (F+k*11+6) ak:=U 6 _ rfl;have y7:yI wr ab (F+k*11+7) al:=U 7 _ rfl;have y8:yI wr ab (F+k*11+8) upto:=U 8 _ rfl;have y9:yI wr ab (F+k*11+9) cc:=U 9 _ rfl;have aM:yJ wr ab (F+k*11+10) A3 n3 c3:=U 10 _ rfl;clear U;have ac:yJ wr g 11 (some ⟨ab,F,none⟩) I cb:=hG.cell rfl;have bT:(0:Int)≤(k:Int):=Int.natCast_nonneg _
   have bU:(k:Int)<(I:Int):=by omega
   go_upto_region 19 with(fail);go_cut [6] (fun p1 wx=>∃z,yp p1 z∧Blk wx z (Qk ⟨id,ae,af,am,lev,aa,ak,al,upto,cc,aD⟩ (.slice A3 n3 c3)) 63∧yw wr wx)
   case first=>as_aux_lemma=>
    go_wp2_with fail;go_meet;exact⟨_,rfl,Zk _ _,Qi _ _⟩
   obtain⟨z,rfl,hZ,aL⟩:=hcut;replace hG:=hG.bel aL;replace O:=O.trans (aL.mono O.size);replace Q:=Q.trans (aL.mono Q.size);clear y0 y1 y2 y3 y4 y5 y6 y7 y8 y9 aM hF hI aL ac;obtain⟨q,hq⟩:=yE (Vj x.closed ⟨id,ae,af,am,lev,aa,ak,al,upto,cc,aD⟩);have aZ:=Qu (p:=Vj x.closed) hx;rw[←hq]at aZ;have HM:=yh (J6 hx);have bg:=yh (show q=(decide (ae=2) && (!decide (af=3) && (decide (aa<0)==x.closed)))by rw[hq];rfl);have bL:=yh aZ;clear aZ;have HQ:=yh hq;clear hq;clear hx;have z1:yI wc z 1 ae:=hZ.cell rfl;have z2:yI wc z 2 af:=hZ.cell rfl;have z5:yI wc z 5 aa:=hZ.cell rfl;have av:wc.cell? ⟨g,12,none⟩=some (.bool x.closed):=hG.cell rfl;obtain⟨cl,bu⟩:=yE x.closed;have aI:=yh (bg.out);rw[←bu]at aI av;obtain⟨W2,rfl⟩:=yE wc;have bE:=yh O;clear O;have bF:=yh Q;clear Q;clear hG hZ bu bg;go_upto_region 20 with(fail);go_cut [126] (fun t wx=>t=.bool q∧wx=W2)
   case first=>as_aux_lemma=>
    by_cases hkd:ae=2;rotate_left
    ·obtain rfl:q=false:=by rw[aI.out,J3 hkd];rfl
     have aK:(ae==2)=false:=by simpa using hkd
     clear hkd;go_wp2_with fail;go_meet;exact⟨rfl,rfl⟩
    by_cases h3:af=3
    ·obtain rfl:q=false:=by rw[aI.out,J2 h3];simp
     subst h3 hkd;go_wp2_with fail;go_meet;exact⟨rfl,rfl⟩
    have bX:(af !=3)=true:=by simpa using h3
    have aJ:=yh (show q=(decide (aa<0)==cl)by rw[aI.out,J2 hkd,J3 h3];rfl);subst hkd;clear h3;by_cases hcb:aa<0
    ·have bR:¬0≤aa:=by omega
     cases cl
     ·obtain rfl:q=false:=by rw[aJ.out,J2 hcb];rfl
      go_wp2_with fail;go_meet;exact⟨rfl,rfl⟩
     ·obtain rfl:q=true:=by rw[aJ.out,J2 hcb];rfl
      go_wp2_with fail;go_meet;exact⟨rfl,rfl⟩
    ·have bR:0≤aa:=by omega
     cases cl
     ·obtain rfl:q=true:=by rw[aJ.out,J3 hcb];rfl
      go_wp2_with fail;go_meet;exact⟨rfl,rfl⟩
     ·obtain rfl:q=false:=by rw[aJ.out,J3 hcb];rfl
      go_wp2_with fail;go_meet;exact⟨rfl,rfl⟩
   obtain⟨rfl,rfl⟩:=hcut;clear z1 z2 z5 av;cases q
   ·have HV:=yh (show(x.bks.take (k+1)).any (Vj x.closed)=false by rw[bL.out,HA];rfl);go_wp2_with fail;go_roundg (I-(k+1))
    case measure=>omega
    case rel=>exact⟨k+1,by omega,by omega,by go_num,HV,bE⟩
   ·have ha:an=true:=by rw[a9.out];exact List.any_eq_true.2 ⟨_,HM,HQ.symm⟩
    obtain rfl:r=4:=by rw[bh.out,M3 ha]
    clear ha;go_wp2_with fail;go_ret;exact⟨rfl,bF⟩
  ·obtain rfl:I=k:=by omega
   have ac:yJ wr g 11 C I cb:=hG.cell rfl
   have ha:an=false:=by
    rw[a9.out];have hA:(x.bks.take I).any (Vj x.closed)=false:=HA
    rwa [M1 (Nat.le_of_eq HN)]at hA
   have bi:=yh (show r=if re=8 then 2 else re by rw[bh.out,M2 (by rw[ha];simp)]);have ai:=yh (bj wr (HS.bel Q) (bG ha));have s0:yI wr g 0 x.ship.legs:=hG.cell rfl;have s1:yI wr g 1 x.ship.souls:=hG.cell rfl;have s2:yJ wr g 2 A n cap:=hG.cell rfl;have s3:yJ wr g 3 B m ah:=hG.cell rfl;have s4:yJ wr g 4 D nd cd:=hG.cell rfl;have s5:yI wr g 5 x.fares.alone:=hG.cell rfl;have s6:yI wr g 6 x.fares.third:=hG.cell rfl;have s7:yJ wr g 7 E ne ce:=hG.cell rfl;have s8:yI wr g 8 x.fares.down:=hG.cell rfl;have s9:yI wr g 9 x.day:=hG.cell rfl;have ay:yI wr g 10 x.leaves:=hG.cell rfl;have ac:yJ wr g 11 C I cb:=hG.cell rfl;have av:wr.cell? ⟨g,12,none⟩=some (.bool x.closed):=hG.cell rfl;clear hG ha HA;go_wp2_with fail;refine yM ai fun w5 bQ=>?_;replace Q:=Q.trans (bQ.mono Q.size);by_cases h8:re=8
   ·obtain rfl:r=2:=by rw[bi.out,M3 h8]
    subst h8;go_wp2_with fail;go_ret;exact⟨rfl,Q⟩
   ·obtain rfl:r=re:=by rw[bi.out,M2 h8]
    have bZ:(r==8)=false:=by simpa using h8
    clear h8;go_wp2_with fail;go_ret;exact⟨rfl,Q⟩
end Go.Proofs.YtjdcokpmgionjaaGreat
