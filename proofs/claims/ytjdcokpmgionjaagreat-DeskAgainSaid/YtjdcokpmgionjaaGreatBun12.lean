/-
  Words, laws and contracts: MatchD, MatchE, MatchF.
-/
import Derived.Test.YtjdcokpmgionjaaGreatBun11
import Derived.Laws.CopyOwn
import Derived.Deep.RegionLaw
set_option linter.unusedSimpArgs false
set_option linter.unusedVariables false
set_option maxRecDepth 100000
set_option maxHeartbeats 20000000
namespace Go.Proofs.YtjdcokpmgionjaaGreat
open Go.RowKit Go.Shelf
theorem Ukc (w:World):Calls Tryz.prog 267 #[.int .u64 1,.int .u64 0] w fun e w'=>e=.returned (.tuple #[.int .u64 0,.int .u64 0])∧w'=w:=by
 go_enter Tryz.func267,Tryz.ntmps267
 go_wp2_with fail
 go_ret2
 exact⟨rfl,rfl⟩
theorem URc (W:World):(Instr.makeSlice 70 (.int .i64 0) (.int .i64 0)).run Tryz.prog W=.ok (.slice (some ⟨W.heap.size,0,none⟩) 0 0) (W.alloc (.cells (Array.replicate 0 (Value.int .i64 0)) 3)):=by kernel_rfl
theorem Ulc (w:World):Calls Tryz.prog 267 #[.int .u64 1,.int .u64 1] w fun e w'=>e=.returned (.tuple #[.int .u64 0,.int .u64 1])∧w'=w:=by
 go_enter Tryz.func267,Tryz.ntmps267
 go_wp2_with fail
 go_ret2
 exact⟨rfl,rfl⟩
theorem USc (W:World):(Instr.makeSlice 70 (.int .i64 1) (.int .i64 1)).run Tryz.prog W=.ok (.slice (some ⟨W.heap.size,0,none⟩) 1 1) (W.alloc (.cells (Array.replicate 1 (Value.int .i64 0)) 3)):=by kernel_rfl
theorem Umc (w:World):Calls Tryz.prog 267 #[.int .u64 1,.int .u64 2] w fun e w'=>e=.returned (.tuple #[.int .u64 0,.int .u64 2])∧w'=w:=by
 go_enter Tryz.func267,Tryz.ntmps267
 go_wp2_with fail
 go_ret2
 exact⟨rfl,rfl⟩
theorem UTc (W:World):(Instr.makeSlice 70 (.int .i64 2) (.int .i64 2)).run Tryz.prog W=.ok (.slice (some ⟨W.heap.size,0,none⟩) 2 2) (W.alloc (.cells (Array.replicate 2 (Value.int .i64 0)) 3)):=by kernel_rfl
theorem Unc (w:World):Calls Tryz.prog 267 #[.int .u64 1,.int .u64 3] w fun e w'=>e=.returned (.tuple #[.int .u64 0,.int .u64 3])∧w'=w:=by
 go_enter Tryz.func267,Tryz.ntmps267
 go_wp2_with fail
 go_ret2
 exact⟨rfl,rfl⟩
theorem UUc (W:World):(Instr.makeSlice 70 (.int .i64 3) (.int .i64 3)).run Tryz.prog W=.ok (.slice (some ⟨W.heap.size,0,none⟩) 3 3) (W.alloc (.cells (Array.replicate 3 (Value.int .i64 0)) 3)):=by kernel_rfl
theorem Uoc (w:World):Calls Tryz.prog 267 #[.int .u64 1,.int .u64 4] w fun e w'=>e=.returned (.tuple #[.int .u64 0,.int .u64 4])∧w'=w:=by
 go_enter Tryz.func267,Tryz.ntmps267
 go_wp2_with fail
 go_ret2
 exact⟨rfl,rfl⟩
theorem UVc (W:World):(Instr.makeSlice 70 (.int .i64 4) (.int .i64 4)).run Tryz.prog W=.ok (.slice (some ⟨W.heap.size,0,none⟩) 4 4) (W.alloc (.cells (Array.replicate 4 (Value.int .i64 0)) 3)):=by kernel_rfl
theorem Upc (w:World):Calls Tryz.prog 267 #[.int .u64 1,.int .u64 5] w fun e w'=>e=.returned (.tuple #[.int .u64 0,.int .u64 5])∧w'=w:=by
 go_enter Tryz.func267,Tryz.ntmps267
 go_wp2_with fail
 go_ret2
 exact⟨rfl,rfl⟩
theorem UWc (W:World):(Instr.makeSlice 70 (.int .i64 5) (.int .i64 5)).run Tryz.prog W=.ok (.slice (some ⟨W.heap.size,0,none⟩) 5 5) (W.alloc (.cells (Array.replicate 5 (Value.int .i64 0)) 3)):=by kernel_rfl
theorem Uqc (w:World):Calls Tryz.prog 267 #[.int .u64 1,.int .u64 6] w fun e w'=>e=.returned (.tuple #[.int .u64 0,.int .u64 6])∧w'=w:=by
 go_enter Tryz.func267,Tryz.ntmps267
 go_wp2_with fail
 go_ret2
 exact⟨rfl,rfl⟩
theorem UXc (W:World):(Instr.makeSlice 70 (.int .i64 6) (.int .i64 6)).run Tryz.prog W=.ok (.slice (some ⟨W.heap.size,0,none⟩) 6 6) (W.alloc (.cells (Array.replicate 6 (Value.int .i64 0)) 3)):=by kernel_rfl
theorem Urc (w:World):Calls Tryz.prog 267 #[.int .u64 1,.int .u64 7] w fun e w'=>e=.returned (.tuple #[.int .u64 0,.int .u64 7])∧w'=w:=by
 go_enter Tryz.func267,Tryz.ntmps267
 go_wp2_with fail
 go_ret2
 exact⟨rfl,rfl⟩
theorem UYc (W:World):(Instr.makeSlice 70 (.int .i64 7) (.int .i64 7)).run Tryz.prog W=.ok (.slice (some ⟨W.heap.size,0,none⟩) 7 7) (W.alloc (.cells (Array.replicate 7 (Value.int .i64 0)) 3)):=by kernel_rfl
theorem Usc (w:World):Calls Tryz.prog 267 #[.int .u64 1,.int .u64 8] w fun e w'=>e=.returned (.tuple #[.int .u64 0,.int .u64 8])∧w'=w:=by
 go_enter Tryz.func267,Tryz.ntmps267
 go_wp2_with fail
 go_ret2
 exact⟨rfl,rfl⟩
theorem UZc (W:World):(Instr.makeSlice 70 (.int .i64 8) (.int .i64 8)).run Tryz.prog W=.ok (.slice (some ⟨W.heap.size,0,none⟩) 8 8) (W.alloc (.cells (Array.replicate 8 (Value.int .i64 0)) 3)):=by kernel_rfl
theorem Utc (w:World):Calls Tryz.prog 267 #[.int .u64 1,.int .u64 9] w fun e w'=>e=.returned (.tuple #[.int .u64 0,.int .u64 9])∧w'=w:=by
 go_enter Tryz.func267,Tryz.ntmps267
 go_wp2_with fail
 go_ret2
 exact⟨rfl,rfl⟩
theorem U0c (W:World):(Instr.makeSlice 70 (.int .i64 9) (.int .i64 9)).run Tryz.prog W=.ok (.slice (some ⟨W.heap.size,0,none⟩) 9 9) (W.alloc (.cells (Array.replicate 9 (Value.int .i64 0)) 3)):=by kernel_rfl
theorem Zyc (w:World):Calls Tryz.prog 267 #[.int .u64 1,.int .u64 10] w fun e w'=>e=.returned (.tuple #[.int .u64 0,.int .u64 10])∧w'=w:=by
 go_enter Tryz.func267,Tryz.ntmps267
 go_wp2_with fail
 go_ret2
 exact⟨rfl,rfl⟩
theorem Z6c (W:World):(Instr.makeSlice 70 (.int .i64 10) (.int .i64 10)).run Tryz.prog W=.ok (.slice (some ⟨W.heap.size,0,none⟩) 10 10) (W.alloc (.cells (Array.replicate 10 (Value.int .i64 0)) 3)):=by kernel_rfl
theorem Zzc (w:World):Calls Tryz.prog 267 #[.int .u64 1,.int .u64 11] w fun e w'=>e=.returned (.tuple #[.int .u64 0,.int .u64 11])∧w'=w:=by
 go_enter Tryz.func267,Tryz.ntmps267
 go_wp2_with fail
 go_ret2
 exact⟨rfl,rfl⟩
theorem Z7c (W:World):(Instr.makeSlice 70 (.int .i64 11) (.int .i64 11)).run Tryz.prog W=.ok (.slice (some ⟨W.heap.size,0,none⟩) 11 11) (W.alloc (.cells (Array.replicate 11 (Value.int .i64 0)) 3)):=by kernel_rfl
theorem ZAc (w:World):Calls Tryz.prog 267 #[.int .u64 1,.int .u64 12] w fun e w'=>e=.returned (.tuple #[.int .u64 0,.int .u64 12])∧w'=w:=by
 go_enter Tryz.func267,Tryz.ntmps267
 go_wp2_with fail
 go_ret2
 exact⟨rfl,rfl⟩
theorem Z8c (W:World):(Instr.makeSlice 70 (.int .i64 12) (.int .i64 12)).run Tryz.prog W=.ok (.slice (some ⟨W.heap.size,0,none⟩) 12 12) (W.alloc (.cells (Array.replicate 12 (Value.int .i64 0)) 3)):=by kernel_rfl
theorem ZBc (w:World):Calls Tryz.prog 267 #[.int .u64 1,.int .u64 13] w fun e w'=>e=.returned (.tuple #[.int .u64 0,.int .u64 13])∧w'=w:=by
 go_enter Tryz.func267,Tryz.ntmps267
 go_wp2_with fail
 go_ret2
 exact⟨rfl,rfl⟩
theorem Z9c (W:World):(Instr.makeSlice 70 (.int .i64 13) (.int .i64 13)).run Tryz.prog W=.ok (.slice (some ⟨W.heap.size,0,none⟩) 13 13) (W.alloc (.cells (Array.replicate 13 (Value.int .i64 0)) 3)):=by kernel_rfl
theorem ZCc (w:World):Calls Tryz.prog 267 #[.int .u64 1,.int .u64 14] w fun e w'=>e=.returned (.tuple #[.int .u64 0,.int .u64 14])∧w'=w:=by
 go_enter Tryz.func267,Tryz.ntmps267
 go_wp2_with fail
 go_ret2
 exact⟨rfl,rfl⟩
theorem Uac (W:World):(Instr.makeSlice 70 (.int .i64 14) (.int .i64 14)).run Tryz.prog W=.ok (.slice (some ⟨W.heap.size,0,none⟩) 14 14) (W.alloc (.cells (Array.replicate 14 (Value.int .i64 0)) 3)):=by kernel_rfl
theorem ZDc (w:World):Calls Tryz.prog 267 #[.int .u64 1,.int .u64 15] w fun e w'=>e=.returned (.tuple #[.int .u64 0,.int .u64 15])∧w'=w:=by
 go_enter Tryz.func267,Tryz.ntmps267
 go_wp2_with fail
 go_ret2
 exact⟨rfl,rfl⟩
theorem Ubc (W:World):(Instr.makeSlice 70 (.int .i64 15) (.int .i64 15)).run Tryz.prog W=.ok (.slice (some ⟨W.heap.size,0,none⟩) 15 15) (W.alloc (.cells (Array.replicate 15 (Value.int .i64 0)) 3)):=by kernel_rfl
theorem ZEc (w:World):Calls Tryz.prog 267 #[.int .u64 1,.int .u64 16] w fun e w'=>e=.returned (.tuple #[.int .u64 0,.int .u64 16])∧w'=w:=by
 go_enter Tryz.func267,Tryz.ntmps267
 go_wp2_with fail
 go_ret2
 exact⟨rfl,rfl⟩
theorem Ucc (W:World):(Instr.makeSlice 70 (.int .i64 16) (.int .i64 16)).run Tryz.prog W=.ok (.slice (some ⟨W.heap.size,0,none⟩) 16 16) (W.alloc (.cells (Array.replicate 16 (Value.int .i64 0)) 3)):=by kernel_rfl
theorem Vcc (n:Nat)(A:n≤16)(w:World):Calls Tryz.prog 267 #[.int .u64 1,.int .u64 (n:Int)] w fun e w'=>e=.returned (.tuple #[.int .u64 0,.int .u64 (n:Int)])∧w'=w:=by
 have h:n=0∨n=1∨n=2∨n=3∨n=4∨n=5∨n=6∨n=7∨n=8∨n=9∨n=10∨n=11∨n=12∨n=13∨n=14∨n=15∨n=16:=by omega
 rcases h with rfl | rfl | rfl | rfl | rfl | rfl | rfl | rfl | rfl | rfl | rfl | rfl | rfl | rfl | rfl | rfl | rfl
 ·exact Ukc w
 ·exact Ulc w
 ·exact Umc w
 ·exact Unc w
 ·exact Uoc w
 ·exact Upc w
 ·exact Uqc w
 ·exact Urc w
 ·exact Usc w
 ·exact Utc w
 ·exact Zyc w
 ·exact Zzc w
 ·exact ZAc w
 ·exact ZBc w
 ·exact ZCc w
 ·exact ZDc w
 ·exact ZEc w
theorem mkI (n:Nat)(A:n≤16)(W:World):(Instr.makeSlice 70 (.int .i64 n) (.int .i64 n)).run Tryz.prog W=.ok (.slice (some ⟨W.heap.size,0,none⟩) n n) (W.alloc (.cells (Array.replicate n (Value.int .i64 0)) 3)):=by
 have h:n=0∨n=1∨n=2∨n=3∨n=4∨n=5∨n=6∨n=7∨n=8∨n=9∨n=10∨n=11∨n=12∨n=13∨n=14∨n=15∨n=16:=by omega
 rcases h with rfl | rfl | rfl | rfl | rfl | rfl | rfl | rfl | rfl | rfl | rfl | rfl | rfl | rfl | rfl | rfl | rfl
 ·exact URc W
 ·exact USc W
 ·exact UTc W
 ·exact UUc W
 ·exact UVc W
 ·exact UWc W
 ·exact UXc W
 ·exact UYc W
 ·exact UZc W
 ·exact U0c W
 ·exact Z6c W
 ·exact Z7c W
 ·exact Z8c W
 ·exact Z9c W
 ·exact Uac W
 ·exact Ubc W
 ·exact Ucc W
theorem Vbc (n:Nat)(A:n≤16)(w:World):Calls Tryz.prog 259 #[.int .u64 1,.int .u64 (n:Int)] w fun e w'=>e=.returned (.tuple #[.int .u64 0,.int .u64 (n:Int)])∧w'=w:=by
 go_enter Tryz.func259,Tryz.ntmps259
 go_wp2_with fail
 refine(Vcc n A _).mono ?_;rintro e w1 ⟨rfl,rfl⟩
 go_wp2_with fail
 go_ret2
 exact⟨rfl,rfl⟩
def Vo (N k:Nat):List Value:=List.replicate k (Value.int .i64 (-1))++List.replicate (N - k) (.int .i64 0)
theorem Y1a {N k:Nat}(h:k≤N):(Vo N k).length=N:=by unfold Vo;rw[List.length_append,List.length_replicate,List.length_replicate];omega
theorem ZIa {N k c:Nat} : splice (Vo N k) k (List.replicate c (Value.int .i64 (-1)))=Vo N (k+c):=by
 unfold splice Vo;rw[List.take_left' (by simp),List.length_replicate,←List.drop_drop,List.drop_left' (by simp),List.drop_replicate,←List.append_assoc,List.replicate_append_replicate]
 congr 2
 omega
theorem XSa (N G:Nat)(w:World)(hN:N≤16)(hB:Blk w G #[.int .i64 (-1)] 3):Calls Tryz.prog 244 #[.slice (some ⟨G,0,none⟩) 1 1,.int .i64 (N:Int)] w fun e w'=>
  ∃q,e=.returned (.slice (some ⟨q,0,none⟩) N N)∧RowI w' q (List.replicate N (-1)) 3∧w.heap.size≤q∧q < w'.heap.size∧yw w w':=by
 have aC:=fun W=>mkI N hN W
 have av:=fun W=>Vbc N hN W
 go_enter Tryz.func244,Tryz.ntmps244
 go_wp2_with fail
 refine(av _).mono ?_;rintro e w1 ⟨rfl,rfl⟩
 go_upto_region 6 with(fail)
 go_cut [7] (fun p wx=>∃q,p=.slice (some ⟨q,0,none⟩) N N∧Blk wx q (Vo N 0).toArray 3∧w1.heap.size≤q∧q < wx.heap.size∧yw w1 wx)
 case first=>as_aux_lemma=>
  go_wp2_with fail
  go_meet
  exact⟨_,rfl,by rw[show(Vo N 0).toArray=Array.replicate N (Value.int .i64 0)by simp[Vo]];exact Za _ _,Nat.le_refl _,by simp,Qf _ _⟩
 obtain⟨q,rfl,D,V,aw,E⟩:=hcut;have hu:Tryz.prog.underlying 70=some (.slice 3):=Tryz.underlying70
 have aa:(Tryz.prog.info? 3).map (·.size)=some 1:=by kernel_rfl
 by_cases h0:N=0
 ·subst h0
  have U:=run_copy_none (P:=Tryz.prog) wc 70 70 3 3 (some ⟨q,0,none⟩) (some ⟨G,0,none⟩) 0 0 1 1 hu aa rfl;have X:=yh D;have HB:=yh E;clear D E
  go_wp2_with fail
  go_loopg [8] 0 (fun _ iv wr=>iv=.int .i64 0∧wc=wr)
  case atStart=>exact⟨rfl,rfl⟩
  case round=>
   obtain⟨rfl,hw⟩:=hrel;subst hw
   go_wp2_with fail
   go_ret
   exact⟨q,rfl,X.out,V,aw,HB.out⟩
 ·have ap:=hB.lt
  have ab:=(Blk.cell (hB.bel E) (j:=0) (v:=.int .i64 (-1)) rfl)
  have U:=run_copy_row (P:=Tryz.prog) wc 70 70 3 3 q 0 N N ⟨G,0,none⟩ 1 1 (Vo N 0).toArray 3 [.int .i64 (-1)] hu aa D (by show 1=Nat.min 1 N;exact(Nat.min_eq_left (by omega)).symm) (fun j v A=>by
   rcases j with _ | j
   ·simp at A;subst A;exact ab
   ·simp at A) (by rw[List.size_toArray,Y1a (Nat.zero_le _)];simp;omega) (fun v A=>by simp at A;subst A;rfl)
  obtain⟨I,Q⟩:∃I,I=wc.setRow q ((Vo N 0).toArray.toList.take 0++[Value.int .i64 (-1)]++(Vo N 0).toArray.toList.drop (0 + [Value.int .i64 (-1)].length)).toArray:=⟨_,rfl⟩;rw[←Q]at U
  have Z:Blk I q (Vo N 1).toArray 3:=by
   rw[Q,show(Vo N 1)=(Vo N 0).toArray.toList.take 0++[Value.int .i64 (-1)]++(Vo N 0).toArray.toList.drop (0 + [Value.int .i64 (-1)].length)by rw[←(ZIa (N:=N) (k:=0) (c:=1))];unfold splice;rw[←List.append_assoc];rfl];exact setRow_heap wc q _ _ _ _ D
  have ac:yw w1 I:=by rw[Q];exact below_setRow E V _
  have aD:q < I.heap.size:=Z.lt;have X:=yh Z;have HB:=yh ac;have az:(Builtin.copy_ #[70,70] 3 #[.slice (some ⟨q,0,none⟩) N N,.slice (some ⟨G,0,none⟩) 1 1]).run Tryz.prog wc=.ok (.int .i64 1) I:=U;clear D E U Z ac Q ab ap
  go_wp2_with fail
  go_loopg [8] N (fun gk i wr=>∃k:Nat,1≤k∧k≤N∧N - k≤gk∧i=.int .i64 k∧Blk wr q (Vo N k).toArray 3∧yw w1 wr)
  case atStart=>exact⟨1,Nat.le_refl _,by omega,by omega,rfl,X.out,HB.out⟩
  case round=>
   obtain⟨k,aB,hk,aA,rfl,D,E⟩:=hrel
   by_cases hlt:k < N
   ·obtain⟨c,Y⟩:∃c,c=Nat.min k (N - k):=⟨_,rfl⟩
    have ad:k+c≤N∧1≤c∧c≤k:=by rw[Y];simp only[Nat.min_def];split<;>omega
    have J:(List.replicate c (Value.int .i64 (-1))).length=c:=List.length_replicate ..;obtain⟨F,O⟩:∃F,F=List.replicate c (Value.int .i64 (-1)):=⟨_,rfl⟩;rw[←O]at J;have ah:=yh (show F.length=Nat.min k (N - k)by rw[J,Y]);have am:=yh (show splice (Vo N k) k F=Vo N (k+c)by rw[O];exact ZIa);have aj:=yh (show ∀v∈F,v.oneCell'=true by rw[O];intro v A;rw[List.eq_of_mem_replicate A];rfl)
    have an:=yh (show ∀(j:Nat) (v:Value),F[j]? = some v→wr.drew.cell? ((⟨q,0,none⟩:Addr).add j)=some v from fun j v A=>by
     rw[O,List.getElem?_replicate]at A
     have au:j < c:=by
      by_cases h:j < c
      ·exact h
      ·rw[if_neg h]at A;cases A
     rw[if_pos au]at A
     injection A with A
     subst A;have:=Blk.cell D (j:=j) (v:=.int .i64 (-1)) (by rw[List.getElem?_toArray];unfold Vo;rw[List.getElem?_append_left (by rw[List.length_replicate];omega),List.getElem?_replicate,if_pos (by omega)])
     have ha:(⟨q,0,none⟩:Addr).add j=⟨q,j,none⟩:=by
      unfold Addr.add;split
      ·next h0=>rw[h0]
      ·simp
     rw[ha];exact this)
    have ai:=yh (show k+F.length≤(Vo N k).length by rw[Y1a hk,J];exact ad.1);have ak:=yh (show wr.drew.heap[q]? = some (.cells (Vo N k).toArray 3 (0,0))from D);have ae:=yh E.drew;have ag:=yh J;have k0:(0:Int)≤(k:Int):=Int.natCast_nonneg _
    have k1:(k:Int)≤(N:Int):=by omega
    have ay:¬N=k:=by omega
    clear D E Y O J
    go_wp2_with fail
    go_region_law (refine step_copy_splice rfl (.tmp 41) (.tmp 44) 70 70 rfl 3 hu aa (some ⟨q,k,none⟩) (some ⟨q,0,none⟩) (N - k) (N - k) k N (by simp[Act.eval,Act.put]) (by simp[Act.eval,Act.put]) q k (Vo N k) 3 ak.out F ah.out (fun _=>⟨rfl,_,rfl,an.out⟩) ai.out aj.out w1.heap.size w1 ae.out V ?_;intro w2 ao aq)
    all_goals
     have ar:=ag.out
     have hw:IntKind.i64.wrap ((k:Int)+(F.length:Int))=((k+c:Nat):Int):=by rw[ar,IntKind.wrap_i64];omega
     rw[hw]
     go_wp2_with fail
     go_roundg (N - (k+1))
     case measure=>omega
     refine⟨k+c,by omega,ad.1,by omega,rfl,?_,aq⟩;rw[←am.out];exact ao.out
   ·obtain rfl:k=N:=by omega
    have al:=yh (show RowI wr q (List.replicate k (-1)) 3 by
     unfold RowI;rw[show((List.replicate k (-1:Int)).map (Value.int .i64))=Vo k k by simp[Vo]];exact D)
    have ax:=D.lt;have af:=yh E;clear D E
    go_wp2_with fail
    go_ret
    exact⟨q,rfl,al.out,V,ax,af.out⟩
theorem ZXa {W X:World}{p j:Nat}{v:Value}(D:yw W X)(A:W.cell? ⟨p,j,none⟩=some v):X.cell? ⟨p,j,none⟩=some v:=(World.cell?_of_block (a:=⟨p,j,none⟩) (D.block _ (Ub A))).trans A
structure TabI (w:World) (base O:Nat) (vs:List Value) (rows:List (List Int)):Prop where
 ll:rows.length=vs.length
 outer:Blk w O vs.toArray 70
 lo:O < base
 row:∀(a:Nat) (v:Value),vs[a]? = some v→∃xs,Own QL 1 3 w base v (rows.getD a []) xs
 dis:∀(a b:Nat) (v u:Value) (g:Nat),vs[a]? = some v→vs[b]? = some u→v.ownBlock=some g→u.ownBlock=some g→a=b
theorem TabI.bel {w w':World}{base O:Nat}{E:List Value}{D:List (List Int)}(h:TabI w base O E D)(A:yw w w'):TabI w' base O E D:=
 ⟨h.ll,h.outer.bel A,h.lo,fun a v I=>by obtain⟨xs,F⟩:=h.row a v I;exact⟨xs,F.bel A⟩,h.dis⟩
theorem TabI.new {w:World}{base O n:Nat}(D:Blk w O (Array.replicate n (Value.slice none 0 0)) 70)(F:O < base):TabI w base O (List.replicate n (.slice none 0 0)) (List.replicate n []):=by
 have A:∀(a:Nat) (v:Value),(List.replicate n (Value.slice none 0 0))[a]? = some v→v=.slice none 0 0:=fun a v h=>by
  rw[List.getElem?_replicate]at h
  split at h
  ·injection h with h;exact h.symm
  ·cases h
 refine⟨by simp,by rw[List.toArray_replicate];exact D,F,fun a v h=>?_,fun a b v u g h _ E _=>?_⟩
 ·obtain rfl:=A a v h
  have:(List.replicate n ([]:List Int)).getD a []=[]:=by
   rw[List.getD_eq_getElem?_getD,List.getElem?_replicate];split<;>rfl
  rw[this];exact⟨[],Own.nil _ _ _ _ _⟩
 ·obtain rfl:=A a v h
  cases E
theorem TabI.put {w w':World}{base O:Nat}{E:List Value}{U:List (List Int)}(h:TabI w base O E U){l:Nat}{v v':Value}{r':List Int}{xs:List Value}(Q:E[l]? = some v)
  (ho:Own QL 1 3 w' base v' r' xs) (hg:w.grownBy w' v.ownBlock) (ae:v'.ownBlock=v.ownBlock∨v'.ownBlock=some w.heap.size) :
  TabI (w'.setCell ⟨O,l,none⟩ v') base O (E.set l v') (U.set l r'):=by
 have hl:l < E.length:=(List.getElem?_eq_some_iff.1 Q).1;have ah:=h.lo
 have ad:some O≠v.ownBlock:=fun e=>by
  obtain⟨J,F⟩:=h.row l v Q;have:=(F.lt O e.symm).1;omega
 have ai:∀(a:Nat) (u:Value) (g:Nat),E[a]? = some u→u.ownBlock=some g→g < w.heap.size:=fun a u g A aj=>by
  obtain⟨J,F⟩:=h.row a u A;exact(F.lt g aj).2
 refine⟨by rw[List.length_set,List.length_set];exact h.ll,?_,ah,fun a u A=>?_,fun a b u1 u2 g D I V W=>?_⟩
 ·have:=Blk.set (j:=l) (show Blk w' O E.toArray 70 from(hg.block O h.outer.lt ad).trans h.outer) v'
  rw[show(E.set l v').toArray=E.toArray.set! l v' by simp];exact this
 ·by_cases hal:l=a
  ·subst hal
   rw[List.getElem?_set_self hl]at A
   injection A with A
   subst A;refine⟨xs,?_⟩;rw[List.getD_eq_getElem?_getD,List.getElem?_set_self (by rw[h.ll];exact hl)]
   exact ho.keep Qb fun b Y _=>Below.heap_setCell _ _ _ _ (by show b≠O;omega)
  ·rw[List.getElem?_set_ne hal]at A
   obtain⟨J,F⟩:=h.row a u A;refine⟨J,?_⟩;rw[List.getD_eq_getElem?_getD,List.getElem?_set_ne hal,←List.getD_eq_getElem?_getD]
   have D:Own QL 1 3 w' base u (U.getD a []) J:=by
    rcases F.row.2 with⟨rfl,hn⟩ | ⟨g,cap,ac,rfl,Y,aa,r⟩
    ·have:U.getD a []=[]:=List.eq_nil_of_length_eq_zero hn
     have Z:J=[]:=List.eq_nil_of_length_eq_zero (by rw[F.row.1,hn]);rw[this,Z];exact Own.nil _ _ _ _ _
    ·have af:some g≠v.ownBlock:=fun e=>hal (h.dis l a v _ g Q A e.symm rfl)
     exact⟨⟨F.row.1,.inr ⟨g,cap,ac,rfl,Y,(hg.block g (Array.getElem?_eq_some_iff.1 aa).1 af).trans aa,r⟩⟩,fun i x Z=>by
      obtain⟨cs,hc,r2⟩:=F.el i x Z;exact⟨cs,ZD _ _ _ _ _ _ hc,r2⟩⟩
   exact D.keep Qb fun b Y _=>Below.heap_setCell _ _ _ _ (by show b≠O;omega)
 ·have ab:∀(c:Nat) (u:Value),l≠c→E[c]? = some u→∀q,u.ownBlock=some q→v'.ownBlock≠some q:=fun c u ag A q hq e=>by
   rcases ae with X | X
   ·exact ag (h.dis l c v u q Q A (by rw[←X];exact e) hq)
   ·rw[X]at e;injection e with e;have:=ai c u q A hq;omega
  by_cases hla:l=a<;>by_cases hlb:l=b
  ·rw[←hla,←hlb]
  ·subst hla
   rw[List.getElem?_set_self hl]at D
   injection D with D
   subst D;rw[List.getElem?_set_ne hlb]at I;exact absurd V (ab b u2 hlb I g W)
  ·subst hlb
   rw[List.getElem?_set_self hl]at I
   injection I with I
   subst I;rw[List.getElem?_set_ne hla]at D;exact absurd W (ab a u1 hla D g V)
  ·rw[List.getElem?_set_ne hla]at D
   rw[List.getElem?_set_ne hlb]at I;exact h.dis a b u1 u2 g D I V W
theorem TabI.sl {w:World}{base O:Nat}{vs:List Value}{E:List (List Int)}(h:TabI w base O vs E)(Z:vs.length≤1000000){S:Nat→Prop}(hO:S O)(Q:∀b,base≤b→b < w.heap.size→S b) :
  Sl (slC QL 1) 1 w S (some ⟨O,0,none⟩) vs.length vs.length E:=by
 refine⟨h.ll,Nat.le_refl _,by unfold maxLen;omega,fun i x J=>?_⟩
 have F:i < vs.length:=by rw[←h.ll];exact(List.getElem?_eq_some_iff.1 J).1
 obtain⟨xs,X⟩:=h.row i _ (List.getElem?_eq_getElem F);obtain⟨A,n,cap,V,I⟩:=X.sl Qb
 have Y:E.getD i []=x:=by rw[List.getD_eq_getElem?_getD,J];rfl
 rw[Y]at I;refine⟨O,0,[vs[i]],rfl,hO,⟨A,n,cap,by rw[V],I.keep Qb (by omega) fun b U W=>⟨rfl,Q b U W⟩⟩,rfl,fun j u D=>?_⟩
 rcases j with _ | j
 ·simp at D;subst D
  exact Blk.cell h.outer (by simp[F])
 ·simp at D
structure StAt (w:World) (P G N:Nat) (A:Option Addr) (n cap R:Nat) (rows:List (List Int)) (has:List Int):Prop where
 sl:Sl (slC QL 1) 1 w (fun b=>b≠G∧b≠P∧b < N) A n cap rows
 st:∃z,Blk w P #[.slice A n cap,.slice (some ⟨G,0,none⟩) R R,z] 289
 row:RowI w G has 3
 lh:has.length=R
 pg:P≠G
 pn:P < N
 gn:G < N
 le:N≤w.heap.size
theorem StAt.bel {w w':World}{P G N:Nat}{A:Option Addr}{n cap R:Nat}{E:List (List Int)}{D:List Int}(h:StAt w P G N A n cap R E D)(I:yw w w'):StAt w' P G N A n cap R E D:=by
 obtain⟨z,F⟩:=h.st;exact⟨h.sl.below Vu (by omega) I,⟨z,F.bel I⟩,h.row.bel I,h.lh,h.pg,h.pn,h.gn,Nat.le_trans h.le I.size⟩
theorem StAt.found {w w':World}{P G N M:Nat}{A:Option Addr}{n cap R:Nat}{E:List (List Int)}{J F:List Int}{Q:List Bool}(h:StAt w P G N A n cap R E J)(U:N≤M)(I:Kept (fun k=>k=G∨k=M) w w')(V:MtAt w' P G M A n cap R E F Q):StAt w' P G N A n cap R E F:=
 ⟨h.sl.keep Vu (by omega) fun b D O=>⟨I.block b O (by rintro(e | e);exact D.1 e;have:=D.2.2;omega),D⟩,⟨_,V.st⟩,V.row,V.lh,h.pg,h.pn,h.gn,Nat.le_trans h.le I.size⟩
theorem QTb (P G N:Nat)(A:Option Addr)(n cap R:Nat)(F:List (List Int))(ad:List Int)(w:World)(h:StAt w P G N A n cap R F ad)(hR:R≤16) :
  Calls Tryz.prog 245 #[.pointer (some ⟨P,0,none⟩)] w fun e w'=>e=.returned (.tuple #[])∧MtAt w' P G w.heap.size A n cap R F ad (List.replicate R false)∧StAt w' P G N A n cap R F ad∧Kept (fun k=>k=P) w w':=by
 have ab:=fun W=>mkB R hR W
 obtain⟨z,E⟩:=h.st;have V:=E.lt;have p1:yJ w P 1 (some ⟨G,0,none⟩) R R:=E.cell rfl;have p2:w.cell? ⟨P,2,none⟩=some z:=E.cell rfl;have Z:=E.free 2;have aa:G < w.heap.size:=Blk.lt h.row;have O:Blk ((w.alloc (.cells (Array.replicate R (Value.bool false)) 4)).setCell ⟨P,2,none⟩ (.slice (some ⟨w.heap.size,0,none⟩) R R)) P #[.slice A n cap,.slice (some ⟨G,0,none⟩) R R,.slice (some ⟨w.heap.size,0,none⟩) R R] 289:=Blk.set (j:=2) (Blk.old E _) (.slice (some ⟨w.heap.size,0,none⟩) R R);have I:RowI ((w.alloc (.cells (Array.replicate R (Value.bool false)) 4)).setCell ⟨P,2,none⟩ (.slice (some ⟨w.heap.size,0,none⟩) R R)) G ad 3:=RowI.other (Blk.old h.row _) h.pg _
 have J:∀S:Nat→Prop,(∀b,b≠G∧b≠P∧b < N→S b)→Sl (slC QL 1) 1 ((w.alloc (.cells (Array.replicate R (Value.bool false)) 4)).setCell ⟨P,2,none⟩ (.slice (some ⟨w.heap.size,0,none⟩) R R)) S A n cap F:=fun S X=>
  h.sl.keep Vu (by omega) fun b D Y=>⟨(Below.heap_setCell _ _ _ _ D.2.1).trans (Below.heap_alloc _ _ _ Y),X b D⟩
 have U:RowB ((w.alloc (.cells (Array.replicate R (Value.bool false)) 4)).setCell ⟨P,2,none⟩ (.slice (some ⟨w.heap.size,0,none⟩) R R)) w.heap.size (List.replicate R false):=RowB.other (Y6a (Za _ _)) (by simp;omega) _;have hN:=h.le;have ac:=h.pn
 have Q:=yh (show MtAt ((w.alloc (.cells (Array.replicate R (Value.bool false)) 4)).setCell ⟨P,2,none⟩ (.slice (some ⟨w.heap.size,0,none⟩) R R)) P G w.heap.size A n cap R F ad (List.replicate R false)∧StAt ((w.alloc (.cells (Array.replicate R (Value.bool false)) 4)).setCell ⟨P,2,none⟩ (.slice (some ⟨w.heap.size,0,none⟩) R R)) P G N A n cap R F ad∧
   Kept (fun k=>k=P) w ((w.alloc (.cells (Array.replicate R (Value.bool false)) 4)).setCell ⟨P,2,none⟩ (.slice (some ⟨w.heap.size,0,none⟩) R R))from
  ⟨⟨J _ fun b D=>⟨D.1,by omega⟩,O,I,U,h.lh,by simp⟩,⟨J _ fun b D=>D,⟨_,O⟩,I,h.lh,h.pg,h.pn,h.gn,by simp[World.setCell];omega⟩,((Kept.refl (fun k=>k=P) w).alloc _).setCell (p:=⟨P,2,none⟩) (.inl rfl) _⟩)
 rw[World.setCell_alloc_past _ _ _ _ V]at Q;clear h E O I J U
 go_enter Tryz.func245,Tryz.ntmps245
 go_wp2_with fail
 go_end0
 exact⟨rfl,Q.out⟩
end Go.Proofs.YtjdcokpmgionjaaGreat
