/-
  Words, laws and contracts: MatchD, MatchE, MatchF.
-/
import Derived.Test.YtoilcdgpeilgaaaGreatBun12
import Derived.Laws.CopyOwn
import Derived.Deep.RegionLaw
set_option linter.unusedSimpArgs false
set_option linter.unusedVariables false
namespace Go.Proofs.YtoilcdgpeilgaaaGreat
open Go.RowKit Go.Shelf
theorem mulB0 (w : World) : Calls Tryz.prog 281 #[.int .u64 1, .int .u64 0] w fun e w' => e = .returned (.tuple #[.int .u64 0, .int .u64 0]) ∧ w' = w := by
  go_enter Tryz.func281, Tryz.ntmps281
  go_wp2_with fail
  go_ret2
  exact ⟨rfl, rfl⟩
theorem mkI0 (W : World) : (Instr.makeSlice 47 (.int .i64 0) (.int .i64 0)).run Tryz.prog W = .ok (.slice (some ⟨W.heap.size, 0, none⟩) 0 0) (W.alloc (.cells (Array.replicate 0 (Value.int .i64 0)) 3)) := by kernel_rfl
theorem mulB1 (w : World) : Calls Tryz.prog 281 #[.int .u64 1, .int .u64 1] w fun e w' => e = .returned (.tuple #[.int .u64 0, .int .u64 1]) ∧ w' = w := by
  go_enter Tryz.func281, Tryz.ntmps281
  go_wp2_with fail
  go_ret2
  exact ⟨rfl, rfl⟩
theorem mkI1 (W : World) : (Instr.makeSlice 47 (.int .i64 1) (.int .i64 1)).run Tryz.prog W = .ok (.slice (some ⟨W.heap.size, 0, none⟩) 1 1) (W.alloc (.cells (Array.replicate 1 (Value.int .i64 0)) 3)) := by kernel_rfl
theorem mulB2 (w : World) : Calls Tryz.prog 281 #[.int .u64 1, .int .u64 2] w fun e w' => e = .returned (.tuple #[.int .u64 0, .int .u64 2]) ∧ w' = w := by
  go_enter Tryz.func281, Tryz.ntmps281
  go_wp2_with fail
  go_ret2
  exact ⟨rfl, rfl⟩
theorem mkI2 (W : World) : (Instr.makeSlice 47 (.int .i64 2) (.int .i64 2)).run Tryz.prog W = .ok (.slice (some ⟨W.heap.size, 0, none⟩) 2 2) (W.alloc (.cells (Array.replicate 2 (Value.int .i64 0)) 3)) := by kernel_rfl
theorem mulB3 (w : World) : Calls Tryz.prog 281 #[.int .u64 1, .int .u64 3] w fun e w' => e = .returned (.tuple #[.int .u64 0, .int .u64 3]) ∧ w' = w := by
  go_enter Tryz.func281, Tryz.ntmps281
  go_wp2_with fail
  go_ret2
  exact ⟨rfl, rfl⟩
theorem mkI3 (W : World) : (Instr.makeSlice 47 (.int .i64 3) (.int .i64 3)).run Tryz.prog W = .ok (.slice (some ⟨W.heap.size, 0, none⟩) 3 3) (W.alloc (.cells (Array.replicate 3 (Value.int .i64 0)) 3)) := by kernel_rfl
theorem mulB4 (w : World) : Calls Tryz.prog 281 #[.int .u64 1, .int .u64 4] w fun e w' => e = .returned (.tuple #[.int .u64 0, .int .u64 4]) ∧ w' = w := by
  go_enter Tryz.func281, Tryz.ntmps281
  go_wp2_with fail
  go_ret2
  exact ⟨rfl, rfl⟩
theorem mkI4 (W : World) : (Instr.makeSlice 47 (.int .i64 4) (.int .i64 4)).run Tryz.prog W = .ok (.slice (some ⟨W.heap.size, 0, none⟩) 4 4) (W.alloc (.cells (Array.replicate 4 (Value.int .i64 0)) 3)) := by kernel_rfl
theorem mulB5 (w : World) : Calls Tryz.prog 281 #[.int .u64 1, .int .u64 5] w fun e w' => e = .returned (.tuple #[.int .u64 0, .int .u64 5]) ∧ w' = w := by
  go_enter Tryz.func281, Tryz.ntmps281
  go_wp2_with fail
  go_ret2
  exact ⟨rfl, rfl⟩
theorem mkI5 (W : World) : (Instr.makeSlice 47 (.int .i64 5) (.int .i64 5)).run Tryz.prog W = .ok (.slice (some ⟨W.heap.size, 0, none⟩) 5 5) (W.alloc (.cells (Array.replicate 5 (Value.int .i64 0)) 3)) := by kernel_rfl
theorem mulB6 (w : World) : Calls Tryz.prog 281 #[.int .u64 1, .int .u64 6] w fun e w' => e = .returned (.tuple #[.int .u64 0, .int .u64 6]) ∧ w' = w := by
  go_enter Tryz.func281, Tryz.ntmps281
  go_wp2_with fail
  go_ret2
  exact ⟨rfl, rfl⟩
theorem mkI6 (W : World) : (Instr.makeSlice 47 (.int .i64 6) (.int .i64 6)).run Tryz.prog W = .ok (.slice (some ⟨W.heap.size, 0, none⟩) 6 6) (W.alloc (.cells (Array.replicate 6 (Value.int .i64 0)) 3)) := by kernel_rfl
theorem mulB7 (w : World) : Calls Tryz.prog 281 #[.int .u64 1, .int .u64 7] w fun e w' => e = .returned (.tuple #[.int .u64 0, .int .u64 7]) ∧ w' = w := by
  go_enter Tryz.func281, Tryz.ntmps281
  go_wp2_with fail
  go_ret2
  exact ⟨rfl, rfl⟩
theorem mkI7 (W : World) : (Instr.makeSlice 47 (.int .i64 7) (.int .i64 7)).run Tryz.prog W = .ok (.slice (some ⟨W.heap.size, 0, none⟩) 7 7) (W.alloc (.cells (Array.replicate 7 (Value.int .i64 0)) 3)) := by kernel_rfl
theorem mulB8 (w : World) : Calls Tryz.prog 281 #[.int .u64 1, .int .u64 8] w fun e w' => e = .returned (.tuple #[.int .u64 0, .int .u64 8]) ∧ w' = w := by
  go_enter Tryz.func281, Tryz.ntmps281
  go_wp2_with fail
  go_ret2
  exact ⟨rfl, rfl⟩
theorem mkI8 (W : World) : (Instr.makeSlice 47 (.int .i64 8) (.int .i64 8)).run Tryz.prog W = .ok (.slice (some ⟨W.heap.size, 0, none⟩) 8 8) (W.alloc (.cells (Array.replicate 8 (Value.int .i64 0)) 3)) := by kernel_rfl
theorem mulB9 (w : World) : Calls Tryz.prog 281 #[.int .u64 1, .int .u64 9] w fun e w' => e = .returned (.tuple #[.int .u64 0, .int .u64 9]) ∧ w' = w := by
  go_enter Tryz.func281, Tryz.ntmps281
  go_wp2_with fail
  go_ret2
  exact ⟨rfl, rfl⟩
theorem mkI9 (W : World) : (Instr.makeSlice 47 (.int .i64 9) (.int .i64 9)).run Tryz.prog W = .ok (.slice (some ⟨W.heap.size, 0, none⟩) 9 9) (W.alloc (.cells (Array.replicate 9 (Value.int .i64 0)) 3)) := by kernel_rfl
theorem mulB10 (w : World) : Calls Tryz.prog 281 #[.int .u64 1, .int .u64 10] w fun e w' => e = .returned (.tuple #[.int .u64 0, .int .u64 10]) ∧ w' = w := by
  go_enter Tryz.func281, Tryz.ntmps281
  go_wp2_with fail
  go_ret2
  exact ⟨rfl, rfl⟩
theorem mkI10 (W : World) : (Instr.makeSlice 47 (.int .i64 10) (.int .i64 10)).run Tryz.prog W = .ok (.slice (some ⟨W.heap.size, 0, none⟩) 10 10) (W.alloc (.cells (Array.replicate 10 (Value.int .i64 0)) 3)) := by kernel_rfl
theorem mulB11 (w : World) : Calls Tryz.prog 281 #[.int .u64 1, .int .u64 11] w fun e w' => e = .returned (.tuple #[.int .u64 0, .int .u64 11]) ∧ w' = w := by
  go_enter Tryz.func281, Tryz.ntmps281
  go_wp2_with fail
  go_ret2
  exact ⟨rfl, rfl⟩
theorem mkI11 (W : World) : (Instr.makeSlice 47 (.int .i64 11) (.int .i64 11)).run Tryz.prog W = .ok (.slice (some ⟨W.heap.size, 0, none⟩) 11 11) (W.alloc (.cells (Array.replicate 11 (Value.int .i64 0)) 3)) := by kernel_rfl
theorem mulB12 (w : World) : Calls Tryz.prog 281 #[.int .u64 1, .int .u64 12] w fun e w' => e = .returned (.tuple #[.int .u64 0, .int .u64 12]) ∧ w' = w := by
  go_enter Tryz.func281, Tryz.ntmps281
  go_wp2_with fail
  go_ret2
  exact ⟨rfl, rfl⟩
theorem mkI12 (W : World) : (Instr.makeSlice 47 (.int .i64 12) (.int .i64 12)).run Tryz.prog W = .ok (.slice (some ⟨W.heap.size, 0, none⟩) 12 12) (W.alloc (.cells (Array.replicate 12 (Value.int .i64 0)) 3)) := by kernel_rfl
theorem mulB13 (w : World) : Calls Tryz.prog 281 #[.int .u64 1, .int .u64 13] w fun e w' => e = .returned (.tuple #[.int .u64 0, .int .u64 13]) ∧ w' = w := by
  go_enter Tryz.func281, Tryz.ntmps281
  go_wp2_with fail
  go_ret2
  exact ⟨rfl, rfl⟩
theorem mkI13 (W : World) : (Instr.makeSlice 47 (.int .i64 13) (.int .i64 13)).run Tryz.prog W = .ok (.slice (some ⟨W.heap.size, 0, none⟩) 13 13) (W.alloc (.cells (Array.replicate 13 (Value.int .i64 0)) 3)) := by kernel_rfl
theorem mulB14 (w : World) : Calls Tryz.prog 281 #[.int .u64 1, .int .u64 14] w fun e w' => e = .returned (.tuple #[.int .u64 0, .int .u64 14]) ∧ w' = w := by
  go_enter Tryz.func281, Tryz.ntmps281
  go_wp2_with fail
  go_ret2
  exact ⟨rfl, rfl⟩
theorem mkI14 (W : World) : (Instr.makeSlice 47 (.int .i64 14) (.int .i64 14)).run Tryz.prog W = .ok (.slice (some ⟨W.heap.size, 0, none⟩) 14 14) (W.alloc (.cells (Array.replicate 14 (Value.int .i64 0)) 3)) := by kernel_rfl
theorem mulB15 (w : World) : Calls Tryz.prog 281 #[.int .u64 1, .int .u64 15] w fun e w' => e = .returned (.tuple #[.int .u64 0, .int .u64 15]) ∧ w' = w := by
  go_enter Tryz.func281, Tryz.ntmps281
  go_wp2_with fail
  go_ret2
  exact ⟨rfl, rfl⟩
theorem mkI15 (W : World) : (Instr.makeSlice 47 (.int .i64 15) (.int .i64 15)).run Tryz.prog W = .ok (.slice (some ⟨W.heap.size, 0, none⟩) 15 15) (W.alloc (.cells (Array.replicate 15 (Value.int .i64 0)) 3)) := by kernel_rfl
theorem mulB16 (w : World) : Calls Tryz.prog 281 #[.int .u64 1, .int .u64 16] w fun e w' => e = .returned (.tuple #[.int .u64 0, .int .u64 16]) ∧ w' = w := by
  go_enter Tryz.func281, Tryz.ntmps281
  go_wp2_with fail
  go_ret2
  exact ⟨rfl, rfl⟩
theorem mkI16 (W : World) : (Instr.makeSlice 47 (.int .i64 16) (.int .i64 16)).run Tryz.prog W = .ok (.slice (some ⟨W.heap.size, 0, none⟩) 16 16) (W.alloc (.cells (Array.replicate 16 (Value.int .i64 0)) 3)) := by kernel_rfl
theorem mulB (n : Nat) (hn : n ≤ 16) (w : World) : Calls Tryz.prog 281 #[.int .u64 1, .int .u64 (n : Int)] w fun e w' => e = .returned (.tuple #[.int .u64 0, .int .u64 (n : Int)]) ∧ w' = w := by
  have h : n = 0 ∨ n = 1 ∨ n = 2 ∨ n = 3 ∨ n = 4 ∨ n = 5 ∨ n = 6 ∨ n = 7 ∨ n = 8 ∨ n = 9 ∨ n = 10 ∨ n = 11 ∨ n = 12 ∨ n = 13 ∨ n = 14 ∨ n = 15 ∨ n = 16 := by omega
  rcases h with rfl | rfl | rfl | rfl | rfl | rfl | rfl | rfl | rfl | rfl | rfl | rfl | rfl | rfl | rfl | rfl | rfl
  · exact mulB0 w
  · exact mulB1 w
  · exact mulB2 w
  · exact mulB3 w
  · exact mulB4 w
  · exact mulB5 w
  · exact mulB6 w
  · exact mulB7 w
  · exact mulB8 w
  · exact mulB9 w
  · exact mulB10 w
  · exact mulB11 w
  · exact mulB12 w
  · exact mulB13 w
  · exact mulB14 w
  · exact mulB15 w
  · exact mulB16 w
theorem mkI (n : Nat) (hn : n ≤ 16) (W : World) : (Instr.makeSlice 47 (.int .i64 n) (.int .i64 n)).run Tryz.prog W = .ok (.slice (some ⟨W.heap.size, 0, none⟩) n n) (W.alloc (.cells (Array.replicate n (Value.int .i64 0)) 3)) := by
  have h : n = 0 ∨ n = 1 ∨ n = 2 ∨ n = 3 ∨ n = 4 ∨ n = 5 ∨ n = 6 ∨ n = 7 ∨ n = 8 ∨ n = 9 ∨ n = 10 ∨ n = 11 ∨ n = 12 ∨ n = 13 ∨ n = 14 ∨ n = 15 ∨ n = 16 := by omega
  rcases h with rfl | rfl | rfl | rfl | rfl | rfl | rfl | rfl | rfl | rfl | rfl | rfl | rfl | rfl | rfl | rfl | rfl
  · exact mkI0 W
  · exact mkI1 W
  · exact mkI2 W
  · exact mkI3 W
  · exact mkI4 W
  · exact mkI5 W
  · exact mkI6 W
  · exact mkI7 W
  · exact mkI8 W
  · exact mkI9 W
  · exact mkI10 W
  · exact mkI11 W
  · exact mkI12 W
  · exact mkI13 W
  · exact mkI14 W
  · exact mkI15 W
  · exact mkI16 W
set_option maxHeartbeats 1000000 in
theorem mulA (n : Nat) (hn : n ≤ 16) (w : World) : Calls Tryz.prog 273 #[.int .u64 1, .int .u64 (n : Int)] w fun e w' => e = .returned (.tuple #[.int .u64 0, .int .u64 (n : Int)]) ∧ w' = w := by
  go_enter Tryz.func273, Tryz.ntmps273
  go_wp2_with fail
  refine (mulB n hn _).mono ?_
  rintro e w1 ⟨rfl, rfl⟩
  go_wp2_with fail
  go_ret2
  exact ⟨rfl, rfl⟩
end Go.Proofs.YtoilcdgpeilgaaaGreat
namespace Go.Proofs.YtoilcdgpeilgaaaGreat
open Go.RowKit Go.Shelf
def repC (N k : Nat) : List Value := List.replicate k (Value.int .i64 (-1)) ++ List.replicate (N - k) (.int .i64 0)
theorem repC_len {N k : Nat} (h : k ≤ N) : (repC N k).length = N := by unfold repC; rw [List.length_append, List.length_replicate, List.length_replicate]; omega
theorem repC_splice {N k c : Nat} : splice (repC N k) k (List.replicate c (Value.int .i64 (-1))) = repC N (k + c) := by
  unfold splice repC
  rw [List.take_left' (by simp), List.length_replicate, ← List.drop_drop, List.drop_left' (by simp), List.drop_replicate, ← List.append_assoc, List.replicate_append_replicate]
  congr 2
  omega
set_option maxRecDepth 100000 in
set_option maxHeartbeats 4000000 in
theorem rep_any (N G : Nat) (w : World) (hN : N ≤ 16) (hB : Blk w G #[.int .i64 (-1)] 3) : Calls Tryz.prog 258 #[.slice (some ⟨G, 0, none⟩) 1 1, .int .i64 (N : Int)] w fun e w' =>
    ∃ q, e = .returned (.slice (some ⟨q, 0, none⟩) N N) ∧ RowI w' q (List.replicate N (-1)) 3 ∧ w.heap.size ≤ q ∧ q < w'.heap.size ∧ Below w.heap.size w w' := by
  have hmk := fun W => mkI N hN W
  have hmu := fun W => mulA N hN W
  go_enter Tryz.func258, Tryz.ntmps258
  go_wp2_with fail
  refine (hmu _).mono ?_
  rintro e w1 ⟨rfl, rfl⟩
  go_upto_region 6 with (fail)
  go_cut [7] (fun p wx => ∃ q, p = .slice (some ⟨q, 0, none⟩) N N ∧ Blk wx q (repC N 0).toArray 3 ∧ w1.heap.size ≤ q ∧ q < wx.heap.size ∧ Below w1.heap.size w1 wx)
  case first => as_aux_lemma =>
    go_wp2_with fail
    go_meet
    exact ⟨_, rfl, by rw [show (repC N 0).toArray = Array.replicate N (Value.int .i64 0) by simp [repC]]; exact blk1 _ _, Nat.le_refl _, by simp, bel1 _ _⟩
  obtain ⟨q, rfl, hQ, hq1, hq2, hb⟩ := hcut
  have hu : Tryz.prog.underlying 47 = some (.slice 3) := Tryz.underlying47
  have hsz : (Tryz.prog.info? 3).map (·.size) = some 1 := by kernel_rfl
  by_cases h0 : N = 0
  · subst h0
    have hcp := run_copy_none (P := Tryz.prog) wc 47 47 3 3 (some ⟨q, 0, none⟩) (some ⟨G, 0, none⟩) 0 0 1 1 hu hsz rfl
    have HQ := Lib.hid hQ
    have HB := Lib.hid hb
    clear hQ hb
    go_wp2_with fail
    go_loopg [8] 0 (fun _ iv wr => iv = .int .i64 0 ∧ wc = wr)
    case atStart => exact ⟨rfl, rfl⟩
    case round =>
      obtain ⟨rfl, hw⟩ := hrel
      subst hw
      go_wp2_with fail
      go_ret
      exact ⟨q, rfl, HQ.out, hq1, hq2, HB.out⟩
  · have hGl := hB.lt
    have hG0 := (Blk.cell (hB.bel hb) (j := 0) (v := .int .i64 (-1)) rfl)
    have hcp := run_copy_row (P := Tryz.prog) wc 47 47 3 3 q 0 N N ⟨G, 0, none⟩ 1 1 (repC N 0).toArray 3 [.int .i64 (-1)] hu hsz hQ (by show 1 = Nat.min 1 N; exact (Nat.min_eq_left (by omega)).symm) (fun j v hv => by
      rcases j with _ | j
      · simp at hv; subst hv; exact hG0
      · simp at hv) (by rw [List.size_toArray, repC_len (Nat.zero_le _)]; simp; omega) (fun v hv => by simp at hv; subst hv; rfl)
    obtain ⟨W2, hW2⟩ : ∃ W2, W2 = wc.setRow q ((repC N 0).toArray.toList.take 0 ++ [Value.int .i64 (-1)] ++ (repC N 0).toArray.toList.drop (0 + [Value.int .i64 (-1)].length)).toArray := ⟨_, rfl⟩
    rw [← hW2] at hcp
    have hrow : Blk W2 q (repC N 1).toArray 3 := by
      rw [hW2, show (repC N 1) = (repC N 0).toArray.toList.take 0 ++ [Value.int .i64 (-1)] ++ (repC N 0).toArray.toList.drop (0 + [Value.int .i64 (-1)].length) by rw [← (repC_splice (N := N) (k := 0) (c := 1))]; unfold splice; rw [← List.append_assoc]; rfl]
      exact setRow_heap wc q _ _ _ _ hQ
    have hbel : Below w1.heap.size w1 W2 := by rw [hW2]; exact below_setRow hb hq1 _
    have hsz2 : q < W2.heap.size := hrow.lt
    have HQ := Lib.hid hrow
    have HB := Lib.hid hbel
    have hcp' : (Builtin.copy_ #[47, 47] 3 #[.slice (some ⟨q, 0, none⟩) N N, .slice (some ⟨G, 0, none⟩) 1 1]).run Tryz.prog wc = .ok (.int .i64 1) W2 := hcp
    clear hQ hb hcp hrow hbel hW2 hG0 hGl
    go_wp2_with fail
    go_loopg [8] N (fun gk i wr => ∃ k : Nat, 1 ≤ k ∧ k ≤ N ∧ N - k ≤ gk ∧ i = .int .i64 k ∧ Blk wr q (repC N k).toArray 3 ∧ Below w1.heap.size w1 wr)
    case atStart => exact ⟨1, Nat.le_refl _, by omega, by omega, rfl, HQ.out, HB.out⟩
    case round =>
      obtain ⟨k, hk1, hk, hgk, rfl, hQ, hb⟩ := hrel
      by_cases hlt : k < N
      · obtain ⟨c, hc⟩ : ∃ c, c = Nat.min k (N - k) := ⟨_, rfl⟩
        have hc1 : k + c ≤ N ∧ 1 ≤ c ∧ c ≤ k := by rw [hc]; simp only [Nat.min_def]; split <;> omega
        have hcl : (List.replicate c (Value.int .i64 (-1))).length = c := List.length_replicate ..
        obtain ⟨cs, hcs⟩ : ∃ cs, cs = List.replicate c (Value.int .i64 (-1)) := ⟨_, rfl⟩
        rw [← hcs] at hcl
        have HCL := Lib.hid (show cs.length = Nat.min k (N - k) by rw [hcl, hc])
        have HSP := Lib.hid (show splice (repC N k) k cs = repC N (k + c) by rw [hcs]; exact repC_splice)
        have HON := Lib.hid (show ∀ v ∈ cs, v.oneCell' = true by rw [hcs]; intro v hv; rw [List.eq_of_mem_replicate hv]; rfl)
        have HSR := Lib.hid (show ∀ (j : Nat) (v : Value), cs[j]? = some v → wr.drew.cell? ((⟨q, 0, none⟩ : Addr).add j) = some v from fun j v hv => by
          rw [hcs, List.getElem?_replicate] at hv
          have hjc : j < c := by
            by_cases h : j < c
            · exact h
            · rw [if_neg h] at hv; cases hv
          rw [if_pos hjc] at hv
          injection hv with hv
          subst hv
          have := Blk.cell hQ (j := j) (v := .int .i64 (-1)) (by rw [List.getElem?_toArray]; unfold repC; rw [List.getElem?_append_left (by rw [List.length_replicate]; omega), List.getElem?_replicate, if_pos (by omega)])
          have ha : (⟨q, 0, none⟩ : Addr).add j = ⟨q, j, none⟩ := by
            unfold Addr.add; split
            · next h0 => rw [h0]
            · simp
          rw [ha]; exact this)
        have HFT := Lib.hid (show k + cs.length ≤ (repC N k).length by rw [repC_len hk, hcl]; exact hc1.1)
        have HQ2 := Lib.hid (show wr.drew.heap[q]? = some (.cells (repC N k).toArray 3 (0, 0)) from hQ)
        have HB2 := Lib.hid hb.drew
        have HCC := Lib.hid hcl
        have k0 : (0 : Int) ≤ (k : Int) := Int.natCast_nonneg _
        have k1 : (k : Int) ≤ (N : Int) := by omega
        have hNk : ¬ N = k := by omega
        clear hQ hb hc hcs hcl
        go_wp2_with fail
        go_region_law (refine step_copy_splice rfl (.tmp 41) (.tmp 44) 47 47 rfl 3 hu hsz (some ⟨q, k, none⟩) (some ⟨q, 0, none⟩) (N - k) (N - k) k N (by simp [Act.eval, Act.put]) (by simp [Act.eval, Act.put]) q k (repC N k) 3 HQ2.out cs HCL.out (fun _ => ⟨rfl, _, rfl, HSR.out⟩) HFT.out HON.out w1.heap.size w1 HB2.out hq1 ?_; intro w2 hG2 hb2)
        all_goals
          have hcl2 := HCC.out
          have hw : IntKind.i64.wrap ((k : Int) + (cs.length : Int)) = ((k + c : Nat) : Int) := by rw [hcl2, IntKind.wrap_i64]; omega
          rw [hw]
          go_wp2_with fail
          go_roundg (N - (k + 1))
          case measure => omega
          refine ⟨k + c, by omega, hc1.1, by omega, rfl, ?_, hb2⟩
          rw [← HSP.out]
          exact hG2.out
      · obtain rfl : k = N := by omega
        have HRW := Lib.hid (show RowI wr q (List.replicate k (-1)) 3 by
          unfold RowI
          rw [show ((List.replicate k (-1 : Int)).map (Value.int .i64)) = repC k k by simp [repC]]
          exact hQ)
        have hql := hQ.lt
        have HBB := Lib.hid hb
        clear hQ hb
        go_wp2_with fail
        go_ret
        exact ⟨q, rfl, HRW.out, hq1, hql, HBB.out⟩
end Go.Proofs.YtoilcdgpeilgaaaGreat
namespace Go.Proofs.YtoilcdgpeilgaaaGreat
open Go.RowKit Go.Shelf
theorem cell_bv {W X : World} {p j : Nat} {v : Value} (hX : Below W.heap.size W X) (hc : W.cell? ⟨p, j, none⟩ = some v) : X.cell? ⟨p, j, none⟩ = some v := (World.cell?_of_block (a := ⟨p, j, none⟩) (hX.block _ (cell_lt hc))).trans hc
structure TabI (w : World) (base O : Nat) (vs : List Value) (rows : List (List Int)) : Prop where
  ll : rows.length = vs.length
  outer : Blk w O vs.toArray 47
  lo : O < base
  row : ∀ (a : Nat) (v : Value), vs[a]? = some v → ∃ xs, Own intC 1 3 w base v (rows.getD a []) xs
  dis : ∀ (a b : Nat) (v u : Value) (g : Nat), vs[a]? = some v → vs[b]? = some u → v.ownBlock = some g → u.ownBlock = some g → a = b
theorem TabI.bel {w w' : World} {base O : Nat} {vs : List Value} {rows : List (List Int)} (h : TabI w base O vs rows) (hb : Below w.heap.size w w') : TabI w' base O vs rows :=
  ⟨h.ll, h.outer.bel hb, h.lo, fun a v hv => by obtain ⟨xs, ho⟩ := h.row a v hv; exact ⟨xs, ho.bel hb⟩, h.dis⟩
theorem TabI.new {w : World} {base O n : Nat} (hO : Blk w O (Array.replicate n (Value.slice none 0 0)) 47) (hlo : O < base) : TabI w base O (List.replicate n (.slice none 0 0)) (List.replicate n []) := by
  have hv : ∀ (a : Nat) (v : Value), (List.replicate n (Value.slice none 0 0))[a]? = some v → v = .slice none 0 0 := fun a v h => by
    rw [List.getElem?_replicate] at h
    split at h
    · injection h with h; exact h.symm
    · cases h
  refine ⟨by simp, by rw [List.toArray_replicate]; exact hO, hlo, fun a v h => ?_, fun a b v u g h _ hg _ => ?_⟩
  · obtain rfl := hv a v h
    have : (List.replicate n ([] : List Int)).getD a [] = [] := by
      rw [List.getD_eq_getElem?_getD, List.getElem?_replicate]; split <;> rfl
    rw [this]
    exact ⟨[], Own.nil _ _ _ _ _⟩
  · obtain rfl := hv a v h
    cases hg
theorem TabI.put {w w' : World} {base O : Nat} {vs : List Value} {rows : List (List Int)} (h : TabI w base O vs rows) {l : Nat} {v v' : Value} {r' : List Int} {xs : List Value} (hv : vs[l]? = some v)
    (ho : Own intC 1 3 w' base v' r' xs) (hg : w.grownBy w' v.ownBlock) (hat : v'.ownBlock = v.ownBlock ∨ v'.ownBlock = some w.heap.size) :
    TabI (w'.setCell ⟨O, l, none⟩ v') base O (vs.set l v') (rows.set l r') := by
  have hl : l < vs.length := (List.getElem?_eq_some_iff.1 hv).1
  have hlo := h.lo
  have hOv : some O ≠ v.ownBlock := fun e => by
    obtain ⟨xs0, h0⟩ := h.row l v hv
    have := (h0.lt O e.symm).1; omega
  have hold : ∀ (a : Nat) (u : Value) (g : Nat), vs[a]? = some u → u.ownBlock = some g → g < w.heap.size := fun a u g hu hug => by
    obtain ⟨xs0, h0⟩ := h.row a u hu
    exact (h0.lt g hug).2
  refine ⟨by rw [List.length_set, List.length_set]; exact h.ll, ?_, hlo, fun a u hu => ?_, fun a b u1 u2 g h1 h2 e1 e2 => ?_⟩
  · have := Blk.set (j := l) (show Blk w' O vs.toArray 47 from (hg.block O h.outer.lt hOv).trans h.outer) v'
    rw [show (vs.set l v').toArray = vs.toArray.set! l v' by simp]
    exact this
  · by_cases hal : l = a
    · subst hal
      rw [List.getElem?_set_self hl] at hu
      injection hu with hu
      subst hu
      refine ⟨xs, ?_⟩
      rw [List.getD_eq_getElem?_getD, List.getElem?_set_self (by rw [h.ll]; exact hl)]
      exact ho.keep intC_good fun b hb _ => Below.heap_setCell _ _ _ _ (by show b ≠ O; omega)
    · rw [List.getElem?_set_ne hal] at hu
      obtain ⟨xs0, h0⟩ := h.row a u hu
      refine ⟨xs0, ?_⟩
      rw [List.getD_eq_getElem?_getD, List.getElem?_set_ne hal, ← List.getD_eq_getElem?_getD]
      have h1 : Own intC 1 3 w' base u (rows.getD a []) xs0 := by
        rcases h0.row.2 with ⟨rfl, hn⟩ | ⟨g, cap, cur, rfl, hb, hgg, r⟩
        · have : rows.getD a [] = [] := List.eq_nil_of_length_eq_zero hn
          have hx : xs0 = [] := List.eq_nil_of_length_eq_zero (by rw [h0.row.1, hn])
          rw [this, hx]
          exact Own.nil _ _ _ _ _
        · have hgne : some g ≠ v.ownBlock := fun e => hal (h.dis l a v _ g hv hu e.symm rfl)
          exact ⟨⟨h0.row.1, .inr ⟨g, cap, cur, rfl, hb, (hg.block g (Array.getElem?_eq_some_iff.1 hgg).1 hgne).trans hgg, r⟩⟩, fun i x hx => by
            obtain ⟨cs, hc, r2⟩ := h0.el i x hx
            exact ⟨cs, intC_flat _ _ _ _ _ _ hc, r2⟩⟩
      exact h1.keep intC_good fun b hb _ => Below.heap_setCell _ _ _ _ (by show b ≠ O; omega)
  · have key : ∀ (c : Nat) (u : Value), l ≠ c → vs[c]? = some u → ∀ q, u.ownBlock = some q → v'.ownBlock ≠ some q := fun c u hlc hu q hq e => by
      rcases hat with e3 | e3
      · exact hlc (h.dis l c v u q hv hu (by rw [← e3]; exact e) hq)
      · rw [e3] at e; injection e with e; have := hold c u q hu hq; omega
    by_cases hla : l = a <;> by_cases hlb : l = b
    · rw [← hla, ← hlb]
    · subst hla
      rw [List.getElem?_set_self hl] at h1
      injection h1 with h1
      subst h1
      rw [List.getElem?_set_ne hlb] at h2
      exact absurd e1 (key b u2 hlb h2 g e2)
    · subst hlb
      rw [List.getElem?_set_self hl] at h2
      injection h2 with h2
      subst h2
      rw [List.getElem?_set_ne hla] at h1
      exact absurd e2 (key a u1 hla h1 g e1)
    · rw [List.getElem?_set_ne hla] at h1
      rw [List.getElem?_set_ne hlb] at h2
      exact h.dis a b u1 u2 g h1 h2 e1 e2
theorem TabI.sl {w : World} {base O : Nat} {vs : List Value} {rows : List (List Int)} (h : TabI w base O vs rows) (hm : vs.length ≤ 1000000) {S : Nat → Prop} (hO : S O) (hS : ∀ b, base ≤ b → b < w.heap.size → S b) :
    Sl (slC intC 1) 1 w S (some ⟨O, 0, none⟩) vs.length vs.length rows := by
  refine ⟨h.ll, Nat.le_refl _, by unfold maxLen; omega, fun i x hx => ?_⟩
  have hi : i < vs.length := by rw [← h.ll]; exact (List.getElem?_eq_some_iff.1 hx).1
  obtain ⟨xs, ho⟩ := h.row i _ (List.getElem?_eq_getElem hi)
  obtain ⟨A, n, cap, he, hs⟩ := ho.sl intC_good
  have hr : rows.getD i [] = x := by rw [List.getD_eq_getElem?_getD, hx]; rfl
  rw [hr] at hs
  refine ⟨O, 0, [vs[i]], rfl, hO, ⟨A, n, cap, by rw [he], hs.keep intC_good (by omega) fun b hb hlt => ⟨rfl, hS b hb hlt⟩⟩, rfl, fun j u hu => ?_⟩
  rcases j with _ | j
  · simp at hu; subst hu
    exact Blk.cell h.outer (by simp [hi])
  · simp at hu
structure StAt (w : World) (P G N : Nat) (A : Option Addr) (n cap R : Nat) (rows : List (List Int)) (has : List Int) : Prop where
  sl : Sl (slC intC 1) 1 w (fun b => b ≠ G ∧ b ≠ P ∧ b < N) A n cap rows
  st : ∃ z, Blk w P #[.slice A n cap, .slice (some ⟨G, 0, none⟩) R R, z] 299
  row : RowI w G has 3
  lh : has.length = R
  pg : P ≠ G
  pn : P < N
  gn : G < N
  le : N ≤ w.heap.size
theorem StAt.bel {w w' : World} {P G N : Nat} {A : Option Addr} {n cap R : Nat} {rows : List (List Int)} {has : List Int} (h : StAt w P G N A n cap R rows has) (hb : Below w.heap.size w w') : StAt w' P G N A n cap R rows has := by
  obtain ⟨z, hz⟩ := h.st
  exact ⟨h.sl.below ints_good (by omega) hb, ⟨z, hz.bel hb⟩, h.row.bel hb, h.lh, h.pg, h.pn, h.gn, Nat.le_trans h.le hb.size⟩
theorem StAt.found {w w' : World} {P G N M : Nat} {A : Option Addr} {n cap R : Nat} {rows : List (List Int)} {has has' : List Int} {met' : List Bool} (h : StAt w P G N A n cap R rows has) (hM : N ≤ M) (hk : Kept (fun k => k = G ∨ k = M) w w') (hA : MtAt w' P G M A n cap R rows has' met') : StAt w' P G N A n cap R rows has' :=
  ⟨h.sl.keep ints_good (by omega) fun b hb hlt => ⟨hk.block b hlt (by rintro (e | e); exact hb.1 e; have := hb.2.2; omega), hb⟩, ⟨_, hA.st⟩, hA.row, hA.lh, h.pg, h.pn, h.gn, Nat.le_trans h.le hk.size⟩
set_option maxRecDepth 100000 in
theorem forget_any (P G N : Nat) (A : Option Addr) (n cap R : Nat) (rows : List (List Int)) (has : List Int) (w : World) (h : StAt w P G N A n cap R rows has) (hR : R ≤ 16) :
    Calls Tryz.prog 259 #[.pointer (some ⟨P, 0, none⟩)] w fun e w' => e = .returned (.tuple #[]) ∧ MtAt w' P G w.heap.size A n cap R rows has (List.replicate R false) ∧ StAt w' P G N A n cap R rows has ∧ Kept (fun k => k = P) w w' := by
  have hmk := fun W => mkB R hR W
  obtain ⟨z, hz⟩ := h.st
  have hPl := hz.lt
  have p1 : w.cell? ⟨P, 1, none⟩ = some (.slice (some ⟨G, 0, none⟩) R R) := hz.cell rfl
  have p2 : w.cell? ⟨P, 2, none⟩ = some z := hz.cell rfl
  have f2 := hz.free 2
  have hGl : G < w.heap.size := Blk.lt h.row
  have hz2 : Blk ((w.alloc (.cells (Array.replicate R (Value.bool false)) 4)).setCell ⟨P, 2, none⟩ (.slice (some ⟨w.heap.size, 0, none⟩) R R)) P #[.slice A n cap, .slice (some ⟨G, 0, none⟩) R R, .slice (some ⟨w.heap.size, 0, none⟩) R R] 299 := Blk.set (j := 2) (Blk.old hz _) (.slice (some ⟨w.heap.size, 0, none⟩) R R)
  have hrow : RowI ((w.alloc (.cells (Array.replicate R (Value.bool false)) 4)).setCell ⟨P, 2, none⟩ (.slice (some ⟨w.heap.size, 0, none⟩) R R)) G has 3 := RowI.other (Blk.old h.row _) h.pg _
  have hsl : ∀ S : Nat → Prop, (∀ b, b ≠ G ∧ b ≠ P ∧ b < N → S b) → Sl (slC intC 1) 1 ((w.alloc (.cells (Array.replicate R (Value.bool false)) 4)).setCell ⟨P, 2, none⟩ (.slice (some ⟨w.heap.size, 0, none⟩) R R)) S A n cap rows := fun S hS =>
    h.sl.keep ints_good (by omega) fun b hb hlt => ⟨(Below.heap_setCell _ _ _ _ hb.2.1).trans (Below.heap_alloc _ _ _ hlt), hS b hb⟩
  have hmt : RowB ((w.alloc (.cells (Array.replicate R (Value.bool false)) 4)).setCell ⟨P, 2, none⟩ (.slice (some ⟨w.heap.size, 0, none⟩) R R)) w.heap.size (List.replicate R false) := RowB.other (rowB_new (blk1 _ _)) (by simp; omega) _
  have hN := h.le
  have hpn := h.pn
  have HPOST := Lib.hid (show MtAt ((w.alloc (.cells (Array.replicate R (Value.bool false)) 4)).setCell ⟨P, 2, none⟩ (.slice (some ⟨w.heap.size, 0, none⟩) R R)) P G w.heap.size A n cap R rows has (List.replicate R false) ∧ StAt ((w.alloc (.cells (Array.replicate R (Value.bool false)) 4)).setCell ⟨P, 2, none⟩ (.slice (some ⟨w.heap.size, 0, none⟩) R R)) P G N A n cap R rows has ∧
      Kept (fun k => k = P) w ((w.alloc (.cells (Array.replicate R (Value.bool false)) 4)).setCell ⟨P, 2, none⟩ (.slice (some ⟨w.heap.size, 0, none⟩) R R)) from
    ⟨⟨hsl _ fun b hb => ⟨hb.1, by omega⟩, hz2, hrow, hmt, h.lh, by simp⟩, ⟨hsl _ fun b hb => hb, ⟨_, hz2⟩, hrow, h.lh, h.pg, h.pn, h.gn, by simp [World.setCell]; omega⟩, ((Kept.refl (fun k => k = P) w).alloc _).setCell (p := ⟨P, 2, none⟩) (.inl rfl) _⟩)
  rw [World.setCell_alloc_past _ _ _ _ hPl] at HPOST
  clear h hz hz2 hrow hsl hmt
  go_enter Tryz.func259, Tryz.ntmps259
  go_wp2_with fail
  go_end0
  exact ⟨rfl, HPOST.out⟩
end Go.Proofs.YtoilcdgpeilgaaaGreat
