/-
  Matchings: slices.Repeat at one number, up to 16 times.
-/
import Derived.Test.YtpodgidamoiakaaMatchC
import Derived.Laws.CopyOwn
import Derived.Deep.RegionLaw
namespace Go.Proofs.Ytpodgidamoiakaa
open Go.RowKit Go.Shelf

theorem mulB0 (w : World) : Calls Try.prog 126 #[.int .u64 1, .int .u64 0] w fun e w' => e = .returned (.tuple #[.int .u64 0, .int .u64 0]) ∧ w' = w := by
  go_enter Try.func126, Try.ntmps126
  go_wp2_with fail
  go_ret2
  exact ⟨rfl, rfl⟩
theorem mkI0 (W : World) : (Instr.makeSlice 30 (.int .i64 0) (.int .i64 0)).run Try.prog W = .ok (.slice (some ⟨W.heap.size, 0, none⟩) 0 0) (W.alloc (.cells (Array.replicate 0 (Value.int .i64 0)) 3)) := by kernel_rfl
theorem mulB1 (w : World) : Calls Try.prog 126 #[.int .u64 1, .int .u64 1] w fun e w' => e = .returned (.tuple #[.int .u64 0, .int .u64 1]) ∧ w' = w := by
  go_enter Try.func126, Try.ntmps126
  go_wp2_with fail
  go_ret2
  exact ⟨rfl, rfl⟩
theorem mkI1 (W : World) : (Instr.makeSlice 30 (.int .i64 1) (.int .i64 1)).run Try.prog W = .ok (.slice (some ⟨W.heap.size, 0, none⟩) 1 1) (W.alloc (.cells (Array.replicate 1 (Value.int .i64 0)) 3)) := by kernel_rfl
theorem mulB2 (w : World) : Calls Try.prog 126 #[.int .u64 1, .int .u64 2] w fun e w' => e = .returned (.tuple #[.int .u64 0, .int .u64 2]) ∧ w' = w := by
  go_enter Try.func126, Try.ntmps126
  go_wp2_with fail
  go_ret2
  exact ⟨rfl, rfl⟩
theorem mkI2 (W : World) : (Instr.makeSlice 30 (.int .i64 2) (.int .i64 2)).run Try.prog W = .ok (.slice (some ⟨W.heap.size, 0, none⟩) 2 2) (W.alloc (.cells (Array.replicate 2 (Value.int .i64 0)) 3)) := by kernel_rfl
theorem mulB3 (w : World) : Calls Try.prog 126 #[.int .u64 1, .int .u64 3] w fun e w' => e = .returned (.tuple #[.int .u64 0, .int .u64 3]) ∧ w' = w := by
  go_enter Try.func126, Try.ntmps126
  go_wp2_with fail
  go_ret2
  exact ⟨rfl, rfl⟩
theorem mkI3 (W : World) : (Instr.makeSlice 30 (.int .i64 3) (.int .i64 3)).run Try.prog W = .ok (.slice (some ⟨W.heap.size, 0, none⟩) 3 3) (W.alloc (.cells (Array.replicate 3 (Value.int .i64 0)) 3)) := by kernel_rfl
theorem mulB4 (w : World) : Calls Try.prog 126 #[.int .u64 1, .int .u64 4] w fun e w' => e = .returned (.tuple #[.int .u64 0, .int .u64 4]) ∧ w' = w := by
  go_enter Try.func126, Try.ntmps126
  go_wp2_with fail
  go_ret2
  exact ⟨rfl, rfl⟩
theorem mkI4 (W : World) : (Instr.makeSlice 30 (.int .i64 4) (.int .i64 4)).run Try.prog W = .ok (.slice (some ⟨W.heap.size, 0, none⟩) 4 4) (W.alloc (.cells (Array.replicate 4 (Value.int .i64 0)) 3)) := by kernel_rfl
theorem mulB5 (w : World) : Calls Try.prog 126 #[.int .u64 1, .int .u64 5] w fun e w' => e = .returned (.tuple #[.int .u64 0, .int .u64 5]) ∧ w' = w := by
  go_enter Try.func126, Try.ntmps126
  go_wp2_with fail
  go_ret2
  exact ⟨rfl, rfl⟩
theorem mkI5 (W : World) : (Instr.makeSlice 30 (.int .i64 5) (.int .i64 5)).run Try.prog W = .ok (.slice (some ⟨W.heap.size, 0, none⟩) 5 5) (W.alloc (.cells (Array.replicate 5 (Value.int .i64 0)) 3)) := by kernel_rfl
theorem mulB6 (w : World) : Calls Try.prog 126 #[.int .u64 1, .int .u64 6] w fun e w' => e = .returned (.tuple #[.int .u64 0, .int .u64 6]) ∧ w' = w := by
  go_enter Try.func126, Try.ntmps126
  go_wp2_with fail
  go_ret2
  exact ⟨rfl, rfl⟩
theorem mkI6 (W : World) : (Instr.makeSlice 30 (.int .i64 6) (.int .i64 6)).run Try.prog W = .ok (.slice (some ⟨W.heap.size, 0, none⟩) 6 6) (W.alloc (.cells (Array.replicate 6 (Value.int .i64 0)) 3)) := by kernel_rfl
theorem mulB7 (w : World) : Calls Try.prog 126 #[.int .u64 1, .int .u64 7] w fun e w' => e = .returned (.tuple #[.int .u64 0, .int .u64 7]) ∧ w' = w := by
  go_enter Try.func126, Try.ntmps126
  go_wp2_with fail
  go_ret2
  exact ⟨rfl, rfl⟩
theorem mkI7 (W : World) : (Instr.makeSlice 30 (.int .i64 7) (.int .i64 7)).run Try.prog W = .ok (.slice (some ⟨W.heap.size, 0, none⟩) 7 7) (W.alloc (.cells (Array.replicate 7 (Value.int .i64 0)) 3)) := by kernel_rfl
theorem mulB8 (w : World) : Calls Try.prog 126 #[.int .u64 1, .int .u64 8] w fun e w' => e = .returned (.tuple #[.int .u64 0, .int .u64 8]) ∧ w' = w := by
  go_enter Try.func126, Try.ntmps126
  go_wp2_with fail
  go_ret2
  exact ⟨rfl, rfl⟩
theorem mkI8 (W : World) : (Instr.makeSlice 30 (.int .i64 8) (.int .i64 8)).run Try.prog W = .ok (.slice (some ⟨W.heap.size, 0, none⟩) 8 8) (W.alloc (.cells (Array.replicate 8 (Value.int .i64 0)) 3)) := by kernel_rfl
theorem mulB9 (w : World) : Calls Try.prog 126 #[.int .u64 1, .int .u64 9] w fun e w' => e = .returned (.tuple #[.int .u64 0, .int .u64 9]) ∧ w' = w := by
  go_enter Try.func126, Try.ntmps126
  go_wp2_with fail
  go_ret2
  exact ⟨rfl, rfl⟩
theorem mkI9 (W : World) : (Instr.makeSlice 30 (.int .i64 9) (.int .i64 9)).run Try.prog W = .ok (.slice (some ⟨W.heap.size, 0, none⟩) 9 9) (W.alloc (.cells (Array.replicate 9 (Value.int .i64 0)) 3)) := by kernel_rfl
theorem mulB10 (w : World) : Calls Try.prog 126 #[.int .u64 1, .int .u64 10] w fun e w' => e = .returned (.tuple #[.int .u64 0, .int .u64 10]) ∧ w' = w := by
  go_enter Try.func126, Try.ntmps126
  go_wp2_with fail
  go_ret2
  exact ⟨rfl, rfl⟩
theorem mkI10 (W : World) : (Instr.makeSlice 30 (.int .i64 10) (.int .i64 10)).run Try.prog W = .ok (.slice (some ⟨W.heap.size, 0, none⟩) 10 10) (W.alloc (.cells (Array.replicate 10 (Value.int .i64 0)) 3)) := by kernel_rfl
theorem mulB11 (w : World) : Calls Try.prog 126 #[.int .u64 1, .int .u64 11] w fun e w' => e = .returned (.tuple #[.int .u64 0, .int .u64 11]) ∧ w' = w := by
  go_enter Try.func126, Try.ntmps126
  go_wp2_with fail
  go_ret2
  exact ⟨rfl, rfl⟩
theorem mkI11 (W : World) : (Instr.makeSlice 30 (.int .i64 11) (.int .i64 11)).run Try.prog W = .ok (.slice (some ⟨W.heap.size, 0, none⟩) 11 11) (W.alloc (.cells (Array.replicate 11 (Value.int .i64 0)) 3)) := by kernel_rfl
theorem mulB12 (w : World) : Calls Try.prog 126 #[.int .u64 1, .int .u64 12] w fun e w' => e = .returned (.tuple #[.int .u64 0, .int .u64 12]) ∧ w' = w := by
  go_enter Try.func126, Try.ntmps126
  go_wp2_with fail
  go_ret2
  exact ⟨rfl, rfl⟩
theorem mkI12 (W : World) : (Instr.makeSlice 30 (.int .i64 12) (.int .i64 12)).run Try.prog W = .ok (.slice (some ⟨W.heap.size, 0, none⟩) 12 12) (W.alloc (.cells (Array.replicate 12 (Value.int .i64 0)) 3)) := by kernel_rfl
theorem mulB13 (w : World) : Calls Try.prog 126 #[.int .u64 1, .int .u64 13] w fun e w' => e = .returned (.tuple #[.int .u64 0, .int .u64 13]) ∧ w' = w := by
  go_enter Try.func126, Try.ntmps126
  go_wp2_with fail
  go_ret2
  exact ⟨rfl, rfl⟩
theorem mkI13 (W : World) : (Instr.makeSlice 30 (.int .i64 13) (.int .i64 13)).run Try.prog W = .ok (.slice (some ⟨W.heap.size, 0, none⟩) 13 13) (W.alloc (.cells (Array.replicate 13 (Value.int .i64 0)) 3)) := by kernel_rfl
theorem mulB14 (w : World) : Calls Try.prog 126 #[.int .u64 1, .int .u64 14] w fun e w' => e = .returned (.tuple #[.int .u64 0, .int .u64 14]) ∧ w' = w := by
  go_enter Try.func126, Try.ntmps126
  go_wp2_with fail
  go_ret2
  exact ⟨rfl, rfl⟩
theorem mkI14 (W : World) : (Instr.makeSlice 30 (.int .i64 14) (.int .i64 14)).run Try.prog W = .ok (.slice (some ⟨W.heap.size, 0, none⟩) 14 14) (W.alloc (.cells (Array.replicate 14 (Value.int .i64 0)) 3)) := by kernel_rfl
theorem mulB15 (w : World) : Calls Try.prog 126 #[.int .u64 1, .int .u64 15] w fun e w' => e = .returned (.tuple #[.int .u64 0, .int .u64 15]) ∧ w' = w := by
  go_enter Try.func126, Try.ntmps126
  go_wp2_with fail
  go_ret2
  exact ⟨rfl, rfl⟩
theorem mkI15 (W : World) : (Instr.makeSlice 30 (.int .i64 15) (.int .i64 15)).run Try.prog W = .ok (.slice (some ⟨W.heap.size, 0, none⟩) 15 15) (W.alloc (.cells (Array.replicate 15 (Value.int .i64 0)) 3)) := by kernel_rfl
theorem mulB16 (w : World) : Calls Try.prog 126 #[.int .u64 1, .int .u64 16] w fun e w' => e = .returned (.tuple #[.int .u64 0, .int .u64 16]) ∧ w' = w := by
  go_enter Try.func126, Try.ntmps126
  go_wp2_with fail
  go_ret2
  exact ⟨rfl, rfl⟩
theorem mkI16 (W : World) : (Instr.makeSlice 30 (.int .i64 16) (.int .i64 16)).run Try.prog W = .ok (.slice (some ⟨W.heap.size, 0, none⟩) 16 16) (W.alloc (.cells (Array.replicate 16 (Value.int .i64 0)) 3)) := by kernel_rfl
theorem mulB (n : Nat) (hn : n ≤ 16) (w : World) : Calls Try.prog 126 #[.int .u64 1, .int .u64 (n : Int)] w fun e w' => e = .returned (.tuple #[.int .u64 0, .int .u64 (n : Int)]) ∧ w' = w := by
  have h : n = 0 ∨ n = 1 ∨ n = 2 ∨ n = 3 ∨ n = 4 ∨ n = 5 ∨ n = 6 ∨ n = 7 ∨ n = 8 ∨ n = 9 ∨ n = 10 ∨ n = 11 ∨ n = 12 ∨ n = 13 ∨ n = 14 ∨ n = 15 ∨ n = 16 := by omega
  rcases h with rfl | rfl | rfl | rfl | rfl | rfl | rfl | rfl | rfl | rfl | rfl | rfl | rfl | rfl | rfl | rfl | rfl
  · exact mulB0 w
  · exact mulB1 w
  · exact mulB2 w
  · exact mulB3 w
  · exact mulB4 w
  · exact mulB5 w
  · exact mulB6 w
  · exact mulB7 w
  · exact mulB8 w
  · exact mulB9 w
  · exact mulB10 w
  · exact mulB11 w
  · exact mulB12 w
  · exact mulB13 w
  · exact mulB14 w
  · exact mulB15 w
  · exact mulB16 w
theorem mkI (n : Nat) (hn : n ≤ 16) (W : World) : (Instr.makeSlice 30 (.int .i64 n) (.int .i64 n)).run Try.prog W = .ok (.slice (some ⟨W.heap.size, 0, none⟩) n n) (W.alloc (.cells (Array.replicate n (Value.int .i64 0)) 3)) := by
  have h : n = 0 ∨ n = 1 ∨ n = 2 ∨ n = 3 ∨ n = 4 ∨ n = 5 ∨ n = 6 ∨ n = 7 ∨ n = 8 ∨ n = 9 ∨ n = 10 ∨ n = 11 ∨ n = 12 ∨ n = 13 ∨ n = 14 ∨ n = 15 ∨ n = 16 := by omega
  rcases h with rfl | rfl | rfl | rfl | rfl | rfl | rfl | rfl | rfl | rfl | rfl | rfl | rfl | rfl | rfl | rfl | rfl
  · exact mkI0 W
  · exact mkI1 W
  · exact mkI2 W
  · exact mkI3 W
  · exact mkI4 W
  · exact mkI5 W
  · exact mkI6 W
  · exact mkI7 W
  · exact mkI8 W
  · exact mkI9 W
  · exact mkI10 W
  · exact mkI11 W
  · exact mkI12 W
  · exact mkI13 W
  · exact mkI14 W
  · exact mkI15 W
  · exact mkI16 W
set_option maxHeartbeats 1000000 in
theorem mulA (n : Nat) (hn : n ≤ 16) (w : World) : Calls Try.prog 102 #[.int .u64 1, .int .u64 (n : Int)] w fun e w' => e = .returned (.tuple #[.int .u64 0, .int .u64 (n : Int)]) ∧ w' = w := by
  go_enter Try.func102, Try.ntmps102
  go_wp2_with fail
  refine (mulB n hn _).mono ?_
  rintro e w1 ⟨rfl, rfl⟩
  go_wp2_with fail
  go_ret2
  exact ⟨rfl, rfl⟩
end Go.Proofs.Ytpodgidamoiakaa
