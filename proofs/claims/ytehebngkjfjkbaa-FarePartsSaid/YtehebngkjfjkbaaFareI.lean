/-
  Fares: the laws' helpers table, fareBegun.
-/
import Derived.Test.YtehebngkjfjkbaaFareH
import Derived.Test.YtehebngkjfjkbaaKit
namespace Go.Proofs.Ytehebngkjfjkbaa
open Go.RowKit Go.Shelf

instance bandK : CodK bandC 2 := ⟨bandC_good, by omega⟩
instance intsK : CodK (slC intC 1) 1 := ⟨slC_good intC_good (by omega), by omega⟩

def tableX : Fares := ⟨[[100, 200, 301], [150, 250, 350], [500, 500, 500]], 50, 33, [⟨7, 100⟩, ⟨30, 50⟩], 20⟩

theorem table_any (w : World) : Calls Try.prog 85 #[] w fun e w' => ∃ A n cap B m cap2, e = .returned (.agg #[.slice A n cap, .int .i64 50, .int .i64 33, .slice B m cap2, .int .i64 20]) ∧ FareR w' A n cap tableX B m cap2 ∧ Below w.heap.size w w' := by
  go_enter Try.func85, Try.ntmps85
  go_wp2_with fail
  refine bodyPost_ret (v := .agg #[.slice (some ⟨w.heap.size + 1 + 1 + 1 + 1, 0, none⟩) 3 3, .int .i64 50, .int .i64 33, .slice (some ⟨w.heap.size + 1 + 1 + 1 + 1 + 1, 0, none⟩) 2 2, .int .i64 20]) (by simp [results, Try.results85, go_sem]) rfl ?_
  refine ⟨_, _, _, _, _, _, rfl, ⟨?_, ?_, .of (by decide) (by decide), .of (by decide) (by decide), .of (by decide) (by decide)⟩, ?_⟩
  · refine Sl.ofBlk (l := tableX.leg) (((Blk.new4 w _ _ _ _ _ _).old _)) (by decide) trivial fun i x hx => ?_
    rcases i with _ | _ | _ | i
    · obtain rfl : [100, 200, 301] = x := by simpa [tableX] using hx
      exact ⟨[.slice (some ⟨w.heap.size + 1, 0, none⟩) 3 3], ⟨_, _, _, rfl, Sl.ofInts [100, 200, 301] (((((Blk.new1 w _ _ _).old _).old _).old _).old _) (by decide) trivial (by decide)⟩, rfl, fun j u hu => by rcases j with _ | j <;> simp_all⟩
    · obtain rfl : [150, 250, 350] = x := by simpa [tableX] using hx
      exact ⟨[.slice (some ⟨w.heap.size + 1 + 1, 0, none⟩) 3 3], ⟨_, _, _, rfl, Sl.ofInts [150, 250, 350] ((((Blk.new2 w _ _ _ _).old _).old _).old _) (by decide) trivial (by decide)⟩, rfl, fun j u hu => by rcases j with _ | j <;> simp_all⟩
    · obtain rfl : [500, 500, 500] = x := by simpa [tableX] using hx
      exact ⟨[.slice (some ⟨w.heap.size + 1 + 1 + 1, 0, none⟩) 3 3], ⟨_, _, _, rfl, Sl.ofInts [500, 500, 500] (((Blk.new3 w _ _ _ _ _).old _).old _) (by decide) trivial (by decide)⟩, rfl, fun j u hu => by rcases j with _ | j <;> simp_all⟩
    · simp [tableX] at hx
  · refine Sl.ofBlk (l := tableX.bands) (Blk.new5 w _ _ _ _ _ _ _) (by decide) trivial fun i x hx => ?_
    rcases i with _ | _ | i
    · simp [tableX] at hx; subst hx
      exact ⟨_, ⟨rfl, .of (by decide) (by decide), .of (by decide) (by decide)⟩, rfl, fun j u hu => by rcases j with _ | _ | j <;> simp_all⟩
    · simp [tableX] at hx; subst hx
      exact ⟨_, ⟨rfl, .of (by decide) (by decide), .of (by decide) (by decide)⟩, rfl, fun j u hu => by rcases j with _ | _ | j <;> simp_all⟩
    · simp [tableX] at hx
  · exact ((bel3 w _ _ _).alloc (by simp; omega) _ |>.alloc (by simp; omega) _).alloc (by simp; omega) _

set_option maxHeartbeats 4000000 in
theorem fareBegun_any (w : World) : Calls Try.prog 50 #[] w fun e w' => e = .returned (.bool true) ∧ Below w.heap.size w w' := by
  have hb := Below.refl w.heap.size w
  have hP := fun g A n cap B m cap2 W h => Price_any A n cap tableX B m cap2 3 3 0 1 3 g W h
  have hD := fun A n cap B m cap2 W h => Down_any A n cap tableX B m cap2 3 3 1003 W h
  have hN := fun A n cap B m cap2 W h => Penalty_any A n cap tableX B m cap2 3 3 1001 8 W h
  have hC := fun A n cap B m cap2 W h => fareCheck_any A n cap tableX B m cap2 3 3 W h
  have e1 : priceE tableX 3 3 0 ⟨1, 3⟩ 1 = 0 := by decide
  have e2 : priceE tableX 3 3 0 ⟨1, 3⟩ 4 = 0 := by decide
  have e3 : payE tableX 3 3 1003 = 0 := by decide
  have e4 : penE tableX 3 3 1001 8 = 0 := by decide
  have e5 : fareE tableX 3 3 = 0 := by decide
  have v1 : ofV tableX 0 ⟨1, 3⟩ 1 = 752 := by decide
  have v2 : ofV tableX 0 ⟨1, 3⟩ 4 = 1332 := by decide
  have v3 : partV 1003 tableX.down = 201 := by decide
  have v4 : lateV tableX 1001 8 = 501 := by decide
  have hP1 := hP 1
  have hP4 := hP 4
  rw [e1, v1] at hP1
  rw [e2, v2] at hP4
  rw [e3, v3] at hD
  rw [e4, v4] at hN
  rw [e5] at hC
  have HP1 := Lib.hid hP1
  clear hP1
  have HP4 := Lib.hid hP4
  clear hP4
  have HD := Lib.hid hD
  clear hD
  have HN := Lib.hid hN
  clear hN
  have HC := Lib.hid hC
  clear hC
  clear e1 e2 e3 e4 e5 v1 v2 v3 v4 hP
  go_enter Try.func50, Try.ntmps50
  go_wp2_with fail
  refine (table_any _).mono ?_
  rintro e w9 ⟨A, n, cap, B, m, cap2, rfl, hx, hb9⟩
  replace hb := hb.trans (hb9.mono hb.size)
  clear hb9
  go_wp2_with fail
  refine (HP1.out _ _ _ _ _ _ _ hx).mono ?_
  rintro e w101 ⟨rfl, hb101⟩
  replace hb := hb.trans (hb101.mono hb.size)
  clear hb101
  go_wp2_with fail
  refine (table_any _).mono ?_
  rintro e w9 ⟨A, n, cap, B, m, cap2, rfl, hx, hb9⟩
  replace hb := hb.trans (hb9.mono hb.size)
  clear hb9
  go_wp2_with fail
  refine (HP4.out _ _ _ _ _ _ _ hx).mono ?_
  rintro e w102 ⟨rfl, hb102⟩
  replace hb := hb.trans (hb102.mono hb.size)
  clear hb102
  go_wp2_with fail
  refine (table_any _).mono ?_
  rintro e w9 ⟨A, n, cap, B, m, cap2, rfl, hx, hb9⟩
  replace hb := hb.trans (hb9.mono hb.size)
  clear hb9
  go_wp2_with fail
  refine (HD.out _ _ _ _ _ _ _ hx).mono ?_
  rintro e w103 ⟨rfl, hb103⟩
  replace hb := hb.trans (hb103.mono hb.size)
  clear hb103
  go_wp2_with fail
  refine (table_any _).mono ?_
  rintro e w9 ⟨A, n, cap, B, m, cap2, rfl, hx, hb9⟩
  replace hb := hb.trans (hb9.mono hb.size)
  clear hb9
  go_wp2_with fail
  refine (HN.out _ _ _ _ _ _ _ hx).mono ?_
  rintro e w104 ⟨rfl, hb104⟩
  replace hb := hb.trans (hb104.mono hb.size)
  clear hb104
  go_wp2_with fail
  refine (table_any _).mono ?_
  rintro e w9 ⟨A, n, cap, B, m, cap2, rfl, hx, hb9⟩
  replace hb := hb.trans (hb9.mono hb.size)
  clear hb9
  go_wp2_with fail
  refine (HC.out _ _ _ _ _ _ _ hx).mono ?_
  rintro e w105 ⟨rfl, hb105⟩
  replace hb := hb.trans (hb105.mono hb.size)
  clear hb105
  go_wp2_with fail
  go_ret
  exact ⟨rfl, hb⟩
end Go.Proofs.Ytehebngkjfjkbaa
