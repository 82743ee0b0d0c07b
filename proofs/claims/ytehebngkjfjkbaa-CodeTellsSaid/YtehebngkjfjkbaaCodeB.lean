/-
  Requests: code.parts.
-/
import Derived.Test.YtehebngkjfjkbaaCodeA
namespace Go.Proofs.Ytehebngkjfjkbaa
open Go.RowKit Go.Shelf

theorem kinds (k : Int) : k = 1 ∨ k = 2 ∨ k = 3 ∨ k = 4 ∨ k = 5 ∨ k = 6 ∨ k = 7 ∨ k = 8 ∨ (k < 1 ∨ 8 < k) := by omega

set_option maxRecDepth 100000 in
set_option maxHeartbeats 4000000 in
theorem parts_any (ba bl : Nat) (k : Int) (w : World) (hk : w.cell? ⟨ba, 1, none⟩ = some (.int .i64 k)) :
    Calls Try.prog 72 #[.pointer (some ⟨ba, 0, none⟩), .pointer (some ⟨bl, 0, none⟩)] w fun e w' => ∃ A n cap, e = .returned (.tuple #[.slice A n cap, .bool (betB k 1 8)]) ∧ Sl (partC ba bl) 3 w' (fun b => w.heap.size ≤ b) A n cap (partsL k) ∧ Below w.heap.size w w' := by
  have hlt := cell_lt hk
  go_enter Try.func72, Try.ntmps72
  go_upto_region 5 with (fail)
  go_cut [10, 11] (fun x y wx => ∃ b1 b2, x = .pointer (some ⟨b1, 0, none⟩) ∧ y = .pointer (some ⟨b2, 0, none⟩) ∧ Blk wx b1 #[.int .i64 1, .int .i64 255, .pointer (some ⟨ba, 7, none⟩)] 101 ∧ Blk wx b2 #[.int .i64 1, .int .i64 255, .pointer (some ⟨ba, 8, none⟩)] 101 ∧ Below ((((w.alloc (.cells #[.int .i64 3, .int .i64 999999, .pointer (some ⟨ba, 2, none⟩)] 101)).alloc (.cells #[.int .i64 1, .int .i64 255, .pointer (some ⟨ba, 3, none⟩)] 101)).alloc (.cells #[.int .i64 1, .int .i64 255, .pointer (some ⟨ba, 5, none⟩)] 101)).alloc (.cells #[.int .i64 1, .int .i64 255, .pointer (some ⟨ba, 6, none⟩)] 101)).heap.size ((((w.alloc (.cells #[.int .i64 3, .int .i64 999999, .pointer (some ⟨ba, 2, none⟩)] 101)).alloc (.cells #[.int .i64 1, .int .i64 255, .pointer (some ⟨ba, 3, none⟩)] 101)).alloc (.cells #[.int .i64 1, .int .i64 255, .pointer (some ⟨ba, 5, none⟩)] 101)).alloc (.cells #[.int .i64 1, .int .i64 255, .pointer (some ⟨ba, 6, none⟩)] 101)) wx)
  case first => as_aux_lemma =>
    go_region
    · go_wp2_with fail
      go_meet
      exact ⟨_, _, rfl, rfl, (Blk.new4 w _ _ _ _ _ _).old _, Blk.new5 w _ _ _ _ _ _ _, (bel2 _ _ _).drew⟩
    · go_wp2_with fail
      go_meet
      exact ⟨_, _, rfl, rfl, Blk.new5 w _ _ _ _ _ _ _, (Blk.new4 w _ _ _ _ _ _).old _, (bel2 _ _ _).drew⟩
  obtain ⟨b1, b2, rfl, rfl, f10, f11, hb⟩ := hcut
  have f6 : Blk wc w.heap.size #[.int .i64 3, .int .i64 999999, .pointer (some ⟨ba, 2, none⟩)] 101 := Blk.bel (w := ((((w.alloc (.cells #[.int .i64 3, .int .i64 999999, .pointer (some ⟨ba, 2, none⟩)] 101)).alloc (.cells #[.int .i64 1, .int .i64 255, .pointer (some ⟨ba, 3, none⟩)] 101)).alloc (.cells #[.int .i64 1, .int .i64 255, .pointer (some ⟨ba, 5, none⟩)] 101)).alloc (.cells #[.int .i64 1, .int .i64 255, .pointer (some ⟨ba, 6, none⟩)] 101))) ((((Blk.new w _ _).old _).old _).old _) hb
  have f7 : Blk wc (w.heap.size + 1) #[.int .i64 1, .int .i64 255, .pointer (some ⟨ba, 3, none⟩)] 101 := Blk.bel (w := ((((w.alloc (.cells #[.int .i64 3, .int .i64 999999, .pointer (some ⟨ba, 2, none⟩)] 101)).alloc (.cells #[.int .i64 1, .int .i64 255, .pointer (some ⟨ba, 3, none⟩)] 101)).alloc (.cells #[.int .i64 1, .int .i64 255, .pointer (some ⟨ba, 5, none⟩)] 101)).alloc (.cells #[.int .i64 1, .int .i64 255, .pointer (some ⟨ba, 6, none⟩)] 101))) (((Blk.new1 w _ _ _).old _).old _) hb
  have f8 : Blk wc (w.heap.size + 1 + 1) #[.int .i64 1, .int .i64 255, .pointer (some ⟨ba, 5, none⟩)] 101 := Blk.bel (w := ((((w.alloc (.cells #[.int .i64 3, .int .i64 999999, .pointer (some ⟨ba, 2, none⟩)] 101)).alloc (.cells #[.int .i64 1, .int .i64 255, .pointer (some ⟨ba, 3, none⟩)] 101)).alloc (.cells #[.int .i64 1, .int .i64 255, .pointer (some ⟨ba, 5, none⟩)] 101)).alloc (.cells #[.int .i64 1, .int .i64 255, .pointer (some ⟨ba, 6, none⟩)] 101))) ((Blk.new2 w _ _ _ _).old _) hb
  have f9 : Blk wc (w.heap.size + 1 + 1 + 1) #[.int .i64 1, .int .i64 255, .pointer (some ⟨ba, 6, none⟩)] 101 := Blk.bel (w := ((((w.alloc (.cells #[.int .i64 3, .int .i64 999999, .pointer (some ⟨ba, 2, none⟩)] 101)).alloc (.cells #[.int .i64 1, .int .i64 255, .pointer (some ⟨ba, 3, none⟩)] 101)).alloc (.cells #[.int .i64 1, .int .i64 255, .pointer (some ⟨ba, 5, none⟩)] 101)).alloc (.cells #[.int .i64 1, .int .i64 255, .pointer (some ⟨ba, 6, none⟩)] 101))) (Blk.new3 w _ _ _ _ _) hb
  have k6_0 := f6.cell (j := 0) rfl
  have k6_1 := f6.cell (j := 1) rfl
  have k6_2 := f6.cell (j := 2) rfl
  have k7_0 := f7.cell (j := 0) rfl
  have k7_1 := f7.cell (j := 1) rfl
  have k7_2 := f7.cell (j := 2) rfl
  have k8_0 := f8.cell (j := 0) rfl
  have k8_1 := f8.cell (j := 1) rfl
  have k8_2 := f8.cell (j := 2) rfl
  have k9_0 := f9.cell (j := 0) rfl
  have k9_1 := f9.cell (j := 1) rfl
  have k9_2 := f9.cell (j := 2) rfl
  have k10_0 := f10.cell (j := 0) rfl
  have k10_1 := f10.cell (j := 1) rfl
  have k10_2 := f10.cell (j := 2) rfl
  have k11_0 := f11.cell (j := 0) rfl
  have k11_1 := f11.cell (j := 1) rfl
  have k11_2 := f11.cell (j := 2) rfl
  have hb0 : Below w.heap.size w ((((w.alloc (.cells #[.int .i64 3, .int .i64 999999, .pointer (some ⟨ba, 2, none⟩)] 101)).alloc (.cells #[.int .i64 1, .int .i64 255, .pointer (some ⟨ba, 3, none⟩)] 101)).alloc (.cells #[.int .i64 1, .int .i64 255, .pointer (some ⟨ba, 5, none⟩)] 101)).alloc (.cells #[.int .i64 1, .int .i64 255, .pointer (some ⟨ba, 6, none⟩)] 101)) := (bel3 _ _ _ _).alloc (by simp; omega) _
  replace hb0 := hb0.trans (hb.mono hb0.size)
  have hk' : wc.cell? ⟨ba, 1, none⟩ = some (.int .i64 k) := (hb0.cell (p := ⟨ba, 1, none⟩) hlt).trans hk
  have hsz := hb0.size
  have hbe : Below w.heap.size w ((wc.alloc (.cells #[.int .i64 2, .int .i64 65535, .pointer (some ⟨ba, 9, none⟩)] 101)).alloc (.cells #[.int .i64 4, .int .i64 100000000, .pointer (some ⟨ba, 10, none⟩)] 101)) := (hb0.alloc hsz _).alloc (by simp; omega) _
  have l1 : ba < wc.heap.size := by omega
  have l2 := f10.lt
  have l3 := f11.lt
  have l4 := f6.lt
  have l5 := f7.lt
  have l6 := f8.lt
  have l7 := f9.lt
  clear hk hb f6 f7 f8 f9 f10 f11
  have HB0 := Lib.hid hb0
  clear hb0
  have HSZ := Lib.hid hsz
  clear hsz
  rcases kinds k with rfl | rfl | rfl | rfl | rfl | rfl | rfl | rfl | hk
  · go_wp2_with fail
    go_ret2
    exact ⟨_, _, _, rfl, Sl.parts [pId, pGuests, pCabin, pFrom, pTo, pLevel, pTil] _ (Blk.new2 wc _ _ _ _) (by decide) (by show _ ≤ _; have := HSZ.out; omega) rfl, hbe.alloc (by have := HSZ.out; simp; omega) _⟩
  · go_wp2_with fail
    go_ret2
    exact ⟨_, _, _, rfl, Sl.parts [pId, pGuests, pCategory, pLevel, pTil] _ (Blk.new2 wc _ _ _ _) (by decide) (by show _ ≤ _; have := HSZ.out; omega) rfl, hbe.alloc (by have := HSZ.out; simp; omega) _⟩
  · go_wp2_with fail
    go_ret2
    exact ⟨_, _, _, rfl, Sl.parts [pId] _ (Blk.new2 wc _ _ _ _) (by decide) (by show _ ≤ _; have := HSZ.out; omega) rfl, hbe.alloc (by have := HSZ.out; simp; omega) _⟩
  · go_wp2_with fail
    go_ret2
    exact ⟨_, _, _, rfl, Sl.parts [pId, pAmount] _ (Blk.new2 wc _ _ _ _) (by decide) (by show _ ≤ _; have := HSZ.out; omega) rfl, hbe.alloc (by have := HSZ.out; simp; omega) _⟩
  · go_wp2_with fail
    go_ret2
    exact ⟨_, _, _, rfl, Sl.parts [pId] _ (Blk.new2 wc _ _ _ _) (by decide) (by show _ ≤ _; have := HSZ.out; omega) rfl, hbe.alloc (by have := HSZ.out; simp; omega) _⟩
  · go_wp2_with fail
    go_ret2
    exact ⟨_, _, _, rfl, Sl.parts [pId, pCabin] _ (Blk.new2 wc _ _ _ _) (by decide) (by show _ ≤ _; have := HSZ.out; omega) rfl, hbe.alloc (by have := HSZ.out; simp; omega) _⟩
  · go_wp2_with fail
    go_ret2
    exact ⟨_, _, _, rfl, Sl.parts [pTil] _ (Blk.new2 wc _ _ _ _) (by decide) (by show _ ≤ _; have := HSZ.out; omega) rfl, hbe.alloc (by have := HSZ.out; simp; omega) _⟩
  · go_wp2_with fail
    go_ret2
    exact ⟨_, _, _, rfl, Sl.nil _ _ _ _, hbe⟩
  · have n1 : (k == 1) = false := by simp; omega
    have n2 : (k == 2) = false := by simp; omega
    have n3 : (k == 3) = false := by simp; omega
    have n4 : (k == 4) = false := by simp; omega
    have n5 : (k == 5) = false := by simp; omega
    have n6 : (k == 6) = false := by simp; omega
    have n7 : (k == 7) = false := by simp; omega
    have n8 : (k == 8) = false := by simp; omega
    have HP := Lib.hid (show partsL k = [] by unfold partsL; repeat (rw [if_neg (by omega)]))
    have HK := Lib.hid (betB_false (n := k) (a := 1) (b := 8) hk)
    clear hk
    go_wp2_with fail
    go_ret2
    exact ⟨none, 0, 0, by rw [HK.out]; rfl, by rw [HP.out]; exact Sl.nil _ _ _ _, hbe⟩
end Go.Proofs.Ytehebngkjfjkbaa
