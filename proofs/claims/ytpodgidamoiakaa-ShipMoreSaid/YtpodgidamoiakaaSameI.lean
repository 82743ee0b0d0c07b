/-
  The reference SameInts.
-/
import Derived.Test.YtpodgidamoiakaaSpanA
import Derived.BigQuiet
namespace Go.Proofs.Ytpodgidamoiakaa
open Go.RowKit Go.Shelf

set_option maxHeartbeats 1000000 in
theorem SameInts_any (A B : Option Addr) (n cap m cap2 : Nat) (l l2 : List Int) (w : World) (h : Sl intC 1 w All A n cap l) (h2 : Sl intC 1 w All B m cap2 l2) :
    Calls Try.prog 20 #[.slice A n cap, .slice B m cap2] w fun e w' => e = .returned (.bool (decide (l = l2))) ∧ ∃ q, w' = w.drewN q := by
  have hbd := h.bd
  have hlen := Lib.hid h.len
  have hlen2 := Lib.hid h2.len
  by_cases hnm : n = m
  · subst hnm
    go_enter Try.func20, Try.ntmps20
    go_wp2_with fail
    go_loopg [5] n (fun gk i wr => ∃ k q : Nat, k ≤ n ∧ n - k ≤ gk ∧ i = .int .i64 k ∧ Aside (∀ j, j < k → l[j]? = l2[j]?) ∧ wr = w.drewN q)
    case atStart => exact ⟨0, 0, Nat.zero_le _, by omega, rfl, fun j hj => absurd hj (by omega), rfl⟩
    case round =>
      obtain ⟨k, q, hk, hgk, rfl, HE, rfl⟩ := hrel
      by_cases hlt : k < n
      · obtain ⟨b, off, x, c0, rfl, hx, hc, g0⟩ := h.at1 hlt
        obtain ⟨hc, hw⟩ := hc
        simp only [List.cons.injEq, and_true] at hc
        obtain rfl := hc
        obtain ⟨b', off', y, d0, rfl, hy, hd, g0'⟩ := h2.at1 hlt
        obtain ⟨hd, hw'⟩ := hd
        simp only [List.cons.injEq, and_true] at hd
        obtain rfl := hd
        have HX := Lib.hid hx
        have HY := Lib.hid hy
        clear hx hy
        skip
        by_cases hxy : x = y
        · have he : (x != y) = false := by subst hxy; simp
          have HXY := Lib.hid hxy
          clear hxy
          go_wp2_with fail
          go_quiet (fail)
          go_wp2_with fail
          go_roundg (n - (k + 1))
          case measure => omega
          case rel =>
            refine ⟨k + 1, _, by omega, by omega, by go_num, (show Aside _ from fun j hj => ?_), rfl⟩
            by_cases e : j = k
            · subst e; rw [HX.out, HY.out, HXY.out]
            · exact HE.out j (by omega)
        · have he : (x != y) = true := by simpa using hxy
          have HXY := Lib.hid hxy
          clear hxy
          go_wp2_with fail
          go_quiet (fail)
          go_wp2_with fail
          go_ret
          refine ⟨retB ?_, _, World.drewN_drewN _ _ _⟩
          symm
          rw [decide_eq_false_iff_not]
          intro hll
          subst hll
          rw [HX.out] at HY
          exact HXY.out (by have := HY.out; injection this)
      · obtain rfl : k = n := by omega
        have hll : l = l2 := by
          apply List.ext_getElem?
          intro j
          by_cases hj : j < k
          · exact HE.out j hj
          · rw [List.getElem?_eq_none (by rw [hlen.out]; omega), List.getElem?_eq_none (by rw [hlen2.out]; omega)]
        have HLL := Lib.hid hll
        clear hll
        go_wp2_with fail
        go_ret
        exact ⟨retB (by rw [decide_eq_true HLL.out]), _, rfl⟩
  · have hnm' : ((n : Int) != (m : Int)) = true := by simp; omega
    have hll : ¬ l = l2 := fun e => hnm (by rw [← hlen.out, ← hlen2.out, e])
    have HLL := Lib.hid hll
    clear hll hnm
    go_enter Try.func20, Try.ntmps20
    go_wp2_with fail
    go_ret
    exact ⟨retB (by rw [decide_eq_false HLL.out]), 0, rfl⟩
end Go.Proofs.Ytpodgidamoiakaa
