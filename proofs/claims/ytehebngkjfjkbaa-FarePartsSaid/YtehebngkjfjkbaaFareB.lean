/-
  Fares: slices.Grow and slices.Concat at []int.
-/
import Derived.Test.YtehebngkjfjkbaaFareA
namespace Go.Proofs.Ytehebngkjfjkbaa
open Go.RowKit Go.Shelf

set_option maxHeartbeats 1000000 in
theorem Grow_nil (m : Nat) (w : World) (hm : m ≤ 1000000) :
    Calls Try.prog 104 #[.slice none 0 0, .int .i64 m] w fun e w' => ∃ v xs, e = .returned v ∧ Own intC 1 3 w' w.heap.size v [] xs ∧ Below w.heap.size w w' := by
  rcases Nat.eq_zero_or_pos m with rfl | hpos
  · go_enter Try.func104, Try.ntmps104
    go_wp2
    go_ret
    exact ⟨_, _, rfl, Own.nil _ _ _ _ _, Below.refl _ _⟩
  · obtain ⟨i, z, hi, hz, hs, hb, hzs⟩ := int_elem.hi
    have hold : (Builtin.firstCells i.size 0 (.slice none 0 0)).run Try.prog w.drew = .ok ([] : List Value).toArray w.drew := run_firstCells_none w.drew i.size 0 0 0
    have hrun := fun ty => Lib.run_append_grow_zeros (P := Try.prog) w 38 3 ty 3 i z .i64 .i64 Try.underlying38 Try.underlying3 hi hz none 0 0 [] hold m hpos (by omega) (by omega) (by omega) (by rw [hb]; omega) (by rw [Nat.zero_add]; exact growslice_fits (by omega) (by rw [hb]; omega))
    have hG1 := grownCap_ge w (0 + m) 0 3
    have hG2 := grownCap_le_maxLen w (0 + m) 0 3 (by unfold maxLen; omega)
    obtain ⟨G, hG⟩ : ∃ G, G = grownCap w (0 + m) 0 3 := ⟨_, rfl⟩
    rw [← hG] at hrun hG1 hG2
    obtain ⟨cur, hcur⟩ : ∃ cur, cur = ([] : List Value).toArray ++ Builtin.zeroCells z.cells m ++ Builtin.zeroCells z.cells (G - (0 + m)) := ⟨_, rfl⟩
    have hcs : cur.size = G := by
      rw [hcur, Array.size_append, Array.size_append, size_zeroCells, size_zeroCells, hzs]
      simp; omega
    rw [← hcur, Nat.zero_add] at hrun
    have HR := Lib.hid hrun
    have HG2 := Lib.hid hG2
    have hG3 : G ≤ 9223372036854775807 := by unfold maxLen at hG2; omega
    have hG4 : m ≤ G := by omega
    have HC := Lib.hid hcs
    clear hrun hG hcur hold hi hz hs hb hzs hcs hG1 hG2
    go_enter Try.func104, Try.ntmps104
    go_wp2_with (at_builtin; refine list_builtin_append (t := 38) (t2 := 3) rfl (.tmp 20) (.tmp 21) rfl rfl rfl (HR.out _) ?_)
    go_ret
    exact ⟨_, _, rfl, ⟨World.ownsRow_made w.drew cur G (by simp) HG2.out (by rw [HC.out]; omega), fun i x h => by simp at h⟩, (Below.refl w.heap.size w).drew.alloc (by simp) _⟩
theorem flat_succ {l : List (List Int)} {k : Nat} {x : List Int} (hx : l[k]? = some x) : (l.take (k + 1)).flatten = (l.take k).flatten ++ x := by rw [take_snoc hx]; simp
theorem flat_le (l : List (List Int)) (k : Nat) : (l.take k).flatten.length ≤ l.flatten.length := by
  have : l.flatten = (l.take k).flatten ++ (l.drop k).flatten := by rw [← List.flatten_append, List.take_append_drop]
  rw [this, List.length_append]; omega

set_option maxHeartbeats 2000000 in
theorem Concat_ints (A : Option Addr) (n cap : Nat) (l : List (List Int)) (w : World) (h : Sl (slC intC 1) 1 w All A n cap l) (hm : l.flatten.length ≤ 1000000) :
    Calls Try.prog 100 #[.slice A n cap] w fun e w' => ∃ v xs, e = .returned v ∧ Own intC 1 3 w' w.heap.size v l.flatten xs ∧ Below w.heap.size w w' := by
  have hbd := h.bd
  have hg := slC_good intC_good (show 0 < 1 by omega)
  go_enter Try.func100, Try.ntmps100
  go_wp2_with fail
  go_loopg [3, 11] n (fun gk s i wr => ∃ k : Nat, k ≤ n ∧ n - k ≤ gk ∧ i = .int .i64 k ∧ (∃ q : Nat, s = .int .i64 q ∧ Aside (q = (l.take k).flatten.length)) ∧ wr = w)
  case atStart => exact ⟨0, Nat.zero_le _, by omega, rfl, ⟨0, rfl, rfl⟩, rfl⟩
  case round =>
    obtain ⟨k, hk, hgk, rfl, ⟨s, rfl, HS⟩, rfl⟩ := hrel
    have hsb : s ≤ 1000000 := by have h1 : s = (l.take k).flatten.length := HS; have := flat_le l k; omega
    by_cases hlt : k < n
    · obtain ⟨b, off, x, c0, rfl, hx, hc, g0⟩ := h.at1 hlt
      obtain ⟨B, q, c2, hc, hw⟩ := hc
      simp only [List.cons.injEq, and_true] at hc
      subst hc
      have hq := hw.len
      have hsb2 : s + q ≤ 1000000 := by have h1 : s = (l.take k).flatten.length := HS; have := flat_le l (k + 1); rw [flat_succ hx, List.length_append] at this; omega
      have HN := Lib.hid (show s + q = (l.take (k + 1)).flatten.length by rw [flat_succ hx, List.length_append, hq]; have h1 : s = (l.take k).flatten.length := HS; omega)
      clear hx hq
      go_wp2_with fail
      go_roundg (n - (k + 1))
      case measure => omega
      case rel => exact ⟨k + 1, by omega, by omega, by go_num, ⟨s + q, by go_num, HN.out⟩, rfl⟩
    · have : k = n := by omega
      subst this
      have HT := Lib.hid (List.take_of_length_le (Nat.le_of_eq h.len))
      go_wp2_with fail
      refine (Grow_nil s wr hsb).mono ?_
      rintro e w1 ⟨v1, xs1, rfl, ho1, hb1⟩
      obtain ⟨A1, n1, c1, rfl, hs1⟩ := ho1.sl intC_good
      clear hs1
      go_wp2_with fail
      go_loopg [6, 27] k (fun gk out i wz => ∃ j : Nat, j ≤ k ∧ k - j ≤ gk ∧ i = .int .i64 j ∧ (∃ xs, Own intC 1 3 wz wr.heap.size out (l.take j).flatten xs) ∧ Below wr.heap.size wr wz)
      case atStart => exact ⟨0, Nat.zero_le _, by omega, rfl, ⟨_, ho1⟩, hb1⟩
      case round =>
        obtain ⟨j, hj, hgj, rfl, ⟨xs2, ho2⟩, hb2⟩ := hrel
        obtain ⟨A2, n2, c2', rfl, hs2⟩ := ho2.sl intC_good
        clear hs2
        by_cases hjt : j < k
        · obtain ⟨b, off, x, c0, rfl, hx, hc, g0⟩ := (h.below hg (by omega) hb2).at1 hjt
          obtain ⟨B, q, c2, hc, hw⟩ := hc
          simp only [List.cons.injEq, and_true] at hc
          subst hc
          have hq := hw.len
          have hz : (((l.take j).flatten).length + q) * 8 ≤ 140737488355328 := by have := flat_le l (j + 1); rw [flat_succ hx, List.length_append] at this; omega
          have HF := Lib.hid (flat_succ hx)
          have hbs := hb2.size
          clear hx hq
          go_wp2_with (at_builtin; refine list_app (t := 38) (e := 3) (bytes := 8) rfl (.tmp 31) (.tmp 32) rfl int_elem intC_good rfl ho2 rfl hw (fun _ _ hc => hc) hz (by omega) hbs ?_; intro v' w' xs' hown' hg' _)
          go_roundg (k - (j + 1))
          case measure => omega
          case rel => exact ⟨j + 1, by omega, by omega, by go_num, ⟨_, by rw [HF.out]; exact hown'⟩, below_app hb2 ho2 hg' hbs⟩
        · have : j = k := by omega
          subst this
          go_wp2_with fail
          go_ret
          exact ⟨_, _, rfl, by rw [HT.out] at ho2; exact ho2, hb2⟩
end Go.Proofs.Ytehebngkjfjkbaa
