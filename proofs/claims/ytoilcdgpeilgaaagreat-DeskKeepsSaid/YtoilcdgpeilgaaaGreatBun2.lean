/-
  Words, laws and contracts: Raw, SameI.
-/
import Derived.Test.YtoilcdgpeilgaaaGreatBun1
import Derived.BigQuiet
set_option linter.unusedSimpArgs false
set_option linter.unusedVariables false
namespace Go.Proofs.YtoilcdgpeilgaaaGreat
open Go.RowKit Go.Shelf
structure Pts {α : Type} (c : Cod α) (w : World) (L : List (List Value)) (l : List α) : Prop where
  len : L.length = l.length
  el : ∀ (i : Nat) (cs : List Value) (x : α), L[i]? = some cs → l[i]? = some x → c w All x cs
section
variable {α : Type} {c : Cod α} {size : Nat} {w w' : World} {A : Option Addr} {n cap : Nat} {l l2 : List α} {L L2 : List (List Value)}
theorem Pts.bel [k : CodK c size] (h : Pts c w L l) (hb : Below w.heap.size w w') : Pts c w' L l :=
  ⟨h.len, fun i cs x h1 h2 => k.good.keep (h.el i cs x h1 h2) fun b _ hlt => ⟨hb.block b hlt, trivial⟩⟩
theorem Pts.nil (c : Cod α) (w : World) : Pts c w [] [] := ⟨rfl, fun i cs x h => by simp at h⟩
theorem Pts.one {cs : List Value} {x : α} (h : c w All x cs) : Pts c w [cs] [x] := ⟨rfl, fun i a y h1 h2 => by
  rcases i with _ | i
  · simp at h1 h2; subst h1 h2; exact h
  · simp at h1⟩
theorem Pts.take (h : Pts c w L l) (k : Nat) : Pts c w (L.take k) (l.take k) :=
  ⟨by rw [List.length_take, List.length_take, h.len], fun i cs x h1 h2 => by
    rw [List.getElem?_take] at h1 h2
    by_cases hi : i < k
    · rw [if_pos hi] at h1 h2; exact h.el i cs x h1 h2
    · rw [if_neg hi] at h1; cases h1⟩
theorem Pts.drop (h : Pts c w L l) (k : Nat) : Pts c w (L.drop k) (l.drop k) :=
  ⟨by rw [List.length_drop, List.length_drop, h.len], fun i cs x h1 h2 => by
    rw [List.getElem?_drop] at h1 h2
    exact h.el _ cs x h1 h2⟩
theorem Pts.append (h : Pts c w L l) (h2 : Pts c w L2 l2) : Pts c w (L ++ L2) (l ++ l2) :=
  ⟨by rw [List.length_append, List.length_append, h.len, h2.len], fun i cs x h3 h4 => by
    by_cases hi : i < L.length
    · rw [List.getElem?_append_left hi] at h3
      rw [List.getElem?_append_left (by rw [← h.len]; exact hi)] at h4
      exact h.el i cs x h3 h4
    · rw [List.getElem?_append_right (by omega)] at h3
      rw [List.getElem?_append_right (by rw [← h.len]; omega), ← h.len] at h4
      exact h2.el _ cs x h3 h4⟩
theorem Pts.set (h : Pts c w L l) (k : Nat) {cs : List Value} {x : α} (hx : c w All x cs) : Pts c w (L.set k cs) (l.set k x) :=
  ⟨by rw [List.length_set, List.length_set, h.len], fun i a y h3 h4 => by
    rw [List.getElem?_set] at h3 h4
    by_cases hi : k = i
    · rw [if_pos hi] at h3 h4
      subst hi
      by_cases hl : k < L.length
      · rw [if_pos hl] at h3
        rw [if_pos (by rw [← h.len]; exact hl)] at h4
        injection h3 with h3
        injection h4 with h4
        subst h3 h4
        exact hx
      · rw [if_neg hl] at h3; cases h3
    · rw [if_neg hi] at h3 h4
      exact h.el i a y h3 h4⟩
theorem Sl.fst {S : Nat → Prop} (h : Sl c size w S A n cap l) {k : Nat} (hk : k ≤ n) : Sl c size w S A k cap (l.take k) :=
  ⟨by rw [List.length_take, h.len]; omega, Nat.le_trans hk h.le, h.max, fun i x hx => by
    rw [List.getElem?_take] at hx
    by_cases hi : i < k
    · rw [if_pos hi] at hx; exact h.rd i x hx
    · rw [if_neg hi] at hx; cases hx⟩
end
end Go.Proofs.YtoilcdgpeilgaaaGreat
namespace Go.Proofs.YtoilcdgpeilgaaaGreat
open Go.RowKit Go.Shelf
set_option maxHeartbeats 1000000 in
theorem SameInts_any (A B : Option Addr) (n cap m cap2 : Nat) (l l2 : List Int) (w : World) (h : Sl intC 1 w All A n cap l) (h2 : Sl intC 1 w All B m cap2 l2) :
    Calls Tryz.prog 49 #[.slice A n cap, .slice B m cap2] w fun e w' => e = .returned (.bool (decide (l = l2))) ∧ ∃ q, w' = w.drewN q := by
  have hbd := h.bd
  have hlen := Lib.hid h.len
  have hlen2 := Lib.hid h2.len
  by_cases hnm : n = m
  · subst hnm
    go_enter Tryz.func49, Tryz.ntmps49
    go_wp2_with fail
    go_loopg [5] n (fun gk i wr => ∃ k q : Nat, k ≤ n ∧ n - k ≤ gk ∧ i = .int .i64 k ∧ Aside (∀ j, j < k → l[j]? = l2[j]?) ∧ wr = w.drewN q)
    case atStart => exact ⟨0, 0, Nat.zero_le _, by omega, rfl, fun j hj => absurd hj (by omega), rfl⟩
    case round =>
      obtain ⟨k, q, hk, hgk, rfl, HE, rfl⟩ := hrel
      by_cases hlt : k < n
      · obtain ⟨b, off, x, c0, rfl, hx, hc, g0⟩ := h.at1 hlt
        obtain ⟨hc, hw⟩ := hc
        simp only [List.cons.injEq, and_true] at hc
        obtain rfl := hc
        obtain ⟨b', off', y, d0, rfl, hy, hd, g0'⟩ := h2.at1 hlt
        obtain ⟨hd, hw'⟩ := hd
        simp only [List.cons.injEq, and_true] at hd
        obtain rfl := hd
        have HX := Lib.hid hx
        have HY := Lib.hid hy
        clear hx hy
        skip
        by_cases hxy : x = y
        · have he : (x != y) = false := by subst hxy; simp
          have HXY := Lib.hid hxy
          clear hxy
          go_wp2_with fail
          go_quiet (fail)
          go_wp2_with fail
          go_roundg (n - (k + 1))
          case measure => omega
          case rel =>
            refine ⟨k + 1, _, by omega, by omega, by go_num, (show Aside _ from fun j hj => ?_), rfl⟩
            by_cases e : j = k
            · subst e; rw [HX.out, HY.out, HXY.out]
            · exact HE.out j (by omega)
        · have he : (x != y) = true := by simpa using hxy
          have HXY := Lib.hid hxy
          clear hxy
          go_wp2_with fail
          go_quiet (fail)
          go_wp2_with fail
          go_ret
          refine ⟨retB ?_, _, World.drewN_drewN _ _ _⟩
          symm
          rw [decide_eq_false_iff_not]
          intro hll
          subst hll
          rw [HX.out] at HY
          exact HXY.out (by have := HY.out; injection this)
      · obtain rfl : k = n := by omega
        have hll : l = l2 := by
          apply List.ext_getElem?
          intro j
          by_cases hj : j < k
          · exact HE.out j hj
          · rw [List.getElem?_eq_none (by rw [hlen.out]; omega), List.getElem?_eq_none (by rw [hlen2.out]; omega)]
        have HLL := Lib.hid hll
        clear hll
        go_wp2_with fail
        go_ret
        exact ⟨retB (by rw [decide_eq_true HLL.out]), _, rfl⟩
  · have hnm' : ((n : Int) != (m : Int)) = true := by simp; omega
    have hll : ¬ l = l2 := fun e => hnm (by rw [← hlen.out, ← hlen2.out, e])
    have HLL := Lib.hid hll
    clear hll hnm
    go_enter Tryz.func49, Tryz.ntmps49
    go_wp2_with fail
    go_ret
    exact ⟨retB (by rw [decide_eq_false HLL.out]), 0, rfl⟩
end Go.Proofs.YtoilcdgpeilgaaaGreat
