/-
  Folios: the references SumOf, CheckFolio, SameFolio.
-/
import Derived.Test.YtehebngkjfjkbaaFolioF
namespace Go.Proofs.Ytehebngkjfjkbaa
open Go.RowKit Go.Shelf

/-- Entries of a kind (0: all). -/
def kindB (k : Int) (x : Int) : Bool := k == 0 || x == k
def sumOfK (l : List Entry) (k : Int) : Int := sumBy (kindB k) l
theorem sumOfK_zero (l : List Entry) : sumOfK l 0 = dueOf l := by unfold sumOfK dueOf; congr 1

theorem Sl.takeTo {α : Type} {c : Cod α} {size : Nat} {w : World} {S : Nat → Prop} {A : Option Addr} {n cap : Nat} {l : List α} (h : Sl c size w S A n cap l) {i : Nat} (hi : i ≤ n) : Sl c size w S A i cap (l.take i) := by
  have := h.len
  have := h.le
  refine ⟨by rw [List.length_take]; omega, by omega, h.max, fun j x hx => ?_⟩
  have hj : j < i := by
    rcases Nat.lt_or_ge j i with h1 | h1
    · exact h1
    · rw [List.getElem?_eq_none (by rw [List.length_take]; omega)] at hx; cases hx
  rw [List.getElem?_take, if_pos hj] at hx
  exact h.rd j x hx

set_option maxHeartbeats 1000000 in
theorem SumOf_any (A : Option Addr) (n cap : Nat) (l : List Entry) (q : Int) (w : World) (h : Sl entryC 3 w All A n cap l) (hs : Small l) :
    Calls Try.prog 17 #[.slice A n cap, .int .i64 q] w fun e w' => e = .returned (.int .i64 (sumOfK l q)) ∧ w = w' := by
  have hbd := h.bd
  go_enter Try.func17, Try.ntmps17
  go_wp2_with fail
  go_loopg [5, 6] n (fun gk s i wr => ∃ k : Nat, k ≤ n ∧ n - k ≤ gk ∧ i = .int .i64 k ∧ s = .int .i64 (sumOfK (l.take k) q) ∧ wr = w)
  case atStart => exact ⟨0, Nat.zero_le _, by omega, rfl, rfl, rfl⟩
  case round =>
    obtain ⟨k, hk, hgk, rfl, rfl, rfl⟩ := hrel
    by_cases hlt : k < n
    · obtain ⟨b, off, x, c0, c1, c2, rfl, hx, ⟨hc, b0, b1, b2⟩, g0, g1, g2⟩ := h.at3 hlt
      simp only [List.cons.injEq, and_true] at hc
      obtain ⟨rfl, rfl, rfl⟩ := hc
      have s1 : -10000000000000 ≤ sumOfK (l.take k) q ∧ sumOfK (l.take k) q ≤ 10000000000000 := hs.take k (kindB q)
      have HS : Hid (sumOfK (l.take (k + 1)) q = sumOfK (l.take k) q + if kindB q x.kind then x.amount else 0) := by
        have := sumBy_snoc (kindB q) (l.take k) x
        rw [← take_snoc hx] at this
        exact this
      have s3 := hs.2 x (List.mem_of_getElem? hx)
      clear hx
      by_cases hq : q = 0
      · subst hq
        go_wp2_with fail
        go_roundg (n - (k + 1))
        case measure => omega
        case rel => exact ⟨k + 1, by omega, by omega, by go_num, by rw [HS.out]; rfl, rfl⟩
      · have hq' : (q == 0) = false := by simpa using hq
        by_cases hkd : x.kind = q
        · have hkd' : (x.kind == q) = true := by simpa using hkd
          have HB : Hid (kindB q x.kind = true) := by show kindB q x.kind = true; unfold kindB; rw [hq', hkd']; rfl
          clear hkd
          go_wp2_with fail
          go_roundg (n - (k + 1))
          case measure => omega
          case rel => exact ⟨k + 1, by omega, by omega, by go_num, by rw [HS.out, HB.out]; rfl, rfl⟩
        · have hkd' : (x.kind == q) = false := by simpa using hkd
          have HB : Hid (kindB q x.kind = false) := by show kindB q x.kind = false; unfold kindB; rw [hq', hkd']; rfl
          clear hkd
          go_wp2_with fail
          go_roundg (n - (k + 1))
          case measure => omega
          case rel => exact ⟨k + 1, by omega, by omega, by go_num, by rw [HS.out, HB.out]; simp, rfl⟩
    · obtain rfl : k = n := by omega
      have HT := Lib.hid (List.take_of_length_le (Nat.le_of_eq h.len))
      go_wp2_with fail
      go_ret
      exact ⟨retI (by rw [HT.out]), rfl⟩

theorem entry_under : Try.prog.underlying 24 = some (.struct (Try.prog.fieldsOf 24)) := by kernel_rfl
theorem entry_stood : Try.prog.stoodInHeld 24 = false := by kernel_rfl
theorem entry_guard : Try.prog.eqGuardType Try.prog.depth 24 = false := by kernel_rfl
theorem neq_entry (a b c d e f : Int) (w : World) : (binOp .neq 24 (.agg #[.int .i64 a, .int .i64 b, .int .i64 c]) (.agg #[.int .i64 d, .int .i64 e, .int .i64 f])).run Try.prog w = .ok (.bool (!(a == d && b == e && c == f))) w := by
  have u3 := Try.underlying3
  have a3 := Try.isAgg3
  have z3 := Try.sizeOf3
  rw [run_neq_struct, run_equalIn_agg (P := Try.prog) w 9999 24 _ _ entry_under entry_stood]
  simp only [Program.fieldsOf, Try.underlying24]
  go_simp
  by_cases h1 : a = d <;> by_cases h2 : b = e <;> by_cases h3 : c = f <;> simp [h1, h2, h3]

theorem entry_ne {x y : Entry} (h : ¬ x = y) : (!(x.day == y.day && x.kind == y.kind && x.amount == y.amount)) = true := by
  rcases x with ⟨a, b, c⟩
  rcases y with ⟨d, e, f⟩
  simp at h ⊢
  omega

set_option maxHeartbeats 1000000 in
theorem SameFolio_any (A B : Option Addr) (n cap m cap2 : Nat) (l l2 : List Entry) (w : World) (h : Sl entryC 3 w All A n cap l) (h2 : Sl entryC 3 w All B m cap2 l2) :
    Calls Try.prog 22 #[.slice A n cap, .slice B m cap2] w fun e w' => e = .returned (.bool (decide (l = l2))) ∧ ∃ q, w' = w.drewN q := by
  have hbd := h.bd
  have hlen := Lib.hid h.len
  have hlen2 := Lib.hid h2.len
  by_cases hnm : n = m
  · subst hnm
    go_enter Try.func22, Try.ntmps22
    go_wp2_with fail
    go_loopg [5] n (fun gk i wr => ∃ k q : Nat, k ≤ n ∧ n - k ≤ gk ∧ i = .int .i64 k ∧ Aside (∀ j, j < k → l[j]? = l2[j]?) ∧ wr = w.drewN q)
    case atStart => exact ⟨0, 0, Nat.zero_le _, by omega, rfl, fun j hj => absurd hj (by omega), rfl⟩
    case round =>
      obtain ⟨k, q, hk, hgk, rfl, HE, rfl⟩ := hrel
      by_cases hlt : k < n
      · obtain ⟨b, off, x, c0, c1, c2, rfl, hx, ⟨hc, b0, b1, b2⟩, g0, g1, g2⟩ := h.at3 hlt
        simp only [List.cons.injEq, and_true] at hc
        obtain ⟨rfl, rfl, rfl⟩ := hc
        obtain ⟨b', off', y, d0, d1, d2, rfl, hy, ⟨hd, b0', b1', b2'⟩, g0', g1', g2'⟩ := h2.at3 hlt
        simp only [List.cons.injEq, and_true] at hd
        obtain ⟨rfl, rfl, rfl⟩ := hd
        have HX := Lib.hid hx
        have HY := Lib.hid hy
        clear hx hy
        have q1 := entry_guard
        have q2 := neq_entry
        by_cases hxy : x = y
        · have he : (!(x.day == y.day && x.kind == y.kind && x.amount == y.amount)) = false := by subst hxy; simp
          have HXY := Lib.hid hxy
          clear hxy
          go_wp2_with fail
          go_quiet (fail)
          go_wp2_with fail
          go_roundg (n - (k + 1))
          case measure => omega
          case rel =>
            refine ⟨k + 1, _, by omega, by omega, by go_num, (show Aside _ from fun j hj => ?_), rfl⟩
            by_cases e : j = k
            · subst e; rw [HX.out, HY.out, HXY.out]
            · exact HE.out j (by omega)
        · have he : (!(x.day == y.day && x.kind == y.kind && x.amount == y.amount)) = true := by
            exact entry_ne hxy
          have HXY := Lib.hid hxy
          clear hxy
          go_wp2_with fail
          go_quiet (fail)
          go_wp2_with fail
          go_ret
          refine ⟨retB ?_, _, World.drewN_drewN _ _ _⟩
          symm
          rw [decide_eq_false_iff_not]
          intro hll
          subst hll
          rw [HX.out] at HY
          exact HXY.out (by have := HY.out; injection this)
      · obtain rfl : k = n := by omega
        have hll : l = l2 := by
          apply List.ext_getElem?
          intro j
          by_cases hj : j < k
          · exact HE.out j hj
          · rw [List.getElem?_eq_none (by rw [hlen.out]; omega), List.getElem?_eq_none (by rw [hlen2.out]; omega)]
        have HLL := Lib.hid hll
        clear hll
        go_wp2_with fail
        go_ret
        exact ⟨retB (by rw [decide_eq_true HLL.out]), _, rfl⟩
  · have hnm' : ((n : Int) != (m : Int)) = true := by simp; omega
    have hll : ¬ l = l2 := fun e => hnm (by rw [← hlen.out, ← hlen2.out, e])
    have HLL := Lib.hid hll
    clear hll hnm
    go_enter Try.func22, Try.ntmps22
    go_wp2_with fail
    go_ret
    exact ⟨retB (by rw [decide_eq_false HLL.out]), 0, rfl⟩

end Go.Proofs.Ytehebngkjfjkbaa
