/-
  Words, laws and contracts: FolioG, FolioH, FolioI, FolioJ.
-/
import Derived.Test.YtoilcdgpeilgaaaGreatBun7
import Derived.Deep.DeepCutAuto
set_option linter.unusedSimpArgs false
set_option linter.unusedVariables false
namespace Go.Proofs.YtoilcdgpeilgaaaGreat
open Go.RowKit Go.Shelf
def kindB (k : Int) (x : Int) : Bool := k == 0 || x == k
def sumOfK (l : List Entry) (k : Int) : Int := sumBy (kindB k) l
theorem sumOfK_zero (l : List Entry) : sumOfK l 0 = dueOf l := by unfold sumOfK dueOf; congr 1
theorem Sl.takeTo {α : Type} {c : Cod α} {size : Nat} {w : World} {S : Nat → Prop} {A : Option Addr} {n cap : Nat} {l : List α} (h : Sl c size w S A n cap l) {i : Nat} (hi : i ≤ n) : Sl c size w S A i cap (l.take i) := by
  have := h.len
  have := h.le
  refine ⟨by rw [List.length_take]; omega, by omega, h.max, fun j x hx => ?_⟩
  have hj : j < i := by
    rcases Nat.lt_or_ge j i with h1 | h1
    · exact h1
    · rw [List.getElem?_eq_none (by rw [List.length_take]; omega)] at hx; cases hx
  rw [List.getElem?_take, if_pos hj] at hx
  exact h.rd j x hx
set_option maxHeartbeats 1000000 in
theorem SumOf_any (A : Option Addr) (n cap : Nat) (l : List Entry) (q : Int) (w : World) (h : Sl entryC 3 w All A n cap l) (hs : Small l) :
    Calls Tryz.prog 112 #[.slice A n cap, .int .i64 q] w fun e w' => e = .returned (.int .i64 (sumOfK l q)) ∧ w = w' := by
  have hbd := h.bd
  go_enter Tryz.func112, Tryz.ntmps112
  go_wp2_with fail
  go_loopg [5, 6] n (fun gk s i wr => ∃ k : Nat, k ≤ n ∧ n - k ≤ gk ∧ i = .int .i64 k ∧ s = .int .i64 (sumOfK (l.take k) q) ∧ wr = w)
  case atStart => exact ⟨0, Nat.zero_le _, by omega, rfl, rfl, rfl⟩
  case round =>
    obtain ⟨k, hk, hgk, rfl, rfl, rfl⟩ := hrel
    by_cases hlt : k < n
    · obtain ⟨b, off, x, c0, c1, c2, rfl, hx, ⟨hc, b0, b1, b2⟩, g0, g1, g2⟩ := h.at3 hlt
      simp only [List.cons.injEq, and_true] at hc
      obtain ⟨rfl, rfl, rfl⟩ := hc
      have s1 : -10000000000000 ≤ sumOfK (l.take k) q ∧ sumOfK (l.take k) q ≤ 10000000000000 := hs.take k (kindB q)
      have HS : Hid (sumOfK (l.take (k + 1)) q = sumOfK (l.take k) q + if kindB q x.kind then x.amount else 0) := by
        have := sumBy_snoc (kindB q) (l.take k) x
        rw [← take_snoc hx] at this
        exact this
      have s3 := hs.2 x (List.mem_of_getElem? hx)
      clear hx
      by_cases hq : q = 0
      · subst hq
        go_wp2_with fail
        go_roundg (n - (k + 1))
        case measure => omega
        case rel => exact ⟨k + 1, by omega, by omega, by go_num, by rw [HS.out]; rfl, rfl⟩
      · have hq' : (q == 0) = false := by simpa using hq
        by_cases hkd : x.kind = q
        · have hkd' : (x.kind == q) = true := by simpa using hkd
          have HB : Hid (kindB q x.kind = true) := by show kindB q x.kind = true; unfold kindB; rw [hq', hkd']; rfl
          clear hkd
          go_wp2_with fail
          go_roundg (n - (k + 1))
          case measure => omega
          case rel => exact ⟨k + 1, by omega, by omega, by go_num, by rw [HS.out, HB.out]; rfl, rfl⟩
        · have hkd' : (x.kind == q) = false := by simpa using hkd
          have HB : Hid (kindB q x.kind = false) := by show kindB q x.kind = false; unfold kindB; rw [hq', hkd']; rfl
          clear hkd
          go_wp2_with fail
          go_roundg (n - (k + 1))
          case measure => omega
          case rel => exact ⟨k + 1, by omega, by omega, by go_num, by rw [HS.out, HB.out]; simp, rfl⟩
    · obtain rfl : k = n := by omega
      have HT := Lib.hid (List.take_of_length_le (Nat.le_of_eq h.len))
      go_wp2_with fail
      go_ret
      exact ⟨retI (by rw [HT.out]), rfl⟩
theorem entry_under : Tryz.prog.underlying 57 = some (.struct (Tryz.prog.fieldsOf 57)) := by kernel_rfl
theorem entry_stood : Tryz.prog.stoodInHeld 57 = false := by kernel_rfl
theorem entry_guard : Tryz.prog.eqGuardType Tryz.prog.depth 57 = false := by kernel_rfl
theorem neq_entry (a b c d e f : Int) (w : World) : (binOp .neq 57 (.agg #[.int .i64 a, .int .i64 b, .int .i64 c]) (.agg #[.int .i64 d, .int .i64 e, .int .i64 f])).run Tryz.prog w = .ok (.bool (!(a == d && b == e && c == f))) w := by
  have u3 := Tryz.underlying3
  have a3 := Tryz.isAgg3
  have z3 := Tryz.sizeOf3
  rw [run_neq_struct, run_equalIn_agg (P := Tryz.prog) w 9999 57 _ _ entry_under entry_stood]
  simp only [Program.fieldsOf, Tryz.underlying57]
  go_simp
  by_cases h1 : a = d <;> by_cases h2 : b = e <;> by_cases h3 : c = f <;> simp [h1, h2, h3]
theorem entry_ne {x y : Entry} (h : ¬ x = y) : (!(x.day == y.day && x.kind == y.kind && x.amount == y.amount)) = true := by
  rcases x with ⟨a, b, c⟩
  rcases y with ⟨d, e, f⟩
  simp at h ⊢
  omega
set_option maxHeartbeats 1000000 in
theorem SameFolio_any (A B : Option Addr) (n cap m cap2 : Nat) (l l2 : List Entry) (w : World) (h : Sl entryC 3 w All A n cap l) (h2 : Sl entryC 3 w All B m cap2 l2) :
    Calls Tryz.prog 72 #[.slice A n cap, .slice B m cap2] w fun e w' => e = .returned (.bool (decide (l = l2))) ∧ ∃ q, w' = w.drewN q := by
  have hbd := h.bd
  have hlen := Lib.hid h.len
  have hlen2 := Lib.hid h2.len
  by_cases hnm : n = m
  · subst hnm
    go_enter Tryz.func72, Tryz.ntmps72
    go_wp2_with fail
    go_loopg [5] n (fun gk i wr => ∃ k q : Nat, k ≤ n ∧ n - k ≤ gk ∧ i = .int .i64 k ∧ Aside (∀ j, j < k → l[j]? = l2[j]?) ∧ wr = w.drewN q)
    case atStart => exact ⟨0, 0, Nat.zero_le _, by omega, rfl, fun j hj => absurd hj (by omega), rfl⟩
    case round =>
      obtain ⟨k, q, hk, hgk, rfl, HE, rfl⟩ := hrel
      by_cases hlt : k < n
      · obtain ⟨b, off, x, c0, c1, c2, rfl, hx, ⟨hc, b0, b1, b2⟩, g0, g1, g2⟩ := h.at3 hlt
        simp only [List.cons.injEq, and_true] at hc
        obtain ⟨rfl, rfl, rfl⟩ := hc
        obtain ⟨b', off', y, d0, d1, d2, rfl, hy, ⟨hd, b0', b1', b2'⟩, g0', g1', g2'⟩ := h2.at3 hlt
        simp only [List.cons.injEq, and_true] at hd
        obtain ⟨rfl, rfl, rfl⟩ := hd
        have HX := Lib.hid hx
        have HY := Lib.hid hy
        clear hx hy
        have q1 := entry_guard
        have q2 := neq_entry
        by_cases hxy : x = y
        · have he : (!(x.day == y.day && x.kind == y.kind && x.amount == y.amount)) = false := by subst hxy; simp
          have HXY := Lib.hid hxy
          clear hxy
          go_wp2_with fail
          go_quiet (fail)
          go_wp2_with fail
          go_roundg (n - (k + 1))
          case measure => omega
          case rel =>
            refine ⟨k + 1, _, by omega, by omega, by go_num, (show Aside _ from fun j hj => ?_), rfl⟩
            by_cases e : j = k
            · subst e; rw [HX.out, HY.out, HXY.out]
            · exact HE.out j (by omega)
        · have he : (!(x.day == y.day && x.kind == y.kind && x.amount == y.amount)) = true := by
            exact entry_ne hxy
          have HXY := Lib.hid hxy
          clear hxy
          go_wp2_with fail
          go_quiet (fail)
          go_wp2_with fail
          go_ret
          refine ⟨retB ?_, _, World.drewN_drewN _ _ _⟩
          symm
          rw [decide_eq_false_iff_not]
          intro hll
          subst hll
          rw [HX.out] at HY
          exact HXY.out (by have := HY.out; injection this)
      · obtain rfl : k = n := by omega
        have hll : l = l2 := by
          apply List.ext_getElem?
          intro j
          by_cases hj : j < k
          · exact HE.out j hj
          · rw [List.getElem?_eq_none (by rw [hlen.out]; omega), List.getElem?_eq_none (by rw [hlen2.out]; omega)]
        have HLL := Lib.hid hll
        clear hll
        go_wp2_with fail
        go_ret
        exact ⟨retB (by rw [decide_eq_true HLL.out]), _, rfl⟩
  · have hnm' : ((n : Int) != (m : Int)) = true := by simp; omega
    have hll : ¬ l = l2 := fun e => hnm (by rw [← hlen.out, ← hlen2.out, e])
    have HLL := Lib.hid hll
    clear hll hnm
    go_enter Tryz.func72, Tryz.ntmps72
    go_wp2_with fail
    go_ret
    exact ⟨retB (by rw [decide_eq_false HLL.out]), 0, rfl⟩
end Go.Proofs.YtoilcdgpeilgaaaGreat
namespace Go.Proofs.YtoilcdgpeilgaaaGreat
open Go.RowKit Go.Shelf
theorem entryE_7 {x : Entry} (h : x.kind < 1 ∨ 4 < x.kind) : entryE x = 7 := if_pos h
theorem entryE_3 {x : Entry} (h : ¬ (x.kind < 1 ∨ 4 < x.kind)) (h2 : x.day < 0 ∨ 9999 < x.day ∨ x.amount < -100000000 ∨ 100000000 < x.amount) : entryE x = 3 := by
  unfold entryE; rw [if_neg h, if_pos h2]
theorem entryE_4 {x : Entry} (h : ¬ (x.kind < 1 ∨ 4 < x.kind)) (h2 : ¬ (x.day < 0 ∨ 9999 < x.day ∨ x.amount < -100000000 ∨ 100000000 < x.amount))
    (h3 : x.amount < 0 ∧ (x.kind = 1 ∨ x.kind = 3) ∨ 0 < x.amount ∧ x.kind = 2) : entryE x = 4 := by
  unfold entryE; rw [if_neg h, if_neg h2, if_pos h3]
theorem entryE_0 {x : Entry} (h : ¬ (x.kind < 1 ∨ 4 < x.kind)) (h2 : ¬ (x.day < 0 ∨ 9999 < x.day ∨ x.amount < -100000000 ∨ 100000000 < x.amount))
    (h3 : ¬ (x.amount < 0 ∧ (x.kind = 1 ∨ x.kind = 3) ∨ 0 < x.amount ∧ x.kind = 2)) : entryE x = 0 := by
  unfold entryE; rw [if_neg h, if_neg h2, if_neg h3]
set_option maxRecDepth 100000 in
set_option maxHeartbeats 4000000 in
theorem CheckFolio_any (A : Option Addr) (n cap : Nat) (l : List Entry) (w : World) (h : Sl entryC 3 w All A n cap l) :
    Calls Tryz.prog 113 #[.slice A n cap] w fun e w' => e = .returned (.int .i64 (checkFolio l)) ∧ Below w.heap.size w w' := by
  have hbd := h.bd
  have hlen := Lib.hid h.len
  by_cases hn : 12 < n
  · have hn' : (12 : Int) < (n : Int) := by omega
    go_enter Tryz.func113, Tryz.ntmps113
    go_wp2_with fail
    go_ret
    exact ⟨retI (by unfold checkFolio; rw [hlen.out, if_pos hn]), Below.refl _ _⟩
  · have hn' : ¬ (12 : Int) < (n : Int) := by omega
    go_enter Tryz.func113, Tryz.ntmps113
    go_wp2_with fail
    go_loopg [3] n (fun gk i wr => ∃ k : Nat, k ≤ n ∧ n - k ≤ gk ∧ i = .int .i64 k ∧ Aside (firstErr (errAt l) k = 0) ∧ Below w.heap.size w wr)
    case atStart => exact ⟨0, Nat.zero_le _, by omega, rfl, rfl, Below.refl _ _⟩
    case round =>
      obtain ⟨k, hk, hgk, rfl, HE, hb⟩ := hrel
      by_cases hlt : k < n
      · obtain ⟨b, off, x, c0, c1, c2, rfl, hx, ⟨hc, b0, b1, b2⟩, g0, g1, g2⟩ := (h.below entryC_good (by omega) hb).at3 hlt
        simp only [List.cons.injEq, and_true] at hc
        obtain ⟨rfl, rfl, rfl⟩ := hc
        have HX := Lib.hid hx
        have hb1 := hb.alloc hb.size (.cells #[.int .i64 x.day, .int .i64 x.kind, .int .i64 x.amount] 57)
        have fin : ∀ r : Int, errAt l k = r → r ≠ 0 → r = checkFolio l := fun r h1 h2 => by
          unfold checkFolio
          rw [hlen.out, if_neg hn]
          have := firstErr_at (n := n) HE.out (by rw [h1]; exact h2) hlt
          rw [this, h1, if_pos h2]
        have Fin := Lib.hid fin
        have herr : (∀ y, l[k - 1]? = some y → 0 < k → entryE x = 0 → errAt l k = if x.day < y.day then 4 else 0) := fun y hy h0 hr => by
          unfold errAt
          rw [HX.out, Option.getD_some, hr, if_neg (by simp), hy, Option.getD_some]
          by_cases e : x.day < y.day
          · rw [if_pos ⟨h0, e⟩, if_pos e]
          · rw [if_neg (fun h => e h.2), if_neg e]
        have herr0 : k = 0 → entryE x = 0 → errAt l k = 0 := fun h0 hr => by
          unfold errAt
          rw [HX.out, Option.getD_some, hr, if_neg (by simp), if_neg (by omega)]
        have herr1 : entryE x ≠ 0 → errAt l k = entryE x := fun hr => by
          unfold errAt
          rw [HX.out, Option.getD_some, if_pos hr]
        have Herr := Lib.hid herr
        have Herr0 := Lib.hid herr0
        have Herr1 := Lib.hid herr1
        clear fin herr herr0 herr1 hx
        by_cases c1 : x.kind < 1 ∨ 4 < x.kind
        · have HZ := Lib.hid (entryE_7 c1)
          have t1 := betB_false c1
          clear c1
          go_wp2_with (go_at_call 107; refine (between_any _ _ _ _).mono ?_; rintro e w' ⟨rfl, rfl⟩)
          all_goals
            go_ret
            exact ⟨retI (Fin.out 7 ((Herr1.out (by rw [HZ.out]; omega)).trans HZ.out) (by omega)), hb1⟩
        · have t1 : betB x.kind 1 4 = true := betB_true (by omega) (by omega)
          by_cases c2 : x.day < 0 ∨ 9999 < x.day ∨ x.amount < -100000000 ∨ 100000000 < x.amount
          · have HZ := Lib.hid (entryE_3 c1 c2)
            by_cases c2d : x.day < 0 ∨ 9999 < x.day
            · have t2 := betB_false c2d
              clear c1 c2 c2d
              go_wp2_with (go_at_call 107; refine (between_any _ _ _ _).mono ?_; rintro e w' ⟨rfl, rfl⟩)
              all_goals
                go_ret
                exact ⟨retI (Fin.out 3 ((Herr1.out (by rw [HZ.out]; omega)).trans HZ.out) (by omega)), hb1⟩
            · have t2 : betB x.day 0 9999 = true := betB_true (by omega) (by omega)
              have t3 : betB x.amount (-100000000) 100000000 = false := betB_false (by omega)
              clear c1 c2 c2d
              go_wp2_with (go_at_call 107; refine (between_any _ _ _ _).mono ?_; rintro e w' ⟨rfl, rfl⟩)
              all_goals
                go_ret
                exact ⟨retI (Fin.out 3 ((Herr1.out (by rw [HZ.out]; omega)).trans HZ.out) (by omega)), hb1⟩
          · have t2 : betB x.day 0 9999 = true := betB_true (by omega) (by omega)
            have t3 : betB x.amount (-100000000) 100000000 = true := betB_true (by omega) (by omega)
            by_cases c3 : x.amount < 0 ∧ (x.kind = 1 ∨ x.kind = 3) ∨ 0 < x.amount ∧ x.kind = 2
            · have HZ := Lib.hid (entryE_4 c1 c2 c3)
              go_wp2_with (go_at_call 107; refine (between_any _ _ _ _).mono ?_; rintro e w' ⟨rfl, rfl⟩)
              all_goals
                go_ret
                exact ⟨retI (Fin.out 4 ((Herr1.out (by rw [HZ.out]; omega)).trans HZ.out) (by omega)), hb.alloc hb.size _⟩
            · have HZ := Lib.hid (entryE_0 c1 c2 c3)
              rcases k with _ | k
              · simp only [Nat.zero_mul, Nat.add_zero] at g0 g1 g2
                go_wp2_with (go_at_call 107; refine (between_any _ _ _ _).mono ?_; rintro e w' ⟨rfl, rfl⟩)
                all_goals
                  go_quiet (fail)
                  go_wp2_with fail
                  go_roundg (n - 1)
                  case measure => omega
                  case rel => exact ⟨1, by omega, by omega, rfl, (show Aside _ from (firstErr_succ HE.out).trans (Herr0.out (by trivial) HZ.out)), below_drewN (hb.alloc hb.size _) _⟩
              · obtain ⟨b2, off2, y, d0, d1, d2, hA2, hy, ⟨hc2, y0, y1, y2⟩, e0, e1, e2⟩ := (h.below entryC_good (by omega) hb).at3 (show k < n by omega)
                injection hA2 with hA2
                injection hA2 with hb2 ho2 _
                subst hb2 ho2
                simp only [List.cons.injEq, and_true] at hc2
                obtain ⟨rfl, rfl, rfl⟩ := hc2
                have Hy := Lib.hid hy
                have hblt : b < wr.heap.size := cell_lt e0
                clear hy e1 e2
                have hw : IntKind.i64.wrap (k : Int) = k := IntWalk.i64_in _ (by omega)
                have hgt : decide ((0 : Int) < (k : Int) + 1) = true := decide_eq_true (by omega)
                by_cases hd : x.day < y.day
                · go_wp2_with (go_at_call 107; refine (between_any _ _ _ _).mono ?_; rintro e w' ⟨rfl, rfl⟩)
                  all_goals
                    go_quiet (fail)
                    go_wp2_with fail
                    go_ret
                    exact ⟨retI (Fin.out 4 (by rw [Herr.out y (by simpa using Hy.out) (by omega) HZ.out, if_pos hd]) (by omega)), below_drewN (hb.alloc hb.size _) _⟩
                · go_wp2_with (go_at_call 107; refine (between_any _ _ _ _).mono ?_; rintro e w' ⟨rfl, rfl⟩)
                  all_goals
                    go_quiet (fail)
                    go_wp2_with fail
                    go_roundg (n - (k + 1 + 1))
                    case measure => omega
                    case rel => exact ⟨k + 1 + 1, by omega, by omega, by go_num, (show Aside _ from (firstErr_succ HE.out).trans (by rw [Herr.out y (by simpa using Hy.out) (by omega) HZ.out, if_neg (by omega)])), below_drewN (hb.alloc hb.size _) _⟩
      · obtain rfl : k = n := by omega
        have hsm := small_of_check (l := l) (by rw [hlen.out]; omega) (by rw [hlen.out]; exact HE.out)
        have hcap := h.le
        go_wp2_with fail
        go_loopg [5] k (fun gk i wr => ∃ j : Nat, j ≤ k ∧ k - j ≤ gk ∧ i = .int .i64 ((j : Int) + 1) ∧ Aside (firstErr (sumErr l) j = 0) ∧ Below w.heap.size w wr)
        case atStart => exact ⟨0, Nat.zero_le _, by omega, rfl, rfl, hb⟩
        case round =>
          obtain ⟨j, hj, hgj, rfl, HJ, hbj⟩ := hrel
          by_cases hlt2 : j < k
          · obtain ⟨b, off, x, c0, c1, c2, rfl, hx, ⟨hc, b0, b1, b2⟩, g0, g1, g2⟩ := h.at3 hlt2
            clear hc b0 b1 b2 g0 g1 g2 hx
            have hbound : j + 1 ≤ cap := by omega
            have htk := (h.below entryC_good (by omega) hbj).takeTo (i := j + 1) (by omega)
            have hsmt : Small (l.take (j + 1)) := ⟨by rw [List.length_take]; have := hsm.1; omega, fun y hy => hsm.2 y (List.mem_of_mem_take hy)⟩
            go_wp2_with fail
            refine (SumOf_any _ _ _ (l.take (j + 1)) 0 _ htk hsmt).mono ?_
            rintro e w1 ⟨rfl, rfl⟩
            have hbt := between_any (sumOfK (l.take (j + 1)) 0) (-100000000) 100000000 wr
            have hse : sumErr l j = if betB (sumOfK (l.take (j + 1)) 0) (-100000000) 100000000 then 0 else 3 := by unfold sumErr; rw [sumOfK_zero]; rfl
            generalize betB (sumOfK (l.take (j + 1)) 0) (-100000000) 100000000 = bb at *
            have HB := Lib.hid hbt
            have HSE := Lib.hid hse
            clear hbt hse
            cases bb
            · go_wp2_with (go_at_call 107; refine HB.out.mono ?_; rintro e w' ⟨rfl, rfl⟩)
              go_ret
              exact ⟨retI (by rw [checkFolio_sums (by rw [hlen.out]; exact hn) (by rw [hlen.out]; exact HE.out), hlen.out, firstErr_at HJ.out (by rw [HSE.out]; decide) hlt2, HSE.out]; rfl), hbj⟩
            · go_wp2_with (go_at_call 107; refine HB.out.mono ?_; rintro e w' ⟨rfl, rfl⟩)
              go_roundg (k - (j + 1))
              case measure => omega
              case rel => exact ⟨j + 1, by omega, by omega, by go_num, (show Aside _ from (firstErr_succ HJ.out).trans HSE.out), hbj⟩
          · obtain rfl : j = k := by omega
            have hge : ¬ ((j : Int) + 1 ≤ (j : Int)) := by omega
            go_wp2_with fail
            go_ret
            exact ⟨retI (by rw [checkFolio_sums (by rw [hlen.out]; exact hn) (by rw [hlen.out]; exact HE.out), hlen.out, HJ.out]), hbj⟩
end Go.Proofs.YtoilcdgpeilgaaaGreat
namespace Go.Proofs.YtoilcdgpeilgaaaGreat
open Go.RowKit Go.Shelf
def OwnE (w wx : World) (v : Value) (l : List Entry) : Prop := ∃ A n cap xs, v = .slice A n cap ∧ Own entryC 3 57 wx w.heap.size v l xs ∧ Below w.heap.size w wx
theorem OwnE.sl {w wx : World} {A : Option Addr} {n cap : Nat} {l : List Entry} (h : OwnE w wx (.slice A n cap) l) : Sl entryC 3 wx All A n cap l := by
  obtain ⟨A1, n1, c1, xs, _, hown, _⟩ := h
  obtain ⟨A2, n2, cap2, he, hsl⟩ := hown.sl entryC_good
  injection he with e1 e2 e3
  subst e1 e2 e3
  exact hsl.all entryC_good (by omega)
end Go.Proofs.YtoilcdgpeilgaaaGreat
namespace Go.Proofs.YtoilcdgpeilgaaaGreat
open Go.RowKit Go.Shelf
def sheetL : List Entry := [⟨1, 1, 1000⟩, ⟨3, 2, -400⟩]
theorem sheet_any (w : World) : Calls Tryz.prog 115 #[] w fun e w' => ∃ A cap, e = .returned (.slice A 2 cap) ∧ Sl entryC 3 w' All A 2 cap sheetL ∧ Below w.heap.size w w' := by
  go_enter Tryz.func115, Tryz.ntmps115
  go_wp2
  go_ret
  refine ⟨_, _, rfl, Sl.lit w All 57 [.int .i64 1, .int .i64 1, .int .i64 1000, .int .i64 3, .int .i64 2, .int .i64 (-400)] sheetL (by decide) trivial ?_, (Below.refl _ _).alloc (Nat.le_refl _) _⟩
  intro i x hx
  rcases i with _ | _ | i
  · simp [sheetL] at hx; subst hx
    exact ⟨_, ⟨rfl, .of (by decide) (by decide), .of (by decide) (by decide), .of (by decide) (by decide)⟩, rfl, fun j u hu => by rcases j with _ | _ | _ | j <;> simp_all⟩
  · simp [sheetL] at hx; subst hx
    exact ⟨_, ⟨rfl, .of (by decide) (by decide), .of (by decide) (by decide), .of (by decide) (by decide)⟩, rfl, fun j u hu => by rcases j with _ | _ | _ | j <;> simp_all⟩
  · simp [sheetL] at hx
set_option maxHeartbeats 4000000 in
theorem folioBegun_any (w : World) : Calls Tryz.prog 39 #[] w fun e w' => e = .returned (.bool true) ∧ Below w.heap.size w w' := by
  go_enter Tryz.func39, Tryz.ntmps39
  go_wp2_with fail
  refine (sheet_any _).mono ?_
  rintro e w1 ⟨A1, cap1, rfl, hs1, hb1⟩
  go_wp2_with fail
  refine (Owed_any _ _ _ _ _ hs1).mono ?_
  rintro e w2 ⟨rfl, hb2⟩
  rw [show checkFolio sheetL = 0 by decide, show okI 0 (dueOf sheetL) = 600 by decide]
  replace hb1 := hb1.trans (hb2.mono hb1.size)
  clear hb2 hs1
  go_wp2_with fail
  refine (sheet_any _).mono ?_
  rintro e w3 ⟨A3, cap3, rfl, hs3, hb3⟩
  replace hb1 := hb1.trans (hb3.mono hb1.size)
  clear hb3
  go_wp2_with fail
  refine (Add_any _ _ _ sheetL 3 2 (-600) _ hs3 (.of (by decide) (by decide)) (.of (by decide) (by decide)) (.of (by decide) (by decide))).mono ?_
  rintro e w4 ⟨v4, xs4, rfl, hown4, hb4⟩
  have e4 : addE sheetL ⟨3, 2, -600⟩ = 0 := by decide
  rw [e4] at hown4 ⊢
  obtain ⟨A4, n4, cap4, rfl, hs4⟩ := hown4.sl entryC_good
  obtain rfl : n4 = 3 := by have := hs4.len; rw [← this]; decide
  replace hb1 := hb1.trans (hb4.mono hb1.size)
  clear hb4 hs3 hs4 hown4 e4
  go_wp2_with fail
  refine (sheet_any _).mono ?_
  rintro e w5 ⟨A5, cap5, rfl, hs5, hb5⟩
  replace hb1 := hb1.trans (hb5.mono hb1.size)
  clear hb5
  go_wp2_with fail
  refine (Cancel_any _ _ _ sheetL 5 100 _ hs5 (.of (by decide) (by decide)) (.of (by decide) (by decide))).mono ?_
  rintro e w6 ⟨v6, xs6, rfl, hown6, hb6⟩
  have e6 : cancelE sheetL 5 100 = 0 := by decide
  have l6 : okL 0 (cancelL sheetL 5 100) = [⟨1, 1, 1000⟩, ⟨3, 2, -400⟩, ⟨5, 4, -1000⟩, ⟨5, 3, 100⟩, ⟨5, 4, 300⟩] := by decide
  rw [e6] at hown6 ⊢
  rw [l6] at hown6
  obtain ⟨A6, n6, cap6, rfl, hs6⟩ := hown6.sl entryC_good
  obtain rfl : n6 = 5 := by have := hs6.len; rw [← this]; decide
  replace hb1 := hb1.trans (hb6.mono hb1.size)
  clear hb6 hs5 hown6 e6 l6
  have hs6' := hs6.all entryC_good (by omega)
  clear hs6
  go_wp2_with fail
  refine (Owed_any _ _ _ _ _ hs6').mono ?_
  rintro e w7 ⟨rfl, hb7⟩
  rw [show checkFolio [⟨1, 1, 1000⟩, ⟨3, 2, -400⟩, ⟨5, 4, -1000⟩, ⟨5, 3, 100⟩, ⟨5, 4, 300⟩] = 0 by decide, show okI 0 (dueOf [⟨1, 1, 1000⟩, ⟨3, 2, -400⟩, ⟨5, 4, -1000⟩, ⟨5, 3, 100⟩, ⟨5, 4, 300⟩]) = 0 by decide]
  replace hs6' := hs6'.below entryC_good (by omega) hb7
  replace hb1 := hb1.trans (hb7.mono hb1.size)
  clear hb7
  go_wp2_with fail
  refine (sheet_any _).mono ?_
  rintro e w8 ⟨A8, cap8, rfl, hs8, hb8⟩
  replace hs6' := hs6'.below entryC_good (by omega) hb8
  replace hb1 := hb1.trans (hb8.mono hb1.size)
  clear hb8
  go_wp2_with fail
  refine (Check_any _ _ _ _ _ hs8).mono ?_
  rintro e w9 ⟨rfl, hb9⟩
  rw [show checkFolio sheetL = 0 by decide]
  replace hs6' := hs6'.below entryC_good (by omega) hb9
  replace hb1 := hb1.trans (hb9.mono hb1.size)
  clear hb9 hs8
  obtain ⟨b, off, x, c0, c1, c2, rfl, hx, ⟨hc, _, _, _⟩, g0, g1, g2⟩ := hs6'.at3 (k := 4) (by omega)
  simp at hx
  subst hx
  simp only [List.cons.injEq, and_true] at hc
  obtain ⟨rfl, rfl, rfl⟩ := hc
  simp at g2
  clear hs6' g0 g1
  go_wp2_with fail
  go_ret
  exact ⟨rfl, hb1⟩
end Go.Proofs.YtoilcdgpeilgaaaGreat
