/-
  Words, laws and contracts: FolioH.
-/
import Derived.Test.YtoilcdgpeilgaaaGreatBun7
set_option linter.unusedSimpArgs false
set_option linter.unusedVariables false
namespace Go.Proofs.YtoilcdgpeilgaaaGreat
open Go.RowKit Go.Shelf
theorem entryE_7 {x : Entry} (h : x.kind < 1 ∨ 4 < x.kind) : entryE x = 7 := if_pos h
theorem entryE_3 {x : Entry} (h : ¬ (x.kind < 1 ∨ 4 < x.kind)) (h2 : x.day < 0 ∨ 9999 < x.day ∨ x.amount < -100000000 ∨ 100000000 < x.amount) : entryE x = 3 := by
  unfold entryE; rw [if_neg h, if_pos h2]
theorem entryE_4 {x : Entry} (h : ¬ (x.kind < 1 ∨ 4 < x.kind)) (h2 : ¬ (x.day < 0 ∨ 9999 < x.day ∨ x.amount < -100000000 ∨ 100000000 < x.amount))
    (h3 : x.amount < 0 ∧ (x.kind = 1 ∨ x.kind = 3) ∨ 0 < x.amount ∧ x.kind = 2) : entryE x = 4 := by
  unfold entryE; rw [if_neg h, if_neg h2, if_pos h3]
theorem entryE_0 {x : Entry} (h : ¬ (x.kind < 1 ∨ 4 < x.kind)) (h2 : ¬ (x.day < 0 ∨ 9999 < x.day ∨ x.amount < -100000000 ∨ 100000000 < x.amount))
    (h3 : ¬ (x.amount < 0 ∧ (x.kind = 1 ∨ x.kind = 3) ∨ 0 < x.amount ∧ x.kind = 2)) : entryE x = 0 := by
  unfold entryE; rw [if_neg h, if_neg h2, if_neg h3]
set_option maxRecDepth 100000 in
set_option maxHeartbeats 4000000 in
theorem CheckFolio_any (A : Option Addr) (n cap : Nat) (l : List Entry) (w : World) (h : Sl entryC 3 w All A n cap l) :
    Calls Tryz.prog 113 #[.slice A n cap] w fun e w' => e = .returned (.int .i64 (checkFolio l)) ∧ Below w.heap.size w w' := by
  have hbd := h.bd
  have hlen := Lib.hid h.len
  by_cases hn : 12 < n
  · have hn' : (12 : Int) < (n : Int) := by omega
    go_enter Tryz.func113, Tryz.ntmps113
    go_wp2_with fail
    go_ret
    exact ⟨retI (by unfold checkFolio; rw [hlen.out, if_pos hn]), Below.refl _ _⟩
  · have hn' : ¬ (12 : Int) < (n : Int) := by omega
    go_enter Tryz.func113, Tryz.ntmps113
    go_wp2_with fail
    go_loopg [3] n (fun gk i wr => ∃ k : Nat, k ≤ n ∧ n - k ≤ gk ∧ i = .int .i64 k ∧ Aside (firstErr (errAt l) k = 0) ∧ Below w.heap.size w wr)
    case atStart => exact ⟨0, Nat.zero_le _, by omega, rfl, rfl, Below.refl _ _⟩
    case round =>
      obtain ⟨k, hk, hgk, rfl, HE, hb⟩ := hrel
      by_cases hlt : k < n
      · obtain ⟨b, off, x, c0, c1, c2, rfl, hx, ⟨hc, b0, b1, b2⟩, g0, g1, g2⟩ := (h.below entryC_good (by omega) hb).at3 hlt
        simp only [List.cons.injEq, and_true] at hc
        obtain ⟨rfl, rfl, rfl⟩ := hc
        have HX := Lib.hid hx
        have hb1 := hb.alloc hb.size (.cells #[.int .i64 x.day, .int .i64 x.kind, .int .i64 x.amount] 57)
        have fin : ∀ r : Int, errAt l k = r → r ≠ 0 → r = checkFolio l := fun r h1 h2 => by
          unfold checkFolio
          rw [hlen.out, if_neg hn]
          have := firstErr_at (n := n) HE.out (by rw [h1]; exact h2) hlt
          rw [this, h1, if_pos h2]
        have Fin := Lib.hid fin
        have herr : (∀ y, l[k - 1]? = some y → 0 < k → entryE x = 0 → errAt l k = if x.day < y.day then 4 else 0) := fun y hy h0 hr => by
          unfold errAt
          rw [HX.out, Option.getD_some, hr, if_neg (by simp), hy, Option.getD_some]
          by_cases e : x.day < y.day
          · rw [if_pos ⟨h0, e⟩, if_pos e]
          · rw [if_neg (fun h => e h.2), if_neg e]
        have herr0 : k = 0 → entryE x = 0 → errAt l k = 0 := fun h0 hr => by
          unfold errAt
          rw [HX.out, Option.getD_some, hr, if_neg (by simp), if_neg (by omega)]
        have herr1 : entryE x ≠ 0 → errAt l k = entryE x := fun hr => by
          unfold errAt
          rw [HX.out, Option.getD_some, if_pos hr]
        have Herr := Lib.hid herr
        have Herr0 := Lib.hid herr0
        have Herr1 := Lib.hid herr1
        clear fin herr herr0 herr1 hx
        by_cases c1 : x.kind < 1 ∨ 4 < x.kind
        · have HZ := Lib.hid (entryE_7 c1)
          have t1 := betB_false c1
          clear c1
          go_wp2_with (go_at_call 107; refine (between_any _ _ _ _).mono ?_; rintro e w' ⟨rfl, rfl⟩)
          all_goals
            go_ret
            exact ⟨retI (Fin.out 7 ((Herr1.out (by rw [HZ.out]; omega)).trans HZ.out) (by omega)), hb1⟩
        · have t1 : betB x.kind 1 4 = true := betB_true (by omega) (by omega)
          by_cases c2 : x.day < 0 ∨ 9999 < x.day ∨ x.amount < -100000000 ∨ 100000000 < x.amount
          · have HZ := Lib.hid (entryE_3 c1 c2)
            by_cases c2d : x.day < 0 ∨ 9999 < x.day
            · have t2 := betB_false c2d
              clear c1 c2 c2d
              go_wp2_with (go_at_call 107; refine (between_any _ _ _ _).mono ?_; rintro e w' ⟨rfl, rfl⟩)
              all_goals
                go_ret
                exact ⟨retI (Fin.out 3 ((Herr1.out (by rw [HZ.out]; omega)).trans HZ.out) (by omega)), hb1⟩
            · have t2 : betB x.day 0 9999 = true := betB_true (by omega) (by omega)
              have t3 : betB x.amount (-100000000) 100000000 = false := betB_false (by omega)
              clear c1 c2 c2d
              go_wp2_with (go_at_call 107; refine (between_any _ _ _ _).mono ?_; rintro e w' ⟨rfl, rfl⟩)
              all_goals
                go_ret
                exact ⟨retI (Fin.out 3 ((Herr1.out (by rw [HZ.out]; omega)).trans HZ.out) (by omega)), hb1⟩
          · have t2 : betB x.day 0 9999 = true := betB_true (by omega) (by omega)
            have t3 : betB x.amount (-100000000) 100000000 = true := betB_true (by omega) (by omega)
            by_cases c3 : x.amount < 0 ∧ (x.kind = 1 ∨ x.kind = 3) ∨ 0 < x.amount ∧ x.kind = 2
            · have HZ := Lib.hid (entryE_4 c1 c2 c3)
              go_wp2_with (go_at_call 107; refine (between_any _ _ _ _).mono ?_; rintro e w' ⟨rfl, rfl⟩)
              all_goals
                go_ret
                exact ⟨retI (Fin.out 4 ((Herr1.out (by rw [HZ.out]; omega)).trans HZ.out) (by omega)), hb.alloc hb.size _⟩
            · have HZ := Lib.hid (entryE_0 c1 c2 c3)
              rcases k with _ | k
              · simp only [Nat.zero_mul, Nat.add_zero] at g0 g1 g2
                go_wp2_with (go_at_call 107; refine (between_any _ _ _ _).mono ?_; rintro e w' ⟨rfl, rfl⟩)
                all_goals
                  go_quiet (fail)
                  go_wp2_with fail
                  go_roundg (n - 1)
                  case measure => omega
                  case rel => exact ⟨1, by omega, by omega, rfl, (show Aside _ from (firstErr_succ HE.out).trans (Herr0.out (by trivial) HZ.out)), below_drewN (hb.alloc hb.size _) _⟩
              · obtain ⟨b2, off2, y, d0, d1, d2, hA2, hy, ⟨hc2, y0, y1, y2⟩, e0, e1, e2⟩ := (h.below entryC_good (by omega) hb).at3 (show k < n by omega)
                injection hA2 with hA2
                injection hA2 with hb2 ho2 _
                subst hb2 ho2
                simp only [List.cons.injEq, and_true] at hc2
                obtain ⟨rfl, rfl, rfl⟩ := hc2
                have Hy := Lib.hid hy
                have hblt : b < wr.heap.size := cell_lt e0
                clear hy e1 e2
                have hw : IntKind.i64.wrap (k : Int) = k := IntWalk.i64_in _ (by omega)
                have hgt : decide ((0 : Int) < (k : Int) + 1) = true := decide_eq_true (by omega)
                by_cases hd : x.day < y.day
                · go_wp2_with (go_at_call 107; refine (between_any _ _ _ _).mono ?_; rintro e w' ⟨rfl, rfl⟩)
                  all_goals
                    go_quiet (fail)
                    go_wp2_with fail
                    go_ret
                    exact ⟨retI (Fin.out 4 (by rw [Herr.out y (by simpa using Hy.out) (by omega) HZ.out, if_pos hd]) (by omega)), below_drewN (hb.alloc hb.size _) _⟩
                · go_wp2_with (go_at_call 107; refine (between_any _ _ _ _).mono ?_; rintro e w' ⟨rfl, rfl⟩)
                  all_goals
                    go_quiet (fail)
                    go_wp2_with fail
                    go_roundg (n - (k + 1 + 1))
                    case measure => omega
                    case rel => exact ⟨k + 1 + 1, by omega, by omega, by go_num, (show Aside _ from (firstErr_succ HE.out).trans (by rw [Herr.out y (by simpa using Hy.out) (by omega) HZ.out, if_neg (by omega)])), below_drewN (hb.alloc hb.size _) _⟩
      · obtain rfl : k = n := by omega
        have hsm := small_of_check (l := l) (by rw [hlen.out]; omega) (by rw [hlen.out]; exact HE.out)
        have hcap := h.le
        go_wp2_with fail
        go_loopg [5] k (fun gk i wr => ∃ j : Nat, j ≤ k ∧ k - j ≤ gk ∧ i = .int .i64 ((j : Int) + 1) ∧ Aside (firstErr (sumErr l) j = 0) ∧ Below w.heap.size w wr)
        case atStart => exact ⟨0, Nat.zero_le _, by omega, rfl, rfl, hb⟩
        case round =>
          obtain ⟨j, hj, hgj, rfl, HJ, hbj⟩ := hrel
          by_cases hlt2 : j < k
          · obtain ⟨b, off, x, c0, c1, c2, rfl, hx, ⟨hc, b0, b1, b2⟩, g0, g1, g2⟩ := h.at3 hlt2
            clear hc b0 b1 b2 g0 g1 g2 hx
            have hbound : j + 1 ≤ cap := by omega
            have htk := (h.below entryC_good (by omega) hbj).takeTo (i := j + 1) (by omega)
            have hsmt : Small (l.take (j + 1)) := ⟨by rw [List.length_take]; have := hsm.1; omega, fun y hy => hsm.2 y (List.mem_of_mem_take hy)⟩
            go_wp2_with fail
            refine (SumOf_any _ _ _ (l.take (j + 1)) 0 _ htk hsmt).mono ?_
            rintro e w1 ⟨rfl, rfl⟩
            have hbt := between_any (sumOfK (l.take (j + 1)) 0) (-100000000) 100000000 wr
            have hse : sumErr l j = if betB (sumOfK (l.take (j + 1)) 0) (-100000000) 100000000 then 0 else 3 := by unfold sumErr; rw [sumOfK_zero]; rfl
            generalize betB (sumOfK (l.take (j + 1)) 0) (-100000000) 100000000 = bb at *
            have HB := Lib.hid hbt
            have HSE := Lib.hid hse
            clear hbt hse
            cases bb
            · go_wp2_with (go_at_call 107; refine HB.out.mono ?_; rintro e w' ⟨rfl, rfl⟩)
              go_ret
              exact ⟨retI (by rw [checkFolio_sums (by rw [hlen.out]; exact hn) (by rw [hlen.out]; exact HE.out), hlen.out, firstErr_at HJ.out (by rw [HSE.out]; decide) hlt2, HSE.out]; rfl), hbj⟩
            · go_wp2_with (go_at_call 107; refine HB.out.mono ?_; rintro e w' ⟨rfl, rfl⟩)
              go_roundg (k - (j + 1))
              case measure => omega
              case rel => exact ⟨j + 1, by omega, by omega, by go_num, (show Aside _ from (firstErr_succ HJ.out).trans HSE.out), hbj⟩
          · obtain rfl : j = k := by omega
            have hge : ¬ ((j : Int) + 1 ≤ (j : Int)) := by omega
            go_wp2_with fail
            go_ret
            exact ⟨retI (by rw [checkFolio_sums (by rw [hlen.out]; exact hn) (by rw [hlen.out]; exact HE.out), hlen.out, HJ.out]), hbj⟩
end Go.Proofs.YtoilcdgpeilgaaaGreat
