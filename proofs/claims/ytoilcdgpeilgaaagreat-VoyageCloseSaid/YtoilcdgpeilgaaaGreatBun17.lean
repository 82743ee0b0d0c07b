/-
  Words, laws and contracts: FareH, FareI.
-/
import Derived.Test.YtoilcdgpeilgaaaGreatBun16
set_option linter.unusedSimpArgs false
set_option linter.unusedVariables false
namespace Go.Proofs.YtoilcdgpeilgaaaGreat
open Go.RowKit Go.Shelf
theorem flat_any_succ {l : List (List Int)} {k : Nat} {y : List Int} {p : Int → Bool} (hx : l[k]? = some y) : (l.take (k + 1)).flatten.any p = ((l.take k).flatten.any p || y.any p) := by rw [flat_succ hx, List.any_append]
theorem flat_any_at {l : List (List Int)} {k : Nat} {y : List Int} {p : Int → Bool} (hx : l[k]? = some y) (h : y.any p = true) : l.flatten.any p = true := by
  obtain ⟨v, hv, hp⟩ := List.any_eq_true.1 h
  exact List.any_eq_true.2 ⟨v, List.mem_flatten.2 ⟨y, List.mem_of_getElem? hx, hv⟩, hp⟩
set_option maxRecDepth 100000 in
set_option maxHeartbeats 8000000 in
theorem CheckFares_any (A : Option Addr) (n cap : Nat) (x : Fares) (B : Option Addr) (m cap2 : Nat) (c many : Int) (w : World) (h : FareR w A n cap x B m cap2) :
    Calls Tryz.prog 106 #[.agg #[.slice A n cap, .int .i64 x.alone, .int .i64 x.third, .slice B m cap2, .int .i64 x.down], .int .i64 c, .int .i64 many] w fun e w' => e = .returned (.int .i64 (fareE x c many)) ∧ Below w.heap.size w w' := by
  have hb0 : Below w.heap.size w (w.alloc (.cells #[.slice A n cap, .int .i64 x.alone, .int .i64 x.third, .slice B m cap2, .int .i64 x.down] 29)) := (Below.refl _ _).alloc (Nat.le_refl _) _
  have hF : FareAt (w.alloc (.cells #[.slice A n cap, .int .i64 x.alone, .int .i64 x.third, .slice B m cap2, .int .i64 x.down] 29)) w.heap.size A n cap x B m cap2 := FareAt.new w
  have h1 := h.below hb0
  have hbd := h.leg.bd
  have hbdm := h.bands.bd
  have HLL := Lib.hid h.leg.len
  have HBL := Lib.hid h.bands.len
  obtain ⟨r, hr⟩ : ∃ r, r = fareE x c many := ⟨_, rfl⟩
  rw [← hr]
  have HR := Lib.hid hr
  clear hr
  have hw1 := fun W => between_any c 1 5 W
  have hw2 := fun W => between_any many 1 7 W
  rw [show betB many 1 7 = legsB many from rfl] at hw2
  cases hq1 : betB c 1 5
  · have hr : r = 3 := by rw [HR.out]; unfold fareE; rw [if_pos (.inl hq1)]
    subst hr
    rw [hq1] at hw1
    clear hq1
    go_enter Tryz.func106, Tryz.ntmps106
    go_wp2_with fail
    refine (hw1 _).mono ?_
    rintro e w1 ⟨rfl, rfl⟩
    go_wp2_with fail
    go_ret
    exact ⟨rfl, hb0⟩
  · rw [hq1] at hw1
    cases hq2 : legsB many
    · have hr : r = 3 := by rw [HR.out]; unfold fareE; rw [if_pos (.inr hq2)]
      subst hr
      rw [hq2] at hw2
      clear hq1 hq2
      go_enter Tryz.func106, Tryz.ntmps106
      go_wp2_with fail
      refine (hw1 _).mono ?_
      rintro e w1 ⟨rfl, rfl⟩
      go_wp2_with fail
      refine (hw2 _).mono ?_
      rintro e w1 ⟨rfl, rfl⟩
      go_wp2_with fail
      go_ret
      exact ⟨rfl, hb0⟩
    · rw [hq2] at hw2
      have HV := Lib.hid (show r = if legsE x.leg c many ≠ 0 then legsE x.leg c many else if betB x.alone 0 200 = false ∨ betB x.third 0 100 = false ∨ betB x.down 0 100 = false then 3 else bandsE x.bands by rw [HR.out]; unfold fareE; rw [if_neg (by rw [hq1, hq2]; simp)])
      have hmr := betB_iff.1 hq2
      clear hq1 hq2 HR
      go_enter Tryz.func106, Tryz.ntmps106
      go_wp2_with fail
      refine (hw1 _).mono ?_
      rintro e w1 ⟨rfl, rfl⟩
      go_wp2_with fail
      refine (hw2 _).mono ?_
      rintro e w1 ⟨rfl, rfl⟩
      by_cases hn : (n : Int) = c
      · subst hn
        have hk0 := hF.c0
        have hk1 := hF.c1
        have hk2 := hF.c2
        have hk3 := hF.c3
        have hk4 := hF.c4
        obtain ⟨W, hW⟩ : ∃ W, W = w.alloc (.cells #[.slice A n cap, .int .i64 x.alone, .int .i64 x.third, .slice B m cap2, .int .i64 x.down] 29) := ⟨_, rfl⟩
        have HB := Lib.hid h1.bands
        have HL := Lib.hid h1.leg
        have HF := Lib.hid hF
        rw [← hW] at hb0 hk0 hk1 hk2 hk3 hk4 HB HL HF ⊢
        clear h1 hF h hW
        go_wp2_with fail
        go_loopg [7] n (fun gk i wr => ∃ k : Nat, k ≤ n ∧ n - k ≤ gk ∧ i = .int .i64 k ∧ Aside ((x.leg.take k).any (fun y => ((y.length : Int) != many)) = false) ∧ W = wr)
        case atStart => exact ⟨0, Nat.zero_le _, by omega, rfl, rfl, rfl⟩
        case round =>
          obtain ⟨k, hk, hgk, rfl, HA, rfl⟩ := hrel
          by_cases hlt : k < n
          · obtain ⟨b, off, y, c0, rfl, hy, ⟨B2, q, c2, hc, hw⟩, g0⟩ := HL.out.at1 hlt
            simp only [List.cons.injEq, and_true] at hc
            subst hc
            have hq := hw.len
            have hqb := hw.bd
            have HY := Lib.hid hy
            clear hy
            by_cases hqm : (q : Int) = many
            · have hqm' : ((q : Int) != many) = false := by simpa using hqm
              have HP := Lib.hid (show ((y.length : Int) != many) = false by rw [hq]; exact hqm')
              clear hqm hq
              go_wp2_with fail
              go_roundg (n - (k + 1))
              case measure => omega
              case rel => exact ⟨k + 1, by omega, by omega, by go_num, by show _ = _; rw [any_take_succ HY.out, HA, HP.out]; rfl, rfl⟩
            · have hqm' : ((q : Int) != many) = true := by simpa using hqm
              have HP := Lib.hid (show ((y.length : Int) != many) = true by rw [hq]; exact hqm')
              clear hqm hq
              have hr : r = 1 := by
                have : legsE x.leg n many = 1 := by unfold legsE; rw [if_pos (.inr (any_at HY.out HP.out))]
                rw [HV.out, this]; rfl
              subst hr
              go_wp2_with fail
              go_ret
              exact ⟨rfl, hb0⟩
          · obtain rfl : k = n := by omega
            have HT := Lib.hid (List.take_of_length_le (Nat.le_of_eq HLL.out))
            have HA2 := Lib.hid (show x.leg.any (fun y => ((y.length : Int) != many)) = false by rw [← HT.out]; exact HA)
            have HV2 := Lib.hid (show legsE x.leg k many = if x.leg.flatten.any (fun x => !betB x 0 100000) then 3 else 0 by unfold legsE; rw [if_neg (by rw [HLL.out, HA2.out]; simp)])
            go_wp2_with fail
            go_loopg [8] k (fun gk i wr => ∃ j : Nat, j ≤ k ∧ k - j ≤ gk ∧ i = .int .i64 j ∧ Aside ((x.leg.take j).flatten.any (fun x => !betB x 0 100000) = false) ∧ W = wr)
            case atStart => exact ⟨0, Nat.zero_le _, by omega, rfl, rfl, rfl⟩
            case round =>
              obtain ⟨j, hj, hgj, rfl, HA3, rfl⟩ := hrel
              by_cases hjt : j < k
              · obtain ⟨b, off, y, c0, rfl, hy, ⟨B2, q, c2, hc, hw⟩, g0⟩ := HL.out.at1 hjt
                simp only [List.cons.injEq, and_true] at hc
                subst hc
                have hq := hw.len
                have hqb := hw.bd
                have HY := Lib.hid hy
                have hqm : (q : Int) = many := by
                  have := List.any_eq_false.1 HA2.out y (List.mem_of_getElem? hy)
                  simp at this; omega
                subst hqm
                clear hy
                have HQ := Lib.hid hq
                clear hq
                go_wp2_with fail
                go_loopg [9] q (fun gl i wr => ∃ l : Nat, l ≤ q ∧ q - l ≤ gl ∧ i = .int .i64 l ∧ Aside ((y.take l).any (fun x => !betB x 0 100000) = false) ∧ W = wr)
                case atStart => exact ⟨0, Nat.zero_le _, by omega, rfl, rfl, rfl⟩
                case round =>
                  obtain ⟨l, hl, hgl, rfl, HA4, rfl⟩ := hrel
                  by_cases hlt : l < q
                  · obtain ⟨b3, off3, v, c3, rfl, hv, ⟨hc, v0⟩, g3⟩ := hw.at1 hlt
                    simp only [List.cons.injEq, and_true] at hc
                    subst hc
                    have HW := Lib.hid hv
                    clear hv
                    go_wp2_with fail
                    refine (between_any v 0 100000 _).mono ?_
                    rintro e w1 ⟨rfl, rfl⟩
                    cases q_HB1 : betB v 0 100000 <;> have HB1 := Lib.hid q_HB1 <;> clear q_HB1
                    · have hr : r = 3 := by
                        have : legsE x.leg k q = 3 := by rw [HV2.out, if_pos (flat_any_at HY.out (any_at HW.out (by rw [HB1.out]; rfl)))]
                        rw [HV.out, this]; rfl
                      subst hr
                      go_wp2_with fail
                      go_ret
                      exact ⟨rfl, hb0⟩
                    · go_wp2_with fail
                      go_roundg (q - (l + 1))
                      case measure => omega
                      case rel => exact ⟨l + 1, by omega, by omega, by go_num, by show _ = _; rw [any_take_succ HW.out, HA4, HB1.out]; rfl, rfl⟩
                  · obtain rfl : l = q := by omega
                    have HT3 := Lib.hid (List.take_of_length_le (Nat.le_of_eq HQ.out))
                    go_wp2_with fail
                    go_roundg (k - (j + 1))
                    case measure => omega
                    case rel => exact ⟨j + 1, by omega, by omega, by go_num, by show _ = _; rw [flat_any_succ HY.out, HA3, ← HT3.out, HA4]; rfl, rfl⟩
              · obtain rfl : j = k := by omega
                have HV3 := Lib.hid (show r = if betB x.alone 0 200 = false ∨ betB x.third 0 100 = false ∨ betB x.down 0 100 = false then 3 else bandsE x.bands by
                  have : legsE x.leg j many = 0 := by rw [HV2.out, if_neg (by rw [← HT.out, HA3]; simp)]
                  rw [HV.out, this]; rfl)
                clear HV HV2 HA HA2 HA3
                go_wp2_with fail
                refine (between_any x.alone 0 200 _).mono ?_
                rintro e w1 ⟨rfl, rfl⟩
                cases q_HQa : betB x.alone 0 200 <;> have HQa := Lib.hid q_HQa <;> clear q_HQa
                · have hr : r = 3 := by rw [HV3.out, if_pos (.inl HQa.out)]
                  subst hr
                  go_wp2_with fail
                  go_ret
                  exact ⟨rfl, hb0⟩
                go_wp2_with fail
                refine (between_any x.third 0 100 _).mono ?_
                rintro e w1 ⟨rfl, rfl⟩
                cases q_HQt : betB x.third 0 100 <;> have HQt := Lib.hid q_HQt <;> clear q_HQt
                · have hr : r = 3 := by rw [HV3.out, if_pos (.inr (.inl HQt.out))]
                  subst hr
                  go_wp2_with fail
                  go_ret
                  exact ⟨rfl, hb0⟩
                go_wp2_with fail
                refine (between_any x.down 0 100 _).mono ?_
                rintro e w1 ⟨rfl, rfl⟩
                cases q_HQd : betB x.down 0 100 <;> have HQd := Lib.hid q_HQd <;> clear q_HQd
                · have hr : r = 3 := by rw [HV3.out, if_pos (.inr (.inr HQd.out))]
                  subst hr
                  go_wp2_with fail
                  go_ret
                  exact ⟨rfl, hb0⟩
                have HV4 := Lib.hid (show r = bandsE x.bands by rw [HV3.out, if_neg (by rw [HQa.out, HQt.out, HQd.out]; simp)])
                clear HV3 HQa HQt HQd
                by_cases hm : 4 < m
                · have hr : r = 2 := by rw [HV4.out]; unfold bandsE; rw [HBL.out, if_pos hm]
                  subst hr
                  go_wp2_with fail
                  go_ret
                  exact ⟨rfl, hb0⟩
                have HV5 := Lib.hid (show r = firstErr (bandErr x.bands) m by rw [HV4.out]; unfold bandsE; rw [HBL.out, if_neg hm])
                clear HV4
                go_wp2_with fail
                clear hk0 hk1 hk2 hk3 hk4
                go_loopg [10] m (fun gk i wr => ∃ k : Nat, k ≤ m ∧ m - k ≤ gk ∧ i = .int .i64 k ∧ Aside (firstErr (bandErr x.bands) k = 0) ∧ Below W.heap.size W wr)
                case atStart => exact ⟨0, Nat.zero_le _, by omega, rfl, rfl, Below.refl _ _⟩
                case round =>
                  obtain ⟨k, hk, hgk, rfl, HE, hb⟩ := hrel
                  have hk3 := (HF.out.below hb).c3
                  by_cases hlt : k < m
                  · obtain ⟨b, off, y, c0, c1, rfl, hx, ⟨hc, b0, b1⟩, g0, g1⟩ := (HB.out.below bandC_good (by omega) hb).at2 hlt
                    simp only [List.cons.injEq, and_true] at hc
                    obtain ⟨rfl, rfl⟩ := hc
                    have HX := Lib.hid hx
                    clear hx
                    have fin : ∀ q : Int, bandErr x.bands k = q → q ≠ 0 → r = q := fun q h1 h2 => by
                      rw [HV5.out, firstErr_at (n := m) HE.out (by rw [h1]; exact h2) hlt, h1]
                    have Fin := Lib.hid fin
                    clear fin
                    have hbA := hb.alloc hb.size (.cells #[.int .i64 y.days, .int .i64 y.part] 186)
                    have hk3' := (HF.out.below hbA).c3
                    go_wp2_with fail
                    refine (between_any y.days 0 999 _).mono ?_
                    rintro e w1 ⟨rfl, rfl⟩
                    cases q_HQ1 : betB y.days 0 999 <;> have HQ1 := Lib.hid q_HQ1 <;> clear q_HQ1
                    · have hr : r = 3 := Fin.out 3 (by unfold bandErr; rw [HX.out, Option.getD_some, if_pos (.inl HQ1.out)]) (by decide)
                      subst hr
                      go_wp2_with fail
                      go_ret
                      exact ⟨rfl, hb0.trans (hbA.mono hb0.size)⟩
                    go_wp2_with fail
                    refine (between_any y.part 0 100 _).mono ?_
                    rintro e w1 ⟨rfl, rfl⟩
                    cases q_HQ2 : betB y.part 0 100 <;> have HQ2 := Lib.hid q_HQ2 <;> clear q_HQ2
                    · have hr : r = 3 := Fin.out 3 (by unfold bandErr; rw [HX.out, Option.getD_some, if_pos (.inr HQ2.out)]) (by decide)
                      subst hr
                      go_wp2_with fail
                      go_ret
                      exact ⟨rfl, hb0.trans (hbA.mono hb0.size)⟩
                    have herr0 : k = 0 → bandErr x.bands k = 0 := fun h0 => by
                      unfold bandErr
                      rw [HX.out, Option.getD_some, if_neg (by rw [HQ1.out, HQ2.out]; simp), if_neg (by omega)]
                    have herr : ∀ z, x.bands[k - 1]? = some z → 0 < k → bandErr x.bands k = if y.days ≤ z.days ∨ z.part < y.part then 4 else 0 := fun z hz h0 => by
                      unfold bandErr
                      rw [HX.out, Option.getD_some, if_neg (by rw [HQ1.out, HQ2.out]; simp), hz, Option.getD_some]
                      by_cases e : y.days ≤ z.days ∨ z.part < y.part
                      · rw [if_pos ⟨h0, e⟩, if_pos e]
                      · rw [if_neg (fun h => e h.2), if_neg e]
                    have Herr := Lib.hid herr
                    have Herr0 := Lib.hid herr0
                    clear herr herr0
                    rcases k with _ | k
                    · simp only [Nat.zero_mul, Nat.add_zero] at g0 g1
                      go_wp2_with fail
                      go_quiet (fail)
                      go_wp2_with fail
                      go_roundg (m - 1)
                      case measure => omega
                      case rel => exact ⟨1, by omega, by omega, rfl, (show Aside _ from (firstErr_succ HE.out).trans (Herr0.out (by trivial))), below_drewN hbA _⟩
                    · obtain ⟨b2, off2, z, d0, d1, hA2, hy, ⟨hc2, y0, y1⟩, e0, e1⟩ := (HB.out.below bandC_good (by omega) hbA).at2 (show k < m by omega)
                      injection hA2 with hA2
                      injection hA2 with hb2 ho2 _
                      subst hb2 ho2
                      simp only [List.cons.injEq, and_true] at hc2
                      obtain ⟨rfl, rfl⟩ := hc2
                      have Hy := Lib.hid hy
                      clear hy
                      have hw : IntKind.i64.wrap (k : Int) = k := IntWalk.i64_in _ (by omega)
                      have hgt : decide ((0 : Int) < (k : Int) + 1) = true := decide_eq_true (by omega)
                      have fini : y.days ≤ z.days ∨ z.part < y.part → r = 4 := fun hc => Fin.out 4 (by rw [Herr.out z (by simpa using Hy.out) (by omega), if_pos hc]) (by decide)
                      have Fini := Lib.hid fini
                      clear fini
                      by_cases hd : y.days ≤ z.days
                      · have hr : r = 4 := Fini.out (.inl hd)
                        subst hr
                        have hd' : decide (y.days ≤ z.days) = true := decide_eq_true hd
                        go_wp2_with fail
                        go_quiet (fail)
                        go_wp2_with fail
                        go_ret
                        exact ⟨rfl, hb0.trans ((below_drewN hbA _).mono hb0.size)⟩
                      · have hd' : decide (y.days ≤ z.days) = false := decide_eq_false hd
                        by_cases hp : z.part < y.part
                        · have hr : r = 4 := Fini.out (.inr hp)
                          subst hr
                          go_wp2_with fail
                          go_quiet (fail)
                          go_wp2_with fail
                          go_ret
                          exact ⟨rfl, hb0.trans ((below_drewN hbA _).mono hb0.size)⟩
                        · go_wp2_with fail
                          go_quiet (fail)
                          go_wp2_with fail
                          go_roundg (m - (k + 1 + 1))
                          case measure => omega
                          case rel => exact ⟨k + 1 + 1, by omega, by omega, by go_num, (show Aside _ from (firstErr_succ HE.out).trans (by rw [Herr.out z (by simpa using Hy.out) (by omega), if_neg (by omega)])), below_drewN hbA _⟩
                  · obtain rfl : k = m := by omega
                    have hr : r = 0 := by rw [HV5.out]; exact HE.out
                    subst hr
                    go_wp2_with fail
                    go_ret
                    exact ⟨rfl, hb0.trans (hb.mono hb0.size)⟩
      · have hn' : ((n : Int) != c) = true := by simpa using hn
        have hr : r = 1 := by
          have : legsE x.leg c many = 1 := by unfold legsE; rw [if_pos (.inl (by rw [HLL.out]; exact hn))]
          rw [HV.out, this]; rfl
        subst hr
        clear hn
        go_wp2_with fail
        go_ret
        exact ⟨rfl, hb0⟩
end Go.Proofs.YtoilcdgpeilgaaaGreat
namespace Go.Proofs.YtoilcdgpeilgaaaGreat
open Go.RowKit Go.Shelf
instance bandK : CodK bandC 2 := ⟨bandC_good, by omega⟩
instance intsK : CodK (slC intC 1) 1 := ⟨slC_good intC_good (by omega), by omega⟩
def tableX : Fares := ⟨[[100, 200, 301], [150, 250, 350], [500, 500, 500]], 50, 33, [⟨7, 100⟩, ⟨30, 50⟩], 20⟩
end Go.Proofs.YtoilcdgpeilgaaaGreat
