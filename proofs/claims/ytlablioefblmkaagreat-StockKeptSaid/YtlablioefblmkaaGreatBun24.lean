/-
  Words, laws and contracts: FareH, FareI, SameI, ShipM, SpanM, SpanN, SpanO, IntsAre.
-/
import Derived.Test.YtlablioefblmkaaGreatBun23
import Derived.BigQuiet
/-
  Fares: the reference CheckFares.
-/
namespace Go.Proofs.YtlablioefblmkaaGreat
open Go.RowKit Go.Shelf

theorem flat_any_succ {l : List (List Int)} {k : Nat} {y : List Int} {p : Int → Bool} (hx : l[k]? = some y) : (l.take (k + 1)).flatten.any p = ((l.take k).flatten.any p || y.any p) := by rw [flat_succ hx, List.any_append]
theorem flat_any_at {l : List (List Int)} {k : Nat} {y : List Int} {p : Int → Bool} (hx : l[k]? = some y) (h : y.any p = true) : l.flatten.any p = true := by
  obtain ⟨v, hv, hp⟩ := List.any_eq_true.1 h
  exact List.any_eq_true.2 ⟨v, List.mem_flatten.2 ⟨y, List.mem_of_getElem? hx, hv⟩, hp⟩

set_option maxRecDepth 100000 in
set_option maxHeartbeats 8000000 in
theorem CheckFares_any (A : Option Addr) (n cap : Nat) (x : Fares) (B : Option Addr) (m cap2 : Nat) (c many : Int) (w : World) (h : FareR w A n cap x B m cap2) :
    Calls Tryz.prog 71 #[.agg #[.slice A n cap, .int .i64 x.alone, .int .i64 x.third, .slice B m cap2, .int .i64 x.down], .int .i64 c, .int .i64 many] w fun e w' => e = .returned (.int .i64 (fareE x c many)) ∧ Below w.heap.size w w' := by
  have hb0 : Below w.heap.size w (w.alloc (.cells #[.slice A n cap, .int .i64 x.alone, .int .i64 x.third, .slice B m cap2, .int .i64 x.down] 29)) := (Below.refl _ _).alloc (Nat.le_refl _) _
  have hF : FareAt (w.alloc (.cells #[.slice A n cap, .int .i64 x.alone, .int .i64 x.third, .slice B m cap2, .int .i64 x.down] 29)) w.heap.size A n cap x B m cap2 := FareAt.new w
  have h1 := h.below hb0
  have hbd := h.leg.bd
  have hbdm := h.bands.bd
  have HLL := Lib.hid h.leg.len
  have HBL := Lib.hid h.bands.len
  obtain ⟨r, hr⟩ : ∃ r, r = fareE x c many := ⟨_, rfl⟩
  rw [← hr]
  have HR := Lib.hid hr
  clear hr
  have hw1 := fun W => between_any c 1 5 W
  have hw2 := fun W => between_any many 1 7 W
  rw [show betB many 1 7 = legsB many from rfl] at hw2
  cases hq1 : betB c 1 5
  · have hr : r = 3 := by rw [HR.out]; unfold fareE; rw [if_pos (.inl hq1)]
    subst hr
    rw [hq1] at hw1
    clear hq1
    go_enter Tryz.func71, Tryz.ntmps71
    go_wp2_with fail
    refine (hw1 _).mono ?_
    rintro e w1 ⟨rfl, rfl⟩
    go_wp2_with fail
    go_ret
    exact ⟨rfl, hb0⟩
  · rw [hq1] at hw1
    cases hq2 : legsB many
    · have hr : r = 3 := by rw [HR.out]; unfold fareE; rw [if_pos (.inr hq2)]
      subst hr
      rw [hq2] at hw2
      clear hq1 hq2
      go_enter Tryz.func71, Tryz.ntmps71
      go_wp2_with fail
      refine (hw1 _).mono ?_
      rintro e w1 ⟨rfl, rfl⟩
      go_wp2_with fail
      refine (hw2 _).mono ?_
      rintro e w1 ⟨rfl, rfl⟩
      go_wp2_with fail
      go_ret
      exact ⟨rfl, hb0⟩
    · rw [hq2] at hw2
      have HV := Lib.hid (show r = if legsE x.leg c many ≠ 0 then legsE x.leg c many else if betB x.alone 0 200 = false ∨ betB x.third 0 100 = false ∨ betB x.down 0 100 = false then 3 else bandsE x.bands by rw [HR.out]; unfold fareE; rw [if_neg (by rw [hq1, hq2]; simp)])
      have hmr := betB_iff.1 hq2
      clear hq1 hq2 HR
      go_enter Tryz.func71, Tryz.ntmps71
      go_wp2_with fail
      refine (hw1 _).mono ?_
      rintro e w1 ⟨rfl, rfl⟩
      go_wp2_with fail
      refine (hw2 _).mono ?_
      rintro e w1 ⟨rfl, rfl⟩
      by_cases hn : (n : Int) = c
      · subst hn
        have hk0 := hF.c0
        have hk1 := hF.c1
        have hk2 := hF.c2
        have hk3 := hF.c3
        have hk4 := hF.c4
        obtain ⟨W, hW⟩ : ∃ W, W = w.alloc (.cells #[.slice A n cap, .int .i64 x.alone, .int .i64 x.third, .slice B m cap2, .int .i64 x.down] 29) := ⟨_, rfl⟩
        have HB := Lib.hid h1.bands
        have HL := Lib.hid h1.leg
        have HF := Lib.hid hF
        rw [← hW] at hb0 hk0 hk1 hk2 hk3 hk4 HB HL HF ⊢
        clear h1 hF h hW
        go_wp2_with fail
        go_loopg [7] n (fun gk i wr => ∃ k : Nat, k ≤ n ∧ n - k ≤ gk ∧ i = .int .i64 k ∧ Aside ((x.leg.take k).any (fun y => ((y.length : Int) != many)) = false) ∧ W = wr)
        case atStart => exact ⟨0, Nat.zero_le _, by omega, rfl, rfl, rfl⟩
        case round =>
          obtain ⟨k, hk, hgk, rfl, HA, rfl⟩ := hrel
          by_cases hlt : k < n
          · obtain ⟨b, off, y, c0, rfl, hy, ⟨B2, q, c2, hc, hw⟩, g0⟩ := HL.out.at1 hlt
            simp only [List.cons.injEq, and_true] at hc
            subst hc
            have hq := hw.len
            have hqb := hw.bd
            have HY := Lib.hid hy
            clear hy
            by_cases hqm : (q : Int) = many
            · have hqm' : ((q : Int) != many) = false := by simpa using hqm
              have HP := Lib.hid (show ((y.length : Int) != many) = false by rw [hq]; exact hqm')
              clear hqm hq
              go_wp2_with fail
              go_roundg (n - (k + 1))
              case measure => omega
              case rel => exact ⟨k + 1, by omega, by omega, by go_num, by show _ = _; rw [any_take_succ HY.out, HA, HP.out]; rfl, rfl⟩
            · have hqm' : ((q : Int) != many) = true := by simpa using hqm
              have HP := Lib.hid (show ((y.length : Int) != many) = true by rw [hq]; exact hqm')
              clear hqm hq
              have hr : r = 1 := by
                have : legsE x.leg n many = 1 := by unfold legsE; rw [if_pos (.inr (any_at HY.out HP.out))]
                rw [HV.out, this]; rfl
              subst hr
              go_wp2_with fail
              go_ret
              exact ⟨rfl, hb0⟩
          · obtain rfl : k = n := by omega
            have HT := Lib.hid (List.take_of_length_le (Nat.le_of_eq HLL.out))
            have HA2 := Lib.hid (show x.leg.any (fun y => ((y.length : Int) != many)) = false by rw [← HT.out]; exact HA)
            have HV2 := Lib.hid (show legsE x.leg k many = if x.leg.flatten.any (fun x => !betB x 0 100000) then 3 else 0 by unfold legsE; rw [if_neg (by rw [HLL.out, HA2.out]; simp)])
            go_wp2_with fail
            go_loopg [8] k (fun gk i wr => ∃ j : Nat, j ≤ k ∧ k - j ≤ gk ∧ i = .int .i64 j ∧ Aside ((x.leg.take j).flatten.any (fun x => !betB x 0 100000) = false) ∧ W = wr)
            case atStart => exact ⟨0, Nat.zero_le _, by omega, rfl, rfl, rfl⟩
            case round =>
              obtain ⟨j, hj, hgj, rfl, HA3, rfl⟩ := hrel
              by_cases hjt : j < k
              · obtain ⟨b, off, y, c0, rfl, hy, ⟨B2, q, c2, hc, hw⟩, g0⟩ := HL.out.at1 hjt
                simp only [List.cons.injEq, and_true] at hc
                subst hc
                have hq := hw.len
                have hqb := hw.bd
                have HY := Lib.hid hy
                have hqm : (q : Int) = many := by
                  have := List.any_eq_false.1 HA2.out y (List.mem_of_getElem? hy)
                  simp at this; omega
                subst hqm
                clear hy
                have HQ := Lib.hid hq
                clear hq
                go_wp2_with fail
                go_loopg [9] q (fun gl i wr => ∃ l : Nat, l ≤ q ∧ q - l ≤ gl ∧ i = .int .i64 l ∧ Aside ((y.take l).any (fun x => !betB x 0 100000) = false) ∧ W = wr)
                case atStart => exact ⟨0, Nat.zero_le _, by omega, rfl, rfl, rfl⟩
                case round =>
                  obtain ⟨l, hl, hgl, rfl, HA4, rfl⟩ := hrel
                  by_cases hlt : l < q
                  · obtain ⟨b3, off3, v, c3, rfl, hv, ⟨hc, v0⟩, g3⟩ := hw.at1 hlt
                    simp only [List.cons.injEq, and_true] at hc
                    subst hc
                    have HW := Lib.hid hv
                    clear hv
                    go_wp2_with fail
                    refine (between_any v 0 100000 _).mono ?_
                    rintro e w1 ⟨rfl, rfl⟩
                    cases q_HB1 : betB v 0 100000 <;> have HB1 := Lib.hid q_HB1 <;> clear q_HB1
                    · have hr : r = 3 := by
                        have : legsE x.leg k q = 3 := by rw [HV2.out, if_pos (flat_any_at HY.out (any_at HW.out (by rw [HB1.out]; rfl)))]
                        rw [HV.out, this]; rfl
                      subst hr
                      go_wp2_with fail
                      go_ret
                      exact ⟨rfl, hb0⟩
                    · go_wp2_with fail
                      go_roundg (q - (l + 1))
                      case measure => omega
                      case rel => exact ⟨l + 1, by omega, by omega, by go_num, by show _ = _; rw [any_take_succ HW.out, HA4, HB1.out]; rfl, rfl⟩
                  · obtain rfl : l = q := by omega
                    have HT3 := Lib.hid (List.take_of_length_le (Nat.le_of_eq HQ.out))
                    go_wp2_with fail
                    go_roundg (k - (j + 1))
                    case measure => omega
                    case rel => exact ⟨j + 1, by omega, by omega, by go_num, by show _ = _; rw [flat_any_succ HY.out, HA3, ← HT3.out, HA4]; rfl, rfl⟩
              · obtain rfl : j = k := by omega
                have HV3 := Lib.hid (show r = if betB x.alone 0 200 = false ∨ betB x.third 0 100 = false ∨ betB x.down 0 100 = false then 3 else bandsE x.bands by
                  have : legsE x.leg j many = 0 := by rw [HV2.out, if_neg (by rw [← HT.out, HA3]; simp)]
                  rw [HV.out, this]; rfl)
                clear HV HV2 HA HA2 HA3
                go_wp2_with fail
                refine (between_any x.alone 0 200 _).mono ?_
                rintro e w1 ⟨rfl, rfl⟩
                cases q_HQa : betB x.alone 0 200 <;> have HQa := Lib.hid q_HQa <;> clear q_HQa
                · have hr : r = 3 := by rw [HV3.out, if_pos (.inl HQa.out)]
                  subst hr
                  go_wp2_with fail
                  go_ret
                  exact ⟨rfl, hb0⟩
                go_wp2_with fail
                refine (between_any x.third 0 100 _).mono ?_
                rintro e w1 ⟨rfl, rfl⟩
                cases q_HQt : betB x.third 0 100 <;> have HQt := Lib.hid q_HQt <;> clear q_HQt
                · have hr : r = 3 := by rw [HV3.out, if_pos (.inr (.inl HQt.out))]
                  subst hr
                  go_wp2_with fail
                  go_ret
                  exact ⟨rfl, hb0⟩
                go_wp2_with fail
                refine (between_any x.down 0 100 _).mono ?_
                rintro e w1 ⟨rfl, rfl⟩
                cases q_HQd : betB x.down 0 100 <;> have HQd := Lib.hid q_HQd <;> clear q_HQd
                · have hr : r = 3 := by rw [HV3.out, if_pos (.inr (.inr HQd.out))]
                  subst hr
                  go_wp2_with fail
                  go_ret
                  exact ⟨rfl, hb0⟩
                have HV4 := Lib.hid (show r = bandsE x.bands by rw [HV3.out, if_neg (by rw [HQa.out, HQt.out, HQd.out]; simp)])
                clear HV3 HQa HQt HQd
                by_cases hm : 4 < m
                · have hr : r = 2 := by rw [HV4.out]; unfold bandsE; rw [HBL.out, if_pos hm]
                  subst hr
                  go_wp2_with fail
                  go_ret
                  exact ⟨rfl, hb0⟩
                have HV5 := Lib.hid (show r = firstErr (bandErr x.bands) m by rw [HV4.out]; unfold bandsE; rw [HBL.out, if_neg hm])
                clear HV4
                go_wp2_with fail
                clear hk0 hk1 hk2 hk3 hk4
                go_loopg [10] m (fun gk i wr => ∃ k : Nat, k ≤ m ∧ m - k ≤ gk ∧ i = .int .i64 k ∧ Aside (firstErr (bandErr x.bands) k = 0) ∧ Below W.heap.size W wr)
                case atStart => exact ⟨0, Nat.zero_le _, by omega, rfl, rfl, Below.refl _ _⟩
                case round =>
                  obtain ⟨k, hk, hgk, rfl, HE, hb⟩ := hrel
                  have hk3 := (HF.out.below hb).c3
                  by_cases hlt : k < m
                  · obtain ⟨b, off, y, c0, c1, rfl, hx, ⟨hc, b0, b1⟩, g0, g1⟩ := (HB.out.below bandC_good (by omega) hb).at2 hlt
                    simp only [List.cons.injEq, and_true] at hc
                    obtain ⟨rfl, rfl⟩ := hc
                    have HX := Lib.hid hx
                    clear hx
                    have fin : ∀ q : Int, bandErr x.bands k = q → q ≠ 0 → r = q := fun q h1 h2 => by
                      rw [HV5.out, firstErr_at (n := m) HE.out (by rw [h1]; exact h2) hlt, h1]
                    have Fin := Lib.hid fin
                    clear fin
                    have hbA := hb.alloc hb.size (.cells #[.int .i64 y.days, .int .i64 y.part] 172)
                    have hk3' := (HF.out.below hbA).c3
                    go_wp2_with fail
                    refine (between_any y.days 0 999 _).mono ?_
                    rintro e w1 ⟨rfl, rfl⟩
                    cases q_HQ1 : betB y.days 0 999 <;> have HQ1 := Lib.hid q_HQ1 <;> clear q_HQ1
                    · have hr : r = 3 := Fin.out 3 (by unfold bandErr; rw [HX.out, Option.getD_some, if_pos (.inl HQ1.out)]) (by decide)
                      subst hr
                      go_wp2_with fail
                      go_ret
                      exact ⟨rfl, hb0.trans (hbA.mono hb0.size)⟩
                    go_wp2_with fail
                    refine (between_any y.part 0 100 _).mono ?_
                    rintro e w1 ⟨rfl, rfl⟩
                    cases q_HQ2 : betB y.part 0 100 <;> have HQ2 := Lib.hid q_HQ2 <;> clear q_HQ2
                    · have hr : r = 3 := Fin.out 3 (by unfold bandErr; rw [HX.out, Option.getD_some, if_pos (.inr HQ2.out)]) (by decide)
                      subst hr
                      go_wp2_with fail
                      go_ret
                      exact ⟨rfl, hb0.trans (hbA.mono hb0.size)⟩
                    have herr0 : k = 0 → bandErr x.bands k = 0 := fun h0 => by
                      unfold bandErr
                      rw [HX.out, Option.getD_some, if_neg (by rw [HQ1.out, HQ2.out]; simp), if_neg (by omega)]
                    have herr : ∀ z, x.bands[k - 1]? = some z → 0 < k → bandErr x.bands k = if y.days ≤ z.days ∨ z.part < y.part then 4 else 0 := fun z hz h0 => by
                      unfold bandErr
                      rw [HX.out, Option.getD_some, if_neg (by rw [HQ1.out, HQ2.out]; simp), hz, Option.getD_some]
                      by_cases e : y.days ≤ z.days ∨ z.part < y.part
                      · rw [if_pos ⟨h0, e⟩, if_pos e]
                      · rw [if_neg (fun h => e h.2), if_neg e]
                    have Herr := Lib.hid herr
                    have Herr0 := Lib.hid herr0
                    clear herr herr0
                    rcases k with _ | k
                    · simp only [Nat.zero_mul, Nat.add_zero] at g0 g1
                      go_wp2_with fail
                      go_quiet (fail)
                      go_wp2_with fail
                      go_roundg (m - 1)
                      case measure => omega
                      case rel => exact ⟨1, by omega, by omega, rfl, (show Aside _ from (firstErr_succ HE.out).trans (Herr0.out (by trivial))), below_drewN hbA _⟩
                    · obtain ⟨b2, off2, z, d0, d1, hA2, hy, ⟨hc2, y0, y1⟩, e0, e1⟩ := (HB.out.below bandC_good (by omega) hbA).at2 (show k < m by omega)
                      injection hA2 with hA2
                      injection hA2 with hb2 ho2 _
                      subst hb2 ho2
                      simp only [List.cons.injEq, and_true] at hc2
                      obtain ⟨rfl, rfl⟩ := hc2
                      have Hy := Lib.hid hy
                      clear hy
                      have hw : IntKind.i64.wrap (k : Int) = k := IntWalk.i64_in _ (by omega)
                      have hgt : decide ((0 : Int) < (k : Int) + 1) = true := decide_eq_true (by omega)
                      have fini : y.days ≤ z.days ∨ z.part < y.part → r = 4 := fun hc => Fin.out 4 (by rw [Herr.out z (by simpa using Hy.out) (by omega), if_pos hc]) (by decide)
                      have Fini := Lib.hid fini
                      clear fini
                      by_cases hd : y.days ≤ z.days
                      · have hr : r = 4 := Fini.out (.inl hd)
                        subst hr
                        have hd' : decide (y.days ≤ z.days) = true := decide_eq_true hd
                        go_wp2_with fail
                        go_quiet (fail)
                        go_wp2_with fail
                        go_ret
                        exact ⟨rfl, hb0.trans ((below_drewN hbA _).mono hb0.size)⟩
                      · have hd' : decide (y.days ≤ z.days) = false := decide_eq_false hd
                        by_cases hp : z.part < y.part
                        · have hr : r = 4 := Fini.out (.inr hp)
                          subst hr
                          go_wp2_with fail
                          go_quiet (fail)
                          go_wp2_with fail
                          go_ret
                          exact ⟨rfl, hb0.trans ((below_drewN hbA _).mono hb0.size)⟩
                        · go_wp2_with fail
                          go_quiet (fail)
                          go_wp2_with fail
                          go_roundg (m - (k + 1 + 1))
                          case measure => omega
                          case rel => exact ⟨k + 1 + 1, by omega, by omega, by go_num, (show Aside _ from (firstErr_succ HE.out).trans (by rw [Herr.out z (by simpa using Hy.out) (by omega), if_neg (by omega)])), below_drewN hbA _⟩
                  · obtain rfl : k = m := by omega
                    have hr : r = 0 := by rw [HV5.out]; exact HE.out
                    subst hr
                    go_wp2_with fail
                    go_ret
                    exact ⟨rfl, hb0.trans (hb.mono hb0.size)⟩
      · have hn' : ((n : Int) != c) = true := by simpa using hn
        have hr : r = 1 := by
          have : legsE x.leg c many = 1 := by unfold legsE; rw [if_pos (.inl (by rw [HLL.out]; exact hn))]
          rw [HV.out, this]; rfl
        subst hr
        clear hn
        go_wp2_with fail
        go_ret
        exact ⟨rfl, hb0⟩
end Go.Proofs.YtlablioefblmkaaGreat
/-
  Fares: the laws' helpers table, fareBegun.
-/
namespace Go.Proofs.YtlablioefblmkaaGreat
open Go.RowKit Go.Shelf

instance bandK : CodK bandC 2 := ⟨bandC_good, by omega⟩
instance intsK : CodK (slC intC 1) 1 := ⟨slC_good intC_good (by omega), by omega⟩

def tableX : Fares := ⟨[[100, 200, 301], [150, 250, 350], [500, 500, 500]], 50, 33, [⟨7, 100⟩, ⟨30, 50⟩], 20⟩

theorem table_any (w : World) : Calls Tryz.prog 114 #[] w fun e w' => ∃ A n cap B m cap2, e = .returned (.agg #[.slice A n cap, .int .i64 50, .int .i64 33, .slice B m cap2, .int .i64 20]) ∧ FareR w' A n cap tableX B m cap2 ∧ Below w.heap.size w w' := by
  go_enter Tryz.func114, Tryz.ntmps114
  go_wp2_with fail
  refine bodyPost_ret (v := .agg #[.slice (some ⟨w.heap.size + 1 + 1 + 1 + 1, 0, none⟩) 3 3, .int .i64 50, .int .i64 33, .slice (some ⟨w.heap.size + 1 + 1 + 1 + 1 + 1, 0, none⟩) 2 2, .int .i64 20]) (by simp [results, Tryz.results114, go_sem]) rfl ?_
  refine ⟨_, _, _, _, _, _, rfl, ⟨?_, ?_, .of (by decide) (by decide), .of (by decide) (by decide), .of (by decide) (by decide)⟩, ?_⟩
  · refine Sl.ofBlk (l := tableX.leg) (((Blk.new4 w _ _ _ _ _ _).old _)) (by decide) trivial fun i x hx => ?_
    rcases i with _ | _ | _ | i
    · obtain rfl : [100, 200, 301] = x := by simpa [tableX] using hx
      exact ⟨[.slice (some ⟨w.heap.size + 1, 0, none⟩) 3 3], ⟨_, _, _, rfl, Sl.ofInts [100, 200, 301] (((((Blk.new1 w _ _ _).old _).old _).old _).old _) (by decide) trivial (by decide)⟩, rfl, fun j u hu => by rcases j with _ | j <;> simp_all⟩
    · obtain rfl : [150, 250, 350] = x := by simpa [tableX] using hx
      exact ⟨[.slice (some ⟨w.heap.size + 1 + 1, 0, none⟩) 3 3], ⟨_, _, _, rfl, Sl.ofInts [150, 250, 350] ((((Blk.new2 w _ _ _ _).old _).old _).old _) (by decide) trivial (by decide)⟩, rfl, fun j u hu => by rcases j with _ | j <;> simp_all⟩
    · obtain rfl : [500, 500, 500] = x := by simpa [tableX] using hx
      exact ⟨[.slice (some ⟨w.heap.size + 1 + 1 + 1, 0, none⟩) 3 3], ⟨_, _, _, rfl, Sl.ofInts [500, 500, 500] (((Blk.new3 w _ _ _ _ _).old _).old _) (by decide) trivial (by decide)⟩, rfl, fun j u hu => by rcases j with _ | j <;> simp_all⟩
    · simp [tableX] at hx
  · refine Sl.ofBlk (l := tableX.bands) (Blk.new5 w _ _ _ _ _ _ _) (by decide) trivial fun i x hx => ?_
    rcases i with _ | _ | i
    · simp [tableX] at hx; subst hx
      exact ⟨_, ⟨rfl, .of (by decide) (by decide), .of (by decide) (by decide)⟩, rfl, fun j u hu => by rcases j with _ | _ | j <;> simp_all⟩
    · simp [tableX] at hx; subst hx
      exact ⟨_, ⟨rfl, .of (by decide) (by decide), .of (by decide) (by decide)⟩, rfl, fun j u hu => by rcases j with _ | _ | j <;> simp_all⟩
    · simp [tableX] at hx
  · exact ((bel3 w _ _ _).alloc (by simp; omega) _ |>.alloc (by simp; omega) _).alloc (by simp; omega) _

end Go.Proofs.YtlablioefblmkaaGreat
/-
  The reference SameInts.
-/
namespace Go.Proofs.YtlablioefblmkaaGreat
open Go.RowKit Go.Shelf

set_option maxHeartbeats 1000000 in
theorem SameInts_any (A B : Option Addr) (n cap m cap2 : Nat) (l l2 : List Int) (w : World) (h : Sl intC 1 w All A n cap l) (h2 : Sl intC 1 w All B m cap2 l2) :
    Calls Tryz.prog 56 #[.slice A n cap, .slice B m cap2] w fun e w' => e = .returned (.bool (decide (l = l2))) ∧ ∃ q, w' = w.drewN q := by
  have hbd := h.bd
  have hlen := Lib.hid h.len
  have hlen2 := Lib.hid h2.len
  by_cases hnm : n = m
  · subst hnm
    go_enter Tryz.func56, Tryz.ntmps56
    go_wp2_with fail
    go_loopg [5] n (fun gk i wr => ∃ k q : Nat, k ≤ n ∧ n - k ≤ gk ∧ i = .int .i64 k ∧ Aside (∀ j, j < k → l[j]? = l2[j]?) ∧ wr = w.drewN q)
    case atStart => exact ⟨0, 0, Nat.zero_le _, by omega, rfl, fun j hj => absurd hj (by omega), rfl⟩
    case round =>
      obtain ⟨k, q, hk, hgk, rfl, HE, rfl⟩ := hrel
      by_cases hlt : k < n
      · obtain ⟨b, off, x, c0, rfl, hx, hc, g0⟩ := h.at1 hlt
        obtain ⟨hc, hw⟩ := hc
        simp only [List.cons.injEq, and_true] at hc
        obtain rfl := hc
        obtain ⟨b', off', y, d0, rfl, hy, hd, g0'⟩ := h2.at1 hlt
        obtain ⟨hd, hw'⟩ := hd
        simp only [List.cons.injEq, and_true] at hd
        obtain rfl := hd
        have HX := Lib.hid hx
        have HY := Lib.hid hy
        clear hx hy
        skip
        by_cases hxy : x = y
        · have he : (x != y) = false := by subst hxy; simp
          have HXY := Lib.hid hxy
          clear hxy
          go_wp2_with fail
          go_quiet (fail)
          go_wp2_with fail
          go_roundg (n - (k + 1))
          case measure => omega
          case rel =>
            refine ⟨k + 1, _, by omega, by omega, by go_num, (show Aside _ from fun j hj => ?_), rfl⟩
            by_cases e : j = k
            · subst e; rw [HX.out, HY.out, HXY.out]
            · exact HE.out j (by omega)
        · have he : (x != y) = true := by simpa using hxy
          have HXY := Lib.hid hxy
          clear hxy
          go_wp2_with fail
          go_quiet (fail)
          go_wp2_with fail
          go_ret
          refine ⟨retB ?_, _, World.drewN_drewN _ _ _⟩
          symm
          rw [decide_eq_false_iff_not]
          intro hll
          subst hll
          rw [HX.out] at HY
          exact HXY.out (by have := HY.out; injection this)
      · obtain rfl : k = n := by omega
        have hll : l = l2 := by
          apply List.ext_getElem?
          intro j
          by_cases hj : j < k
          · exact HE.out j hj
          · rw [List.getElem?_eq_none (by rw [hlen.out]; omega), List.getElem?_eq_none (by rw [hlen2.out]; omega)]
        have HLL := Lib.hid hll
        clear hll
        go_wp2_with fail
        go_ret
        exact ⟨retB (by rw [decide_eq_true HLL.out]), _, rfl⟩
  · have hnm' : ((n : Int) != (m : Int)) = true := by simp; omega
    have hll : ¬ l = l2 := fun e => hnm (by rw [← hlen.out, ← hlen2.out, e])
    have HLL := Lib.hid hll
    clear hll hnm
    go_enter Tryz.func56, Tryz.ntmps56
    go_wp2_with fail
    go_ret
    exact ⟨retB (by rw [decide_eq_false HLL.out]), 0, rfl⟩
end Go.Proofs.YtlablioefblmkaaGreat
/-
  Ships: the laws' helpers vessel, shipBegun.
-/
namespace Go.Proofs.YtlablioefblmkaaGreat
open Go.RowKit Go.Shelf

def vesselX : Shp := ⟨3, 6, [⟨[73, 78], [1]⟩, ⟨[79, 85, 84], [2]⟩, ⟨[83, 85, 73, 84, 69], []⟩], [⟨[65, 49], 0, 2, false⟩, ⟨[66, 49], 1, 4, true⟩, ⟨[67, 49], 2, 2, false⟩]⟩
theorem mlen {n : Nat} (h : n ≤ 1000) : n ≤ maxLen := by simp only [maxLen]; omega

set_option maxRecDepth 100000 in
set_option maxHeartbeats 2000000 in
theorem vessel_any (w : World) : Calls Tryz.prog 84 #[] w fun e w' => ∃ A n cap B m cap2, e = .returned (.agg #[.int .i64 vesselX.legs, .int .i64 vesselX.souls, .slice A n cap, .slice B m cap2]) ∧ Sl catC 2 w' All A n cap vesselX.cats ∧ Sl cabC 4 w' All B m cap2 vesselX.cabs ∧ Below w.heap.size w w' := by
  go_enter Tryz.func84, Tryz.ntmps84
  go_wp2_with fail
  refine bodyPost_ret (v := .agg #[.int .i64 3, .int .i64 6, .slice (some ⟨w.heap.size + 1 + 1 + 1, 0, none⟩) 3 3, .slice (some ⟨w.heap.size + 1 + 1 + 1 + 1, 0, none⟩) 3 3]) (by simp [results, Tryz.results84, go_sem]) rfl ?_
  refine ⟨_, _, _, _, _, _, rfl, ?_, ?_, ?_⟩
  · refine Sl.ofBlk (l := vesselX.cats) (((Blk.new3 w _ _ _ _ _).old _)) (by decide) trivial fun i x hx => ?_
    rcases i with _ | _ | _ | i
    · obtain rfl : (⟨[73, 78], [1]⟩ : Cat) = x := by simpa [vesselX] using hx
      exact ⟨[strV [73, 78], .slice (some ⟨w.heap.size + 1, 0, none⟩) 1 1], ⟨_, _, _, rfl, Sl.ofInts [1] ((((Blk.new1 w _ _ _).old _).old _).old _) (by decide) trivial (by decide), mlen (by decide)⟩, rfl, fun j u hu => by rcases j with _ | _ | j <;> simp_all⟩
    · obtain rfl : (⟨[79, 85, 84], [2]⟩ : Cat) = x := by simpa [vesselX] using hx
      exact ⟨[strV [79, 85, 84], .slice (some ⟨w.heap.size + 1 + 1, 0, none⟩) 1 1], ⟨_, _, _, rfl, Sl.ofInts [2] (((Blk.new2 w _ _ _ _).old _).old _) (by decide) trivial (by decide), mlen (by decide)⟩, rfl, fun j u hu => by rcases j with _ | _ | j <;> simp_all⟩
    · obtain rfl : (⟨[83, 85, 73, 84, 69], []⟩ : Cat) = x := by simpa [vesselX] using hx
      exact ⟨[strV [83, 85, 73, 84, 69], .slice none 0 0], ⟨_, _, _, rfl, Sl.nil _ _ _ _, mlen (by decide)⟩, rfl, fun j u hu => by rcases j with _ | _ | j <;> simp_all⟩
    · simp [vesselX] at hx
  · refine Sl.ofBlk (l := vesselX.cabs) (Blk.new4 w _ _ _ _ _ _) (by decide) trivial fun i x hx => ?_
    rcases i with _ | _ | _ | i
    · obtain rfl : (⟨[65, 49], 0, 2, false⟩ : Cab) = x := by simpa [vesselX] using hx
      exact ⟨[strV [65, 49], .int .i64 0, .int .i64 2, .bool false], ⟨rfl, mlen (by decide), .of (by decide) (by decide), .of (by decide) (by decide)⟩, rfl, fun j u hu => by rcases j with _ | _ | _ | _ | j <;> simp_all⟩
    · obtain rfl : (⟨[66, 49], 1, 4, true⟩ : Cab) = x := by simpa [vesselX] using hx
      exact ⟨[strV [66, 49], .int .i64 1, .int .i64 4, .bool true], ⟨rfl, mlen (by decide), .of (by decide) (by decide), .of (by decide) (by decide)⟩, rfl, fun j u hu => by rcases j with _ | _ | _ | _ | j <;> simp_all⟩
    · obtain rfl : (⟨[67, 49], 2, 2, false⟩ : Cab) = x := by simpa [vesselX] using hx
      exact ⟨[strV [67, 49], .int .i64 2, .int .i64 2, .bool false], ⟨rfl, mlen (by decide), .of (by decide) (by decide), .of (by decide) (by decide)⟩, rfl, fun j u hu => by rcases j with _ | _ | _ | _ | j <;> simp_all⟩
    · simp [vesselX] at hx
  · exact ((bel3 w _ _ _).alloc (by simp; omega) _).alloc (by simp; omega) _

theorem vessel_e : shipE vesselX = 0 := by decide
theorem vessel_s1 : servE vesselX 2 0 = 0 := by decide
theorem vessel_s2 : servE vesselX 0 1 = 0 := by decide
theorem vessel_b1 : srvB (higC vesselX.cats) 2 0 = true := by decide
theorem vessel_b2 : srvB (higC vesselX.cats) 0 1 = false := by decide
theorem vessel_o : ordF (higC vesselX.cats) 3 = [2, 1, 0] := by decide

end Go.Proofs.YtlablioefblmkaaGreat
/-
  Spans: the reference FreeOf: leg by leg.
-/
namespace Go.Proofs.YtlablioefblmkaaGreat
open Go.RowKit Go.Shelf

def takenB (l : List Span) (i : Int) : Bool := l.any (legB i)
def setLast (P : List Span) (u : Int) : List Span := P.set (P.length - 1) ⟨(P[P.length - 1]?.getD default).frm, u⟩
/-- What is free of the first legs; is the last one of them? -/
def frS (l : List Span) : Nat → List Span × Bool
  | 0 => ([], false)
  | i + 1 => if takenB l i then ((frS l i).1, false) else if (frS l i).2 then (setLast (frS l i).1 ((i : Int) + 1), true) else ((frS l i).1 ++ [⟨i, (i : Int) + 1⟩], true)
theorem frS_taken {l : List Span} {i : Nat} (h : takenB l i = true) : frS l (i + 1) = ((frS l i).1, false) := by rw [frS, if_pos h]
theorem frS_open {l : List Span} {i : Nat} (h : takenB l i = false) (ho : (frS l i).2 = true) : frS l (i + 1) = (setLast (frS l i).1 ((i : Int) + 1), true) := by rw [frS, if_neg (by simp [h]), if_pos ho]
theorem frS_shut {l : List Span} {i : Nat} (h : takenB l i = false) (ho : (frS l i).2 = false) : frS l (i + 1) = ((frS l i).1 ++ [⟨i, (i : Int) + 1⟩], true) := by rw [frS, if_neg (by simp [h]), if_neg (by simp [ho])]
theorem frS_len (l : List Span) (i : Nat) : (frS l i).1.length ≤ i ∧ ((frS l i).2 = true → 0 < (frS l i).1.length) := by
  induction i with
  | zero => exact ⟨Nat.le_refl _, by simp [frS]⟩
  | succ i ih =>
    cases h : takenB l i with
    | true => rw [frS_taken h]; exact ⟨by simp only; omega, by simp⟩
    | false =>
      cases ho : (frS l i).2 with
      | true => rw [frS_open h ho]; have := ih.2 ho; exact ⟨by simp [setLast]; omega, by simp [setLast]; exact this⟩
      | false => rw [frS_shut h ho]; exact ⟨by simp; omega, by simp⟩

set_option maxRecDepth 100000 in
set_option maxHeartbeats 8000000 in
theorem FreeOf_any (A : Option Addr) (n cap : Nat) (l : List Span) (N : Nat) (w : World) (h : Sl spanC 2 w All A n cap l) (hN : N ≤ 7) (hok : ∀ x ∈ l, OkSp x) :
    Calls Tryz.prog 22 #[.slice A n cap, .int .i64 N] w fun e w' => ∃ v xs, e = .returned v ∧ Own spanC 2 39 w' w.heap.size v (frS l N).1 xs ∧ Below w.heap.size w w' := by
  have hbd := h.bd
  have HLN := Lib.hid h.len
  have HOK := Lib.hid hok
  clear hok
  have HH := Lib.hid h
  clear h
  go_enter Tryz.func22, Tryz.ntmps22
  go_wp2_with fail
  go_loopg [5, 6, 7] N (fun gk o p i wr => ∃ k : Nat, k ≤ N ∧ N - k ≤ gk ∧ i = .int .i64 k ∧ p = .bool (frS l k).2 ∧ ∃ xs, Own spanC 2 39 wr w.heap.size o (frS l k).1 xs ∧ Below w.heap.size w wr)
  case atStart => exact ⟨0, Nat.zero_le _, by omega, rfl, rfl, [], Own.nil _ _ _ _ _, Below.refl _ _⟩
  case round =>
    obtain ⟨k, hk, hgk, rfl, rfl, xs, hO, hb⟩ := hrel
    obtain ⟨A2, n2, cap2, rfl, _⟩ := hO.sl spanC_good
    by_cases hlt : k < N
    · have HO := Lib.hid hO
      have HFS := Lib.hid (frS_len l k)
      obtain ⟨q, hq⟩ : ∃ q, q = (frS l k).2 := ⟨_, rfl⟩
      rw [← hq]
      have HQ := Lib.hid hq
      clear hq
      clear hO
      have hsz := hb.size
      go_upto_region 8 with (fail)
      go_loopg [8, 9] n (fun gk2 t j wr2 => ∃ m : Nat, m ≤ n ∧ n - m ≤ gk2 ∧ j = .int .i64 m ∧ t = .bool ((l.take m).any (legB k)) ∧ Below wr.heap.size wr wr2)
      case atStart => exact ⟨0, Nat.zero_le _, by omega, rfl, rfl, Below.refl _ _⟩
      case round =>
        obtain ⟨m, hm, hgm, rfl, rfl, hb2⟩ := hrel
        by_cases hml : m < n
        · obtain ⟨b, off, x, c0, c1, rfl, hx, ⟨hc, _⟩, g0, g1⟩ := (HH.out.bel (hb.trans (hb2.mono hb.size))).at2 hml
          simp only [List.cons.injEq, and_true] at hc
          obtain ⟨rfl, rfl⟩ := hc
          have hox := HOK.out x (List.mem_of_getElem? hx)
          have hw1 : wrap64 (x.upto - 1) = x.upto - 1 := by unfold OkSp at hox; unfold wrap64; omega
          have HS := Lib.hid (any_take_succ (p := legB (k : Int)) hx)
          obtain ⟨t, ht⟩ : ∃ t, t = (l.take m).any (legB (k : Int)) := ⟨_, rfl⟩
          rw [← ht] at HS ⊢
          have hbt := fun W => between_any (k : Int) x.frm (x.upto - 1) W
          rw [show betB (k : Int) x.frm (x.upto - 1) = legB (k : Int) x from rfl] at hbt
          obtain ⟨z, hz⟩ : ∃ z, z = legB (k : Int) x := ⟨_, rfl⟩
          rw [← hz] at hbt
          have HBT := Lib.hid hbt
          clear hbt
          have HZ := Lib.hid hz
          clear hz
          clear hx hox ht
          cases t
          · go_wp2_with fail
            go_quiet (first | (go_at_call 72; refine Calls.quiet_of_same ((HBT.out _).mono fun e w' hh => ⟨hh.1, hh.2.symm⟩)))
            go_wp2_with fail
            go_roundg (n - (m + 1))
            case measure => omega
            case rel => exact ⟨m + 1, by omega, by omega, by go_num, by rw [HS.out, ← HZ.out]; rfl, below_drewN hb2 _⟩
          · go_wp2_with fail
            go_quiet (fail)
            go_wp2_with fail
            go_roundg (n - (m + 1))
            case measure => omega
            case rel => exact ⟨m + 1, by omega, by omega, by go_num, by rw [HS.out]; rfl, below_drewN hb2 _⟩
        · obtain rfl : m = n := by omega
          have hT : l.take m = l := List.take_of_length_le (Nat.le_of_eq HLN.out)
          rw [hT]
          obtain ⟨t, ht⟩ : ∃ t, t = takenB l (k : Int) := ⟨_, rfl⟩
          rw [show l.any (legB (k : Int)) = t from ht.symm]
          have hOw := HO.out.bel hb2
          have hbb := hb.trans (hb2.mono hb.size)
          have hsz2 := hbb.size
          obtain ⟨F, hF⟩ : ∃ F, F = (frS l k).1 := ⟨_, rfl⟩
          have hFl := HFS.out
          rw [← hF] at hOw hFl
          rw [← HQ.out] at hFl
          have hF7 : F.length ≤ 7 := by omega
          cases t with
          | true =>
            have HV := Lib.hid (show frS l (k + 1) = (F, false) by rw [hF]; exact frS_taken ht.symm)
            have HOW := Lib.hid hOw
            clear hT ht hF hFl hOw
            go_wp2_with fail
            go_roundg (N - (k + 1))
            case measure => omega
            case rel => exact ⟨k + 1, by omega, by omega, by go_num, by rw [HV.out], xs, by rw [HV.out]; exact HOW.out, hbb⟩
          | false =>
            cases q with
            | false =>
              have HV := Lib.hid (show frS l (k + 1) = (F ++ [⟨k, (k : Int) + 1⟩], true) by rw [hF]; exact frS_shut ht.symm HQ.out.symm)
              have hOq := hOw.below spanC_good (bel1 wr (.cells #[.int .i64 (k : Int), .int .i64 ((k : Int) + 1)] 39))
              have hsq : w.heap.size ≤ (wr.alloc (.cells #[.int .i64 (k : Int), .int .i64 ((k : Int) + 1)] 39)).heap.size := by simp; omega
              have HF7 := Lib.hid hF7
              clear hT ht hF hFl hOw hF7
              go_wp2_with (at_builtin; refine list_app (t := 48) (e := 39) (bytes := 16) rfl (.tmp 37) (.tmp 42) rfl span_elem spanC_good rfl hOq rfl (sl_span _ All (k : Int) ((k : Int) + 1) 39 (.of (by omega) (by omega)) (.of (by omega) (by omega)) trivial) (fun _ _ hc => hc) (by have := HF7.out; omega) (by omega) hsq ?_; intro v' w' xs' hown' hg' _)
              go_roundg (N - (k + 1))
              case measure => omega
              case rel => exact ⟨k + 1, by omega, by omega, by go_num, by rw [HV.out], xs', by rw [HV.out]; exact hown', below_app (hbb.alloc hsz2 _) hOq hg' hsq⟩
            | true =>
              have HV := Lib.hid (show frS l (k + 1) = (setLast F ((k : Int) + 1), true) by rw [hF]; exact frS_open ht.symm HQ.out.symm)
              have hF0 : 0 < F.length := hFl.2 rfl
              obtain ⟨gg, cc, hve, hgg, hgl⟩ := hOw.form hF0
              simp only [Value.slice.injEq] at hve
              obtain ⟨rfl, rfl, rfl⟩ := hve
              obtain ⟨x, hx⟩ : ∃ x, F[F.length - 1]? = some x := ⟨_, List.getElem?_eq_getElem (by omega)⟩
              obtain ⟨cs, ⟨rfl, _⟩, _, hcell, hfr⟩ := hOw.cells hx
              have e1 := hcell 1 _ rfl
              have f1 := hfr ((F.length - 1) * 2 + 1)
              have hin : InI ((k : Int) + 1) := .of (by omega) (by omega)
              have hput := Own.put (j := 1) (x' := ⟨x.frm, (k : Int) + 1⟩) (u := .int .i64 ((k : Int) + 1)) spanC_flat hOw hx (by omega) (fun _ _ cs hc => by obtain ⟨rfl, h1, _⟩ := hc; exact ⟨rfl, h1, hin⟩)
              have hsl : F.set (F.length - 1) ⟨x.frm, (k : Int) + 1⟩ = setLast F ((k : Int) + 1) := by unfold setLast; rw [hx]; rfl
              rw [hsl] at hput
              obtain ⟨j, hj⟩ : ∃ j, F.length = j + 1 := ⟨F.length - 1, by omega⟩
              rw [hj, Nat.add_sub_cancel] at e1 f1 hput
              have hj7 : j ≤ 6 := by omega
              have HPUT := Lib.hid hput
              clear hput
              rw [hj]
              clear hT ht hF hFl hOw hx hcell hfr hsl hF7 hF0 hj
              go_wp2_with fail
              go_roundg (N - (k + 1))
              case measure => omega
              case rel => exact ⟨k + 1, by omega, by omega, by go_num, by rw [HV.out], _, by rw [HV.out]; exact HPUT.out, hbb.setCell (p := ⟨gg, j * 2 + 1, none⟩) hgg _⟩
    · obtain rfl : k = N := by omega
      have HO := Lib.hid hO
      clear hO
      go_wp2_with fail
      go_ret
      exact ⟨_, _, rfl, HO.out, hb⟩
end Go.Proofs.YtlablioefblmkaaGreat
/-
  Spans: plain laws: what the references give is what the code gives.
-/
namespace Go.Proofs.YtlablioefblmkaaGreat
open Go.RowKit Go.Shelf

def cov (P : List Span) (i : Int) : Bool := P.any (inLeg i)
theorem cov_iff {P : List Span} {i : Int} : cov P i = true ↔ ∃ x ∈ P, x.frm ≤ i ∧ i < x.upto := by
  unfold cov inLeg
  rw [List.any_eq_true]
  constructor
  · rintro ⟨x, hx, h⟩; exact ⟨x, hx, by simpa using h⟩
  · rintro ⟨x, hx, h⟩; exact ⟨x, hx, by simpa using h⟩
/-- Two lists of spans that lie apart and cover the same legs are one list. -/
theorem apart_unique {N : Int} : ∀ (P Q : List Span), (∀ x ∈ P, 0 ≤ x.frm ∧ x.frm < x.upto ∧ x.upto ≤ N) → (∀ x ∈ Q, 0 ≤ x.frm ∧ x.frm < x.upto ∧ x.upto ≤ N) →
    P.Pairwise (fun x y => x.upto < y.frm) → Q.Pairwise (fun x y => x.upto < y.frm) → (∀ i, 0 ≤ i → i < N → (cov P i = true ↔ cov Q i = true)) → P = Q := by
  intro P
  induction P with
  | nil =>
    intro Q _ hQ _ _ hc
    cases Q with
    | nil => rfl
    | cons q Q =>
      have hq := hQ q (List.mem_cons_self ..)
      have := (hc q.frm hq.1 (by omega)).2 (cov_iff.2 ⟨q, List.mem_cons_self .., by omega⟩)
      simp [cov] at this
  | cons p P ih =>
    intro Q hP hQ aP aQ hc
    cases Q with
    | nil =>
      have hp := hP p (List.mem_cons_self ..)
      have := (hc p.frm hp.1 (by omega)).1 (cov_iff.2 ⟨p, List.mem_cons_self .., by omega⟩)
      simp [cov] at this
    | cons q Q =>
      have hp := hP p (List.mem_cons_self ..)
      have hq := hQ q (List.mem_cons_self ..)
      rw [List.pairwise_cons] at aP aQ
      have f1 : q.frm ≤ p.frm := by
        obtain ⟨y, hy, h1⟩ := cov_iff.1 ((hc p.frm hp.1 (by omega)).1 (cov_iff.2 ⟨p, List.mem_cons_self .., by omega⟩))
        rcases List.mem_cons.1 hy with rfl | hy
        · omega
        · have := aQ.1 y hy; omega
      have f2 : p.frm ≤ q.frm := by
        obtain ⟨y, hy, h1⟩ := cov_iff.1 ((hc q.frm hq.1 (by omega)).2 (cov_iff.2 ⟨q, List.mem_cons_self .., by omega⟩))
        rcases List.mem_cons.1 hy with rfl | hy
        · omega
        · have := aP.1 y hy; omega
      have u1 : ¬ p.upto < q.upto := fun h => by
        obtain ⟨y, hy, h1⟩ := cov_iff.1 ((hc p.upto (by omega) (by omega)).2 (cov_iff.2 ⟨q, List.mem_cons_self .., by omega⟩))
        rcases List.mem_cons.1 hy with rfl | hy
        · omega
        · have := aP.1 y hy; omega
      have u2 : ¬ q.upto < p.upto := fun h => by
        obtain ⟨y, hy, h1⟩ := cov_iff.1 ((hc q.upto (by omega) (by omega)).1 (cov_iff.2 ⟨p, List.mem_cons_self .., by omega⟩))
        rcases List.mem_cons.1 hy with rfl | hy
        · omega
        · have := aQ.1 y hy; omega
      have he : p = q := by
        obtain ⟨a, b⟩ := p
        obtain ⟨c, d⟩ := q
        simp only at f1 f2 u1 u2
        simp only [Span.mk.injEq]
        omega
      subst he
      rw [ih Q (fun x hx => hP x (List.mem_cons_of_mem _ hx)) (fun x hx => hQ x (List.mem_cons_of_mem _ hx)) aP.2 aQ.2 fun i h0 h1 => ?_]
      constructor
      · intro h
        obtain ⟨y, hy, h2⟩ := cov_iff.1 h
        have h3 := aP.1 y hy
        obtain ⟨z, hz, h4⟩ := cov_iff.1 ((hc i h0 h1).1 (cov_iff.2 ⟨y, List.mem_cons_of_mem _ hy, h2⟩))
        rcases List.mem_cons.1 hz with rfl | hz
        · omega
        · exact cov_iff.2 ⟨z, hz, h4⟩
      · intro h
        obtain ⟨y, hy, h2⟩ := cov_iff.1 h
        have h3 := aQ.1 y hy
        obtain ⟨z, hz, h4⟩ := cov_iff.1 ((hc i h0 h1).2 (cov_iff.2 ⟨y, List.mem_cons_of_mem _ hy, h2⟩))
        rcases List.mem_cons.1 hz with rfl | hz
        · omega
        · exact cov_iff.2 ⟨z, hz, h4⟩

theorem leg_in (i : Int) (x : Span) : legB i x = inLeg i x := by
  unfold legB betB inLeg
  congr 1
  rw [decide_eq_decide]; omega
theorem taken_cov (l : List Span) (i : Int) : takenB l i = cov l i := by
  unfold takenB cov
  congr 1
  funext x
  exact leg_in i x
theorem setLast_app (Q : List Span) (x : Span) (u : Int) : setLast (Q ++ [x]) u = Q ++ [⟨x.frm, u⟩] := by
  unfold setLast
  simp

/-- What is so of what is free of the first legs. -/
theorem frS_inv (l : List Span) (k : Nat) :
    (∀ x ∈ (frS l k).1, 0 ≤ x.frm ∧ x.frm < x.upto ∧ x.upto ≤ (k : Int)) ∧ (frS l k).1.Pairwise (fun x y => x.upto < y.frm) ∧
    (∀ i : Int, 0 ≤ i → i < (k : Int) → (cov (frS l k).1 i = true ↔ ¬ cov l i = true)) ∧
    ((frS l k).2 = true → ∃ Q x, (frS l k).1 = Q ++ [x] ∧ x.upto = (k : Int)) ∧ ((frS l k).2 = false → ∀ x ∈ (frS l k).1, x.upto < (k : Int)) := by
  induction k with
  | zero => exact ⟨by simp [frS], by simp [frS], fun i h0 h1 => by omega, by simp [frS], by simp [frS]⟩
  | succ k ih =>
    obtain ⟨h1, h2, h3, h4, h5⟩ := ih
    have hk : ((k + 1 : Nat) : Int) = (k : Int) + 1 := by omega
    cases ht : takenB l (k : Int) with
    | true =>
      rw [frS_taken ht, hk]
      rw [taken_cov] at ht
      refine ⟨fun x hx => ?_, h2, fun i h0 hi => ?_, by simp, fun _ x hx => ?_⟩
      · have := h1 x hx; omega
      · by_cases e : i = (k : Int)
        · subst e
          constructor
          · intro h
            obtain ⟨y, hy, h6⟩ := cov_iff.1 h
            have := h1 y hy
            omega
          · intro h; exact absurd ht h
        · exact h3 i h0 (by omega)
      · have := h1 x hx; omega
    | false =>
      cases ho : (frS l k).2 with
      | false =>
        rw [frS_shut ht ho, hk]
        rw [taken_cov] at ht
        have h6 := h5 ho
        refine ⟨fun x hx => ?_, ?_, fun i h0 hi => ?_, fun _ => ⟨_, _, rfl, rfl⟩, by simp⟩
        · rcases List.mem_append.1 hx with hx | hx
          · have := h1 x hx; omega
          · simp only [List.mem_singleton] at hx; subst hx; simp only; omega
        · rw [List.pairwise_append]
          refine ⟨h2, by simp, fun y hy z hz => ?_⟩
          simp only [List.mem_singleton] at hz; subst hz; exact h6 y hy
        · have hcv : cov ((frS l k).1 ++ [⟨(k : Int), (k : Int) + 1⟩]) i = (cov (frS l k).1 i || inLeg i ⟨(k : Int), (k : Int) + 1⟩) := by simp [cov]
          rw [hcv]
          by_cases e : i = (k : Int)
          · subst e
            rw [ht]
            simp [inLeg]
            right; omega
          · have : inLeg i ⟨(k : Int), (k : Int) + 1⟩ = false := by unfold inLeg; simp; omega
            rw [this, Bool.or_false]
            exact h3 i h0 (by omega)
      | true =>
        rw [frS_open ht ho, hk]
        rw [taken_cov] at ht
        obtain ⟨Q, x, hQ, hx⟩ := h4 ho
        rw [hQ] at h1 h2 h3 ⊢
        rw [setLast_app]
        rw [List.pairwise_append] at h2
        have hx1 := h1 x (by simp)
        refine ⟨fun y hy => ?_, ?_, fun i h0 hi => ?_, fun _ => ⟨_, _, rfl, rfl⟩, by simp⟩
        · rcases List.mem_append.1 hy with hy | hy
          · have := h1 y (List.mem_append_left _ hy); omega
          · simp only [List.mem_singleton] at hy; subst hy; simp only; omega
        · rw [List.pairwise_append]
          refine ⟨h2.1, by simp, fun y hy z hz => ?_⟩
          simp only [List.mem_singleton] at hz; subst hz; exact h2.2.2 y hy x (by simp)
        · have hcv : cov (Q ++ [⟨x.frm, (k : Int) + 1⟩]) i = (cov Q i || inLeg i ⟨x.frm, (k : Int) + 1⟩) := by simp [cov]
          have hcv2 : cov (Q ++ [x]) i = (cov Q i || inLeg i x) := by simp [cov]
          rw [hcv]
          by_cases e : i = (k : Int)
          · subst e
            rw [ht]
            have : inLeg (k : Int) ⟨x.frm, (k : Int) + 1⟩ = true := by unfold inLeg; simp; omega
            rw [this]; simp
          · have h7 := h3 i h0 (by omega)
            rw [hcv2] at h7
            have : inLeg i ⟨x.frm, (k : Int) + 1⟩ = inLeg i x := by
              unfold inLeg
              simp only
              rw [hx, decide_eq_true (show i < (k : Int) + 1 by omega), decide_eq_true (show i < (k : Int) by omega)]
            rw [this]; exact h7
theorem gapsS_in2 (N : Int) : ∀ n (l : List Span), l.length = n → (∀ x ∈ l, 0 ≤ x.frm ∧ x.frm < x.upto ∧ x.upto ≤ N) → 0 ≤ (gapsS l).2 ∧ ∀ y ∈ (gapsS l).1, 0 ≤ y.frm ∧ y.frm < y.upto ∧ y.upto ≤ N := by
  intro n
  induction n with
  | zero => intro l hl _; obtain rfl : l = [] := List.length_eq_zero_iff.1 hl; exact ⟨by decide, by simp [gapsS]⟩
  | succ n ih =>
    intro l hl hm
    rcases List.eq_nil_or_concat l with rfl | ⟨l', x, rfl⟩
    · simp at hl
    · rw [List.concat_eq_append] at *
      have hx := hm x (by simp)
      obtain ⟨h1, h2⟩ := ih l' (by simp at hl; omega) (fun y hy => hm y (List.mem_append_left _ hy))
      rw [gapsS_snoc]
      unfold gapF
      refine ⟨by simp only; omega, fun y hy => ?_⟩
      rcases List.mem_append.1 hy with hy | hy
      · exact h2 y hy
      · unfold gap at hy
        split at hy
        · simp only [List.mem_singleton] at hy; subst hy; simp only; omega
        · simp at hy
/-- Leg by leg it is the same. -/
theorem free_same {l : List Span} {N : Nat} (h : CalOk l (N : Int)) : (frS l N).1 = gapsL l (N : Int) := by
  obtain ⟨h1, h2, h3, _, _⟩ := frS_inv l N
  have hg := gapsS_in2 (N : Int) l.length l rfl (fun x hx => cal_mem h hx)
  refine apart_unique _ _ h1 (fun x hx => ?_) h2 (free_apart h) fun i h0 hi => ?_
  · unfold gapsL at hx
    rcases List.mem_append.1 hx with hx | hx
    · exact hg.2 x hx
    · unfold gap at hx
      split at hx
      · simp only [List.mem_singleton] at hx; subst hx; simp only; omega
      · simp at hx
  · rw [h3 i h0 hi]
    have hc := free_cnt h h0 hi
    have e1 : ∀ P : List Span, cov P i = true ↔ 0 < cnt i P := fun P => by
      unfold cov cnt
      rw [List.any_eq_true]
      constructor
      · rintro ⟨x, hx, hp⟩
        have := List.length_pos_of_mem (List.mem_filter.2 ⟨hx, hp⟩)
        omega
      · intro hp
        obtain ⟨x, hx⟩ := List.exists_mem_of_length_pos (l := P.filter (inLeg i)) (by omega)
        exact ⟨x, (List.mem_filter.1 hx).1, (List.mem_filter.1 hx).2⟩
    rw [e1, e1]
    have := (cnt_bd i l).1
    have := (cnt_bd i (gapsL l (N : Int))).1
    omega
end Go.Proofs.YtlablioefblmkaaGreat
/-
  Spans: plain laws on taking; the laws' helper spansAre.
-/
namespace Go.Proofs.YtlablioefblmkaaGreat
open Go.RowKit Go.Shelf

theorem takeR_none {l : List Span} {s : Span} (h : ∀ x ∈ l, x ≠ s) : takeR l s = l := by
  unfold takeR
  rw [List.filter_eq_self]
  intro x hx
  simp [notSp, spanQ, h x hx]
theorem takeR_del {s : Span} : ∀ {l : List Span}, l.Pairwise (fun x y => x.frm < y.frm) → s ∈ l → takeR l s = delSp l s := by
  intro l
  induction l with
  | nil => intro _ h; simp at h
  | cons x l ih =>
    intro hp h
    rw [List.pairwise_cons] at hp
    by_cases e : x = s
    · subst e
      have h1 : takeR (x :: l) x = takeR l x := by unfold takeR; rw [List.filter_cons_of_neg (by simp [notSp, spanQ])]
      rw [h1, takeR_none (fun y hy e => by have := hp.1 y hy; rw [e] at this; omega)]
      unfold delSp
      rw [List.findIdx_cons, show spanQ x x = true from spanQ_iff.2 rfl]
      rfl
    · have hm : s ∈ l := by
        rcases List.mem_cons.1 h with h | h
        · exact absurd h.symm e
        · exact h
      have h1 : takeR (x :: l) s = x :: takeR l s := by unfold takeR; rw [List.filter_cons_of_pos (by simp [notSp, spanQ, e])]
      rw [h1, ih hp.2 hm]
      unfold delSp
      rw [List.findIdx_cons, show spanQ s x = false by simp [spanQ]; exact fun h => e h.symm]
      rfl
theorem delSp_len {l : List Span} {s : Span} (h : l.any (spanQ s) = true) : (delSp l s).length + 1 = l.length := by
  have hi : l.findIdx (spanQ s) < l.length := List.findIdx_lt_length_of_exists (by simpa using h)
  unfold delSp
  rw [List.length_append, List.length_take, List.length_drop]
  omega
/-- What the reference takes is what the code takes. -/
theorem take_same {l : List Span} {legs : Int} {s : Span} (h : CalOk l legs) (hr : readySpE l legs s = 0) : takeE l legs s = tkE (takeR l s) l ∧ okL (takeE l legs s) (delSp l s) = tkL (takeR l s) l := by
  unfold takeE
  rw [hr, if_neg (by simp)]
  cases q : l.any (spanQ s) with
  | true =>
    obtain ⟨y, hy, he⟩ := List.any_eq_true.1 q
    obtain rfl : s = y := spanQ_iff.1 he
    have ht := takeR_del (pair_lt (fun x hx => (cal_mem h hx).2.1) (cal_pair h)) hy
    have hl := delSp_len q
    rw [ht, if_pos rfl, okL_zero]
    exact ⟨(if_neg (by omega)).symm, (if_neg (by omega)).symm⟩
  | false =>
    have ht : takeR l s = l := takeR_none fun x hx e => by
      have := List.any_eq_false.1 q x hx
      exact this (spanQ_iff.2 e.symm)
    rw [ht, if_neg (by simp), okL_ne (by decide)]
    exact ⟨(if_pos rfl).symm, (if_pos rfl).symm⟩
/-- What the reference adds is what the code adds. -/
theorem add_same {l : List Span} {legs : Int} {s : Span} (hr : readySpE l legs s = 0) : spAddE l legs s = adE l s := by
  unfold spAddE
  rw [hr, if_neg (by simp)]
  rfl

set_option maxRecDepth 100000 in
set_option maxHeartbeats 2000000 in
theorem spansAre_any (A B : Option Addr) (n cap m cap2 : Nat) (l k : List Span) (u : Int) (w : World) (h : Sl spanC 2 w All A n cap (okL u l)) (h2 : Sl spanC 2 w All B m cap2 k) (hk : u = 0 → k = l) :
    Calls Tryz.prog 26 #[.slice A n cap, .int .i64 u, .int .i64 u, .slice B m cap2] w fun e w' => e = .returned (.bool true) ∧ Below w.heap.size w w' := by
  by_cases h0 : u = 0
  · obtain rfl := hk h0
    subst h0
    rw [okL_zero] at h
    have hs := SameSpans_any _ _ _ _ _ _ _ _ _ h h2
    rw [show decide (k = k) = true by simp] at hs
    have HS := Lib.hid hs
    clear hs
    clear h h2 hk
    go_enter Tryz.func26, Tryz.ntmps26
    go_wp2_with fail
    refine HS.out.mono ?_
    rintro e w6 ⟨rfl, q, rfl⟩
    go_wp2_with fail
    go_ret
    exact ⟨rfl, below_drewN (Below.refl _ _) _⟩
  · rw [okL_ne h0] at h
    have h0' : (u != 0) = true := by simpa using h0
    have hs := SameSpans_any _ _ _ _ _ _ _ _ _ h (Sl.nil w All spanC 2)
    rw [show decide (([] : List Span) = []) = true by decide] at hs
    have HS := Lib.hid hs
    clear hs
    clear h h2 hk h0
    go_enter Tryz.func26, Tryz.ntmps26
    go_wp2_with fail
    refine HS.out.mono ?_
    rintro e w6 ⟨rfl, q, rfl⟩
    go_wp2_with fail
    go_ret
    exact ⟨rfl, below_drewN (Below.refl _ _) _⟩
end Go.Proofs.YtlablioefblmkaaGreat
/-
  The laws' helper intsAre.
-/
namespace Go.Proofs.YtlablioefblmkaaGreat
open Go.RowKit Go.Shelf

/-- What intsAre answers. -/
def listIs {α : Type} [DecidableEq α] (l : List α) (e v : Int) (l2 : List α) : Bool := e == v && decide (l = okL v l2)

theorem intsAre_any (A B : Option Addr) (n cap m cap2 : Nat) (l l2 : List Int) (e0 v0 : Int) (w : World) (h : Sl intC 1 w All A n cap l) (h2 : Sl intC 1 w All B m cap2 l2) :
    Calls Tryz.prog 24 #[.slice A n cap, .int .i64 e0, .int .i64 v0, .slice B m cap2] w fun e w' => e = .returned (.bool (listIs l e0 v0 l2)) ∧ Below w.heap.size w w' := by
  by_cases he : e0 = v0
  · subst he
    have hee : (e0 == e0) = true := by simp
    by_cases hv : e0 = 0
    · subst hv
      have HF := Lib.hid (show listIs l 0 0 l2 = decide (l = l2) by simp [listIs, okL])
      go_enter Tryz.func24, Tryz.ntmps24
      go_wp2_with (go_at_call 56; refine (SameInts_any _ _ _ _ _ _ l l2 _ h h2).mono ?_; rintro e w' ⟨rfl, q, rfl⟩)
      go_ret
      exact ⟨retB (by rw [HF.out]), below_drewN (Below.refl _ _) _⟩
    · have hv' : (e0 != 0) = true := by simpa using hv
      have HF := Lib.hid (show listIs l e0 e0 l2 = decide (l = []) by simp [listIs, okL, hv])
      clear hv
      go_enter Tryz.func24, Tryz.ntmps24
      go_wp2_with (go_at_call 56; refine (SameInts_any _ _ _ _ _ _ l [] _ h (Sl.nil _ _ _ _)).mono ?_; rintro e w' ⟨rfl, q, rfl⟩)
      go_ret
      exact ⟨retB (by rw [HF.out]), below_drewN (Below.refl _ _) _⟩
  · have hee : (e0 == v0) = false := by simpa using he
    have HF := Lib.hid (show listIs l e0 v0 l2 = false by simp [listIs, he])
    clear he
    by_cases hv : v0 = 0
    · subst hv
      go_enter Tryz.func24, Tryz.ntmps24
      go_wp2_with fail
      go_ret
      exact ⟨retB (by rw [HF.out]), Below.refl _ _⟩
    · have hv' : (v0 != 0) = true := by simpa using hv
      clear hv
      go_enter Tryz.func24, Tryz.ntmps24
      go_wp2_with fail
      go_ret
      exact ⟨retB (by rw [HF.out]), Below.refl _ _⟩

end Go.Proofs.YtlablioefblmkaaGreat
